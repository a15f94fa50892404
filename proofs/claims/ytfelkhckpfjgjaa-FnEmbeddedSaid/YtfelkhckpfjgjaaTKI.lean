/- Looking for an embedding: the reference. No condition. -/
import Derived.Test.YtfelkhckpfjgjaaTEP
import Derived.Test.YtfelkhckpfjgjaaTKD
set_option linter.unusedSimpArgs false
set_option linter.unusedVariables false
namespace Go.Vm
open Go.Proofs
def firstS {β : Type} (f : Nat → Option β) : Nat → Nat → Option β
  | 0, _ => none
  | m + 1, k => match f k with
    | some x => some x
    | none => firstS f m (k + 1)
theorem firstS_hit {β : Type} {f : Nat → Option β} {m k : Nat} {x : β} (h : f k = some x) : firstS f (m + 1) k = some x := by simp [firstS, h]
theorem firstS_miss {β : Type} {f : Nat → Option β} {m k : Nat} (h : f k = none) : firstS f (m + 1) k = firstS f m (k + 1) := by simp [firstS, h]
theorem firstS_some {β : Type} {f : Nat → Option β} {x : β} : ∀ {m k : Nat}, firstS f m k = some x → ∃ j, k ≤ j ∧ j < k + m ∧ f j = some x
  | 0, k, h => by simp [firstS] at h
  | m + 1, k, h => by
    cases e : f k with
    | some y =>
      rw [firstS_hit e] at h
      exact ⟨k, by omega, by omega, by rw [e, h]⟩
    | none =>
      rw [firstS_miss e] at h
      obtain ⟨j, h1, h2, h3⟩ := firstS_some h
      exact ⟨j, by omega, by omega, h3⟩
def okB (s t : Strc) (to : List Int) (j : Nat) : Bool := fitsB s t (to ++ [(j : Int)]) to.length
def findE (s t : Strc) : Nat → List Int → Option (List Int)
  | 0, to => if ontoB t to = true then some to else none
  | n + 1, to => firstS (fun j => if okB s t to j = true then findE s t n (to ++ [(j : Int)]) else none) t.nodes.length 0
def stepE (s t : Strc) (n : Nat) (to : List Int) (j : Nat) : Option (List Int) := if okB s t to j = true then findE s t n (to ++ [(j : Int)]) else none
theorem findE_succ (s t : Strc) (n : Nat) (to : List Int) : findE s t (n + 1) to = firstS (stepE s t n to) t.nodes.length 0 := rfl
theorem stepE_ok {s t : Strc} {n : Nat} {to : List Int} {j : Nat} (h : okB s t to j = true) : stepE s t n to j = findE s t n (to ++ [(j : Int)]) := by simp [stepE, h]
theorem stepE_bad {s t : Strc} {n : Nat} {to : List Int} {j : Nat} (h : okB s t to j = false) : stepE s t n to j = none := by simp [stepE, h]
theorem findE_pre {s t : Strc} : ∀ {n : Nat} {to out : List Int}, findE s t n to = some out → out.length = to.length + n ∧ out.take to.length = to
  | 0, to, out, h => by
    unfold findE at h
    split at h
    · simp only [Option.some.injEq] at h; subst h; simp
    · cases h
  | n + 1, to, out, h => by
    rw [findE_succ] at h
    obtain ⟨j, -, -, h3⟩ := firstS_some h
    unfold stepE at h3
    split at h3
    · obtain ⟨h4, h5⟩ := findE_pre h3
      simp only [List.length_append, List.length_cons, List.length_nil] at h4 h5
      refine ⟨by omega, ?_⟩
      have := congrArg (List.take to.length) h5
      rw [List.take_take, Nat.min_eq_left (by omega), List.take_append_of_le_length (by omega), List.take_length] at this
      exact this
    · cases h3
theorem getD_last {a : List Int} {v : Int} : (a ++ [v]).getD a.length 0 = v := by simp [List.getD_eq_getElem?_getD]
theorem allN_snoc {t : Strc} {to : List Int} {j : Nat} (h : allN t to to.length) (hj : j < t.nodes.length) : allN t (to ++ [(j : Int)]) (to.length + 1) := fun k hk => by
  by_cases e : k = to.length
  · subst e; rw [getD_last]; exact ⟨by omega, by omega⟩
  · rw [getD_pre (by omega)]; exact h k (by omega)
theorem allN_pre {t : Strc} {to : List Int} {j : Nat} (h : allN t to to.length) : allN t (to ++ [(j : Int)]) to.length := fun k hk => by
  rw [getD_pre (by omega)]; exact h k (by omega)
theorem fitsTo_snoc {s t : Strc} {to : List Int} {j : Nat} (h : fitsTo s t to to.length = true) (hj : j < t.nodes.length) (e : okB s t to j = true) : fitsTo s t (to ++ [(j : Int)]) (to.length + 1) = true := by
  apply fitsTo_good
  intro k hk
  by_cases q : k = to.length
  · subst q
    rw [getD_last, Bool.and_eq_true]
    exact ⟨decide_eq_true ⟨by omega, by omega⟩, e⟩
  · have h1 := List.all_eq_true.1 h k (by simp; omega)
    rw [getD_pre (by omega)]
    rw [fitsB_congr (a := to ++ [(j : Int)]) (b := to) fun i hi => getD_pre (by omega)]
    exact h1
theorem embB_full {s t : Strc} {to : List Int} (h : to.length = s.nodes.length) (hf : fitsTo s t to to.length = true) : embB s t to = ontoB t to := by
  rw [embB_eq, hf, decide_eq_true h]; rfl
theorem ite_nil {α : Type} {xs : List α} {b : Nat} {X : List Blk} : (if xs = [] then some (AV.slref b 0 xs.length 0, X) else some (AV.slref b 0 xs.length xs.length, X)) = some (AV.slref b 0 xs.length xs.length, X) := by
  split
  · rename_i h; subst h; rfl
  · rfl
theorem lend_snoc {m : Nat → Blk → Bool} {H : List Blk} {n : Nat} {to : List Int} {k : Int} : lendEls m H n (List.take (to.length + 1) (List.map encInt to ++ [AV.int .i64 k])) = some (List.map encInt to ++ [AV.int .i64 k]) := by
  have e : List.map encInt to ++ [AV.int .i64 k] = List.map encInt (to ++ [k]) := by simp
  rw [e, List.take_of_length_le (by simp)]
  simp [-List.map_append]
theorem mksl_snoc {to : List Int} {k : Int} : mksl 1 (List.map encInt to ++ [AV.int .i64 k]) = encL 1 encInt (to ++ [k]) := by
  have e : List.map encInt to ++ [AV.int .i64 k] = List.map encInt (to ++ [k]) := by simp
  rw [e]; rfl
def code_spec_l16Find : F := ⟨51,[.tmp 6,.tmp 7],.seq (.reg [⟨some 3,.box (.t 0),none⟩,⟨some 4,.box (.t 1),none⟩,⟨some 6,.mov (.k (.sl .nil 0 [])),none⟩,⟨some 7,.mov (.k (.bool false)),none⟩]) (.seq (.seq (.reg [⟨some 12,.mov (.t 2),none⟩,⟨some 13,.len (.t 12),none⟩,⟨some 14,.faddr 0 (.t 3),none⟩,⟨some 15,.load 1 false (.t 14),none⟩,⟨some 16,.len (.t 15),none⟩,⟨some 17,.bin .eql (.t 13) (.t 16),none⟩]) (.cond (.t 17) (.seq (.reg [⟨some 18,.mov (.t 2),none⟩,⟨some 19,.load 2 true (.t 3),none⟩,⟨some 20,.load 2 true (.t 4),none⟩,⟨some 21,.mov (.t 2),none⟩,⟨some 22,.call 13 [.t 19,.t 20,.t 21],none⟩,⟨some 6,.mov (.t 18),none⟩,⟨some 7,.mov (.t 22),none⟩]) (.ret)) (.skip))) (.seq (.seq (.reg [⟨some 8,.mov (.k (.int .i64 0)),none⟩]) (.block 0 (.loop (.seq (.seq (.reg [⟨some 23,.mov (.t 8),none⟩,⟨some 24,.faddr 0 (.t 4),none⟩,⟨some 25,.load 1 false (.t 24),none⟩,⟨some 26,.len (.t 25),none⟩,⟨some 27,.bin .lss (.t 23) (.t 26),none⟩]) (.cond (.t 27) (.skip) (.exit 0))) (.seq (.block 1 (.seq (.reg [⟨some 30,.bsl 3 1 0 (.int .i64 0) [],none⟩,⟨some 31,.mov (.t 2),none⟩,⟨some 32,.append 3 1 8 (.t 30) (.t 31),none⟩,⟨some 33,.mov (.t 8),none⟩,⟨some 34,.bsl 3 1 1 (.int .i64 0) [(0,.t 33)],none⟩,⟨some 35,.append 3 1 8 (.t 32) (.t 34),none⟩,⟨some 9,.mov (.t 35),none⟩]) (.seq (.seq (.reg [⟨some 36,.load 2 true (.t 3),none⟩,⟨some 37,.load 2 true (.t 4),none⟩,⟨some 38,.mov (.t 9),none⟩,⟨some 39,.call 49 [.t 36,.t 37,.t 38],none⟩,⟨some 40,.not (.t 39),none⟩]) (.cond (.t 40) (.exit 1) (.skip))) (.seq (.reg [⟨some 42,.load 2 true (.t 3),none⟩,⟨some 43,.load 2 true (.t 4),none⟩,⟨some 44,.mov (.t 9),none⟩,⟨some 45,.call 44 [.t 42,.t 43,.t 44],none⟩,⟨some 41,.mov (.t 45),none⟩,⟨some 46,.extr (.t 41) 0,none⟩,⟨some 47,.extr (.t 41) 1,none⟩,⟨some 10,.mov (.t 46),none⟩,⟨some 11,.mov (.t 47),none⟩]) (.seq (.reg [⟨some 48,.mov (.t 11),none⟩]) (.cond (.t 48) (.seq (.reg [⟨some 49,.mov (.t 10),none⟩,⟨some 6,.mov (.t 49),none⟩,⟨some 7,.mov (.k (.bool true)),none⟩]) (.ret)) (.skip))))))) (.reg [⟨some 28,.mov (.t 8),none⟩,⟨some 29,.bin .add (.t 28) (.k (.int .i64 1)),none⟩,⟨some 8,.mov (.t 29),none⟩])))))) (.seq (.reg [⟨some 50,.bsl 3 1 0 (.int .i64 0) [],none⟩,⟨some 6,.mov (.t 50),none⟩,⟨some 7,.mov (.k (.bool false)),none⟩]) (.ret))))⟩
theorem fok_spec_l16Find : FOk Try.prog 44 code_spec_l16Find := fok Try.func44 (by kernel_rfl)
def code_spec_FindEmbedding : F := ⟨21,[.tmp 4,.tmp 5],.seq (.reg [⟨some 2,.box (.t 0),none⟩,⟨some 3,.box (.t 1),none⟩,⟨some 4,.mov (.k (.sl .nil 0 [])),none⟩,⟨some 5,.mov (.k (.bool false)),none⟩]) (.seq (.reg [⟨some 9,.load 2 true (.t 2),none⟩,⟨some 10,.load 2 true (.t 3),none⟩,⟨some 11,.bsl 3 1 0 (.int .i64 0) [],none⟩,⟨some 12,.call 44 [.t 9,.t 10,.t 11],none⟩,⟨some 8,.mov (.t 12),none⟩,⟨some 13,.extr (.t 8) 0,none⟩,⟨some 14,.extr (.t 8) 1,none⟩,⟨some 6,.mov (.t 13),none⟩,⟨some 7,.mov (.t 14),none⟩]) (.seq (.seq (.reg [⟨some 15,.mov (.t 7),none⟩,⟨some 16,.not (.t 15),none⟩]) (.cond (.t 16) (.seq (.reg [⟨some 17,.bsl 3 1 0 (.int .i64 0) [],none⟩,⟨some 4,.mov (.t 17),none⟩,⟨some 5,.mov (.k (.bool false)),none⟩]) (.ret)) (.skip))) (.seq (.reg [⟨some 18,.bsl 3 1 0 (.int .i64 0) [],none⟩,⟨some 19,.mov (.t 6),none⟩,⟨some 20,.append 3 1 8 (.t 18) (.t 19),none⟩,⟨some 4,.mov (.t 20),none⟩,⟨some 5,.mov (.k (.bool true)),none⟩]) (.ret))))⟩
theorem fok_spec_FindEmbedding : FOk Try.prog 10 code_spec_FindEmbedding := fok Try.func10 (by kernel_rfl)
def code_spec_IsEmbedded : F := ⟨14,[.tmp 4],.seq (.reg [⟨some 2,.box (.t 0),none⟩,⟨some 3,.box (.t 1),none⟩,⟨some 4,.mov (.k (.bool false)),none⟩]) (.seq (.reg [⟨some 8,.load 2 true (.t 2),none⟩,⟨some 9,.load 2 true (.t 3),none⟩,⟨some 10,.call 10 [.t 8,.t 9],none⟩,⟨some 7,.mov (.t 10),none⟩,⟨some 11,.extr (.t 7) 0,none⟩,⟨some 12,.extr (.t 7) 1,none⟩,⟨some 5,.mov (.t 11),none⟩,⟨some 6,.mov (.t 12),none⟩]) (.seq (.reg [⟨some 13,.mov (.t 6),none⟩,⟨some 4,.mov (.t 13),none⟩]) (.ret)))⟩
theorem fok_spec_IsEmbedded : FOk Try.prog 18 code_spec_IsEmbedded := fok Try.func18 (by kernel_rfl)
def fresE (s t : Strc) : Nat → List Int → List Int × Bool
  | 0, to => (to, ontoB t to)
  | n + 1, to => match findE s t (n + 1) to with
    | some out => (out, true)
    | none => ([], false)
theorem fresE_some {s t : Strc} {n : Nat} {to out : List Int} (h : findE s t n to = some out) : fresE s t n to = (out, true) := by
  cases n with
  | zero =>
    unfold findE at h
    split at h
    · rename_i ho
      simp only [Option.some.injEq] at h; subst h
      simp [fresE, ho]
    · cases h
  | succ n => simp [fresE, h]
theorem fresE_none {s t : Strc} {n : Nat} {to : List Int} (h : findE s t n to = none) : (fresE s t n to).2 = false := by
  cases n with
  | zero =>
    unfold findE at h
    split at h
    · cases h
    · rename_i ho
      simpa [fresE] using ho
  | succ n => simp [fresE, h]
@[simp] def ct_l16Find (n : Nat) : Ct := ⟨44, Strc × Strc × List Int, fun x => (szStrc x.1 ≤ 1048576 ∧ szStrc x.2.1 ≤ 1048576) ∧ x.2.2.length + n = x.1.nodes.length ∧ allN x.2.1 x.2.2 x.2.2.length ∧ fitsTo x.1 x.2.1 x.2.2 x.2.2.length = true,
  fun x => [encStrc x.1, encStrc x.2.1, encL 1 encInt x.2.2], fun x => .tup [encL 1 encInt (fresE x.1 x.2.1 n x.2.2).1, .bool (fresE x.1 x.2.1 n x.2.2).2]⟩
set_option maxHeartbeats 4000000 in
set_option maxRecDepth 100000 in
theorem l16Find_step (n : Nat) (ih : ∀ m, m < n → (ct_l16Find m).Ok Try.prog) : (ct_l16Find n).Ok Try.prog := by
  rintro ⟨s, t, to⟩ hx
  change (szStrc s ≤ 1048576 ∧ szStrc t ≤ 1048576) ∧ to.length + n = s.nodes.length ∧ allN t to to.length ∧ fitsTo s t to to.length = true at hx
  obtain ⟨⟨hs, ht⟩, hlen, hall, hfit⟩ := hx
  have hsl := strc_le s
  have htl := strc_le t
  cases n with
  | zero =>
    have h0 : to.length = s.nodes.length := by omega
    have he := embB_full h0 hfit
    refine Ok.of_cw fok_spec_l16Find (go_ok (tab_cons ok_sIsEmbedding tab_nil) ?_)
    simp [code_spec_l16Find, List.replicate, h0, hs, ht, he, fresE]
  | succ n =>
    have h0 : ¬ to.length = s.nodes.length := by omega
    have h0' : ¬ (to.length : Int) = s.nodes.length := by omega
    refine Ok.of_cw fok_spec_l16Find (go_ok tab_nil ?_)
    simp [code_spec_l16Find, List.replicate, h0, h0']
    refine cw_round (fun (k : Nat) => ⟨slots 51 [(2, encL 1 encInt to), (3, .pbox 0 0), (4, .pbox 1 0), (8, .int .i64 k)], [.cells [encL 4 encNode s.nodes, encL 1 encInt s.next], .cells [encL 4 encNode t.nodes, encL 1 encInt t.next]]⟩)
      (fun k => k ≤ t.nodes.length ∧ findE s t (n + 1) to = firstS (stepE s t n to) (t.nodes.length - k) k) (fun k => t.nodes.length - k) 0 ⟨by omega, findE_succ s t n to⟩ ?_ ?_
    · exact weak_seal 2 (by omega) (by simp) (by simp [List.replicate])
    · rintro N hN k ⟨hk, hn⟩
      have hw : IntKind.i64.wrap ((k : Int) + 1) = ((k + 1 : Nat) : Int) := by rw [wrap_i64] <;> omega
      have hb1 : to.length * 8 ≤ 140737488355328 := by omega
      have hb : (to.length + 1) * 8 ≤ 140737488355328 := by omega
      by_cases g : k < t.nodes.length
      · have g2 : ¬ t.nodes.length ≤ k := by omega
        obtain ⟨d, hd⟩ : ∃ d, t.nodes.length - k = d + 1 := ⟨t.nodes.length - k - 1, by omega⟩
        rw [hd] at hn
        have hsn : to.length < s.nodes.length := by omega
        have hal := allN_snoc hall g
        refine go_ok (tab_cons ok_l16Fits (tab_cons (ih n (by omega)) tab_nil)) ?_
        cases e : okB s t to k
        · rw [firstS_miss (stepE_bad e)] at hn
          have e' : fitsB s t (to ++ [(k : Int)]) to.length = false := e
          simp (config := {maxSteps := 2000000}) [List.replicate, hw, g, g2, hb, hb1, app1, ite_nil, lend_snoc, mksl_snoc, hs, ht, hsn, hal, e']
          refine hN _ (k + 1) _ ⟨by omega, ?_⟩ (by omega) (weak_seal 2 (by omega) ?_ ?_)
          · rw [hn]; congr 1; omega
          · simp
          · simp [List.replicate]
        · have e' : fitsB s t (to ++ [(k : Int)]) to.length = true := e
          have hfit2 := fitsTo_snoc hfit g e
          have hlen2 : to.length + 1 + n = s.nodes.length := by omega
          cases r : findE s t n (to ++ [(k : Int)]) with
          | some out =>
            rw [firstS_hit ((stepE_ok e).trans r)] at hn
            have hr := fresE_some r
            simp (config := {maxSteps := 2000000}) [List.replicate, hw, g, g2, hb, hb1, app1, ite_nil, lend_snoc, mksl_snoc, hs, ht, hsn, hal, e', hfit2, hlen2, hr, Blk.freeze, Blk.frozen, capOk]
            simp [fresE_some hn]
          | none =>
            rw [firstS_miss ((stepE_ok e).trans r)] at hn
            have hr := fresE_none r
            simp (config := {maxSteps := 2000000}) [List.replicate, hw, g, g2, hb, hb1, app1, ite_nil, lend_snoc, mksl_snoc, hs, ht, hsn, hal, e', hfit2, hlen2, hr, Blk.freeze, Blk.frozen, capOk]
            refine hN _ (k + 1) _ ⟨by omega, ?_⟩ (by omega) (weak_seal 2 (by omega) ?_ ?_)
            · rw [hn]; congr 1; omega
            · simp
            · simp [List.replicate]
      · have hz : t.nodes.length - k = 0 := by omega
        rw [hz] at hn
        change findE s t (n + 1) to = none at hn
        have g2 : t.nodes.length ≤ k := by omega
        refine go_ok tab_nil ?_
        simp [List.replicate, g, g2, fresE, hn]
theorem ok_l16Find (n : Nat) : (ct_l16Find n).Ok Try.prog := by
  induction n using Nat.strongRecOn with
  | ind n ih => exact l16Find_step n ih
def embed (s t : Strc) : Option (List Int) := findE s t s.nodes.length []
theorem allN_nil {t : Strc} : allN t [] 0 := fun k hk => absurd hk (by omega)
theorem fitsTo_nil {s t : Strc} : fitsTo s t [] 0 = true := rfl
@[simp] def ct_sFindEmb : Ct := ⟨10, Strc × Strc, fun x => szStrc x.1 ≤ 1048576 ∧ szStrc x.2 ≤ 1048576, fun x => [encStrc x.1, encStrc x.2], fun x => .tup [encL 1 encInt ((embed x.1 x.2).getD []), .bool (embed x.1 x.2).isSome]⟩
set_option maxHeartbeats 1000000 in
theorem ok_sFindEmb : ct_sFindEmb.Ok Try.prog := by
  rintro ⟨s, t⟩ ⟨hs, ht⟩
  change szStrc s ≤ 1048576 at hs
  change szStrc t ≤ 1048576 at ht
  have hsl := strc_le s
  refine Ok.of_cw fok_spec_FindEmbedding (go_ok (tab_cons (ok_l16Find s.nodes.length) tab_nil) ?_)
  cases r : findE s t s.nodes.length [] with
  | none =>
    have hr := fresE_none r
    have he : embed s t = none := r
    simp [code_spec_FindEmbedding, List.replicate, hs, ht, allN_nil, fitsTo_nil, hr, he, Blk.freeze, Blk.frozen, capOk]
  | some out =>
    have hr := fresE_some r
    have he : embed s t = some out := r
    have hlen := (findE_pre r).1
    have hb : out.length * 8 ≤ 140737488355328 := by simp at hlen; omega
    simp [code_spec_FindEmbedding, List.replicate, hs, ht, allN_nil, fitsTo_nil, hr, he, Blk.freeze, Blk.frozen, capOk, hb, ite_nil]
@[simp] def ct_sIsEmbedded : Ct := ⟨18, Strc × Strc, fun x => szStrc x.1 ≤ 1048576 ∧ szStrc x.2 ≤ 1048576, fun x => [encStrc x.1, encStrc x.2], fun x => .bool (embed x.1 x.2).isSome⟩
theorem ok_sIsEmbedded : ct_sIsEmbedded.Ok Try.prog := by
  rintro ⟨s, t⟩ ⟨hs, ht⟩
  change szStrc s ≤ 1048576 at hs
  change szStrc t ≤ 1048576 at ht
  refine Ok.of_cw fok_spec_IsEmbedded (go_ok (tab_cons ok_sFindEmb tab_nil) ?_)
  simp [code_spec_IsEmbedded, List.replicate, hs, ht]
end Go.Vm
namespace Go.Vm
open Go.Proofs
@[simp] def ct_sFindN : CtN := ⟨10, Strc × Strc, fun x => szStrc x.1 ≤ 1048576 ∧ szStrc x.2 ≤ 1048576, fun x => [encStrc x.1, encStrc x.2], fun x => .tup [.slref 3 0 ((embed x.1 x.2).getD []).length ((embed x.1 x.2).getD []).length, .bool (embed x.1 x.2).isSome], fun x => [.dead, .dead, .dead, .row true 3 1 (((embed x.1 x.2).getD []).map encInt)]⟩
set_option maxHeartbeats 2000000 in
theorem ok_sFindN : ct_sFindN.Ok Try.prog := by
  refine ⟨?_, fun _ _ => rfl, fun x _ => by simp [ownB]⟩
  rintro ⟨s, t⟩ ⟨hs, ht⟩
  change szStrc s ≤ 1048576 at hs
  change szStrc t ≤ 1048576 at ht
  simp only [ct_sFindN]
  have hsl := strc_le s
  have hT : TabOk Try.prog _ := tab_cons (ok_l16Find s.nodes.length) tab_nil
  cases r : findE s t s.nodes.length [] with
  | none =>
    have hr := fresE_none r
    have he : embed s t = none := r
    rw [he]
    refine OkH.of_cw fok_spec_FindEmbedding (go_ok hT ?_)
    simp [code_spec_FindEmbedding, List.replicate, hs, ht, allN_nil, fitsTo_nil, hr, he, capOk, Blk.freeze, Blk.frozen]
    refine ⟨⟨slots 21 [(4, .slref 3 0 0 0), (5, .bool false)], _⟩, weak_less (H' := [.dead, .dead, .dead, .row true 3 1 ([])]) (by simp) (by simp [List.replicate]), by simp [retH, List.replicate]⟩
  | some out =>
    have hr := fresE_some r
    have he : embed s t = some out := r
    have hlen := (findE_pre r).1
    have hb : out.length * 8 ≤ 140737488355328 := by simp at hlen; omega
    rw [he]
    by_cases h0 : out = []
    · subst h0
      refine OkH.of_cw fok_spec_FindEmbedding (go_ok hT ?_)
      simp [code_spec_FindEmbedding, List.replicate, hs, ht, allN_nil, fitsTo_nil, hr, he, capOk, Blk.freeze, Blk.frozen]
      refine ⟨⟨slots 21 [(4, .slref 3 0 0 0), (5, .bool true)], _⟩, weak_less (H' := [.dead, .dead, .dead, .row true 3 1 ([])]) (by simp) (by simp [List.replicate]), by simp [retH, List.replicate]⟩
    · refine OkH.of_cw fok_spec_FindEmbedding (go_ok hT ?_)
      simp [code_spec_FindEmbedding, List.replicate, hs, ht, allN_nil, fitsTo_nil, hr, he, capOk, hb, h0, Blk.freeze, Blk.frozen]
      refine ⟨⟨slots 21 [(4, .slref 3 0 out.length out.length), (5, .bool true)], _⟩, weak_less (H' := [.dead, .dead, .dead, .row true 3 1 (out.map encInt)]) (by simp) (by simp [List.replicate]), by simp [retH, List.replicate]⟩
theorem pair16_sh (c : Cur) : Sh12 (pair16 c).2.1 ∧ Sh12 (pair16 c).2.2 := by
  obtain ⟨hl1, hl2⟩ := drawH_len c 3
  have hsh := strcOf_sh (drawH_fit c) hl1 hl2
  have hb := blurS_sh hsh
  have hd := (d12_sh (drawY c 3).1.step).1
  unfold pair16
  generalize (drawY c 3).1.step = e at *
  generalize strcOf (drawH c 3) = s at *
  (repeat' split)
  · exact ⟨hsh, hd⟩
  · exact ⟨hb, hsh⟩
  · exact ⟨hd, hb⟩
  · exact ⟨hsh, hb⟩
def dr3 (c : Cur) : Nat → Cur × List Int
  | 0 => (c, [])
  | k + 1 => ((dr3 c k).1.step, (dr3 c k).2 ++ [(dr3 c k).1.below 3])
theorem dr3_buf (c : Cur) : ∀ k, (dr3 c k).1.buf = c.buf
  | 0 => rfl
  | k + 1 => dr3_buf c k
theorem dr3_len (c : Cur) : ∀ k, (dr3 c k).2.length = k
  | 0 => rfl
  | k + 1 => by simp [dr3, dr3_len c k]
def drawTo (c : Cur) (s t : Strc) : List Int :=
  match embed s t with
  | some m => if c.below 3 = 0 ∧ 0 < m.length then m.set (c.step.below m.length).toNat (c.step.step.below 4 - 1) else m
  | none => (dr3 c s.nodes.length).2
def drawI3 (bs : List UInt8) : List Int := drawTo (pair16 (cur0 bs)).1 (pair16 (cur0 bs)).2.1 (pair16 (cur0 bs)).2.2
def code_spec_DrawIsEmbedding : F := ⟨60,[.cell 2 true 2,.cell 2 true 3,.tmp 4],.seq (.reg [⟨some 2,.alloc [(.sl .nil 0 []),(.sl .nil 0 [])],none⟩,⟨some 3,.alloc [(.sl .nil 0 []),(.sl .nil 0 [])],none⟩,⟨some 4,.mov (.k (.sl .nil 0 [])),none⟩]) (.seq (.reg [⟨some 11,.mov (.t 0),none⟩,⟨some 12,.call 36 [.t 11],none⟩,⟨some 5,.mov (.t 12),none⟩]) (.seq (.reg [⟨some 14,.mov (.t 5),none⟩,⟨some 15,.call 37 [.t 14],none⟩,⟨some 13,.mov (.t 15),none⟩,⟨some 16,.extr (.t 13) 0,none⟩,⟨some 17,.extr (.t 13) 1,none⟩,⟨some 6,.alloc [(.sl .nil 0 []),(.sl .nil 0 [])],none⟩,⟨some 7,.alloc [(.sl .nil 0 []),(.sl .nil 0 [])],none⟩,⟨none,.store 2 (.t 6) (.t 16),none⟩,⟨none,.store 2 (.t 7) (.t 17),none⟩]) (.seq (.reg [⟨some 19,.load 2 true (.t 6),none⟩,⟨some 20,.load 2 true (.t 7),none⟩,⟨some 21,.call 10 [.t 19,.t 20],none⟩,⟨some 18,.mov (.t 21),none⟩,⟨some 22,.extr (.t 18) 0,none⟩,⟨some 23,.extr (.t 18) 1,none⟩,⟨some 8,.mov (.t 22),none⟩,⟨some 9,.mov (.t 23),none⟩]) (.seq (.seq (.reg [⟨some 24,.mov (.t 9),none⟩,⟨some 25,.mov (.t 24),none⟩,⟨some 26,.mov (.t 5),some (25,true)⟩,⟨some 27,.call 38 [.t 26,(.k (.int .i64 3))],some (25,true)⟩,⟨some 28,.pick (.t 25) (.t 27) (.k (.bool false)),none⟩,⟨some 29,.mov (.t 28),none⟩,⟨some 30,.mov (.t 8),some (29,true)⟩,⟨some 31,.len (.t 30),some (29,true)⟩,⟨some 32,.bin .gtr (.t 31) (.k (.int .i64 0)),some (29,true)⟩,⟨some 33,.pick (.t 29) (.t 32) (.k (.bool false)),none⟩]) (.cond (.t 33) (.reg [⟨some 34,.mov (.t 8),none⟩,⟨some 35,.mov (.t 5),none⟩,⟨some 36,.mov (.t 8),none⟩,⟨some 37,.len (.t 36),none⟩,⟨some 38,.call 39 [.t 35,.t 37],none⟩,⟨some 39,.mov (.t 5),none⟩,⟨some 40,.call 39 [.t 39,(.k (.int .i64 4))],none⟩,⟨some 41,.bin .sub (.t 40) (.k (.int .i64 1)),none⟩,⟨some 42,.iaddr 1 (.t 34) (.t 38),none⟩,⟨none,.store 1 (.t 42) (.t 41),none⟩]) (.skip))) (.seq (.seq (.reg [⟨some 43,.mov (.t 9),none⟩,⟨some 44,.not (.t 43),none⟩]) (.cond (.t 44) (.seq (.reg [⟨some 10,.mov (.k (.int .i64 0)),none⟩]) (.block 0 (.loop (.seq (.seq (.reg [⟨some 45,.mov (.t 10),none⟩,⟨some 46,.faddr 0 (.t 6),none⟩,⟨some 47,.load 1 false (.t 46),none⟩,⟨some 48,.len (.t 47),none⟩,⟨some 49,.bin .lss (.t 45) (.t 48),none⟩]) (.cond (.t 49) (.skip) (.exit 0))) (.seq (.block 1 (.reg [⟨some 52,.mov (.t 8),none⟩,⟨some 53,.mov (.t 5),none⟩,⟨some 54,.call 39 [.t 53,(.k (.int .i64 3))],none⟩,⟨some 55,.bsl 3 1 1 (.int .i64 0) [(0,.t 54)],none⟩,⟨some 56,.append 3 1 8 (.t 52) (.t 55),none⟩,⟨some 8,.mov (.t 56),none⟩])) (.reg [⟨some 50,.mov (.t 10),none⟩,⟨some 51,.bin .add (.t 50) (.k (.int .i64 1)),none⟩,⟨some 10,.mov (.t 51),none⟩])))))) (.skip))) (.seq (.dreg [false,false,false,false,false,true] [false,false,false,false,false,false] [⟨some 57,.load 2 true (.t 6),none⟩,⟨some 58,.load 2 true (.t 7),none⟩,⟨some 59,.mov (.t 8),none⟩,⟨none,.store 2 (.t 2) (.t 57),none⟩,⟨none,.store 2 (.t 3) (.t 58),none⟩,⟨some 4,.mov (.t 59),none⟩]) (.ret)))))))⟩
theorem fok_spec_DrawIsEmbedding : FOk Try.prog 7 code_spec_DrawIsEmbedding := fok Try.func7 (by kernel_rfl)
def tl5 : C → C
  | .seq _ (.seq _ (.seq _ (.seq _ (.seq _ (.seq _ x))))) => x
  | c => c
@[simp] def ct_DrawIsEmbedding : Ct := ⟨7, List UInt8, fun bs => bs.length ≤ 1048576, fun bs => [encL 1 encU bs], fun bs => .tup [encStrc (drawF1 bs), encStrc (drawF2 bs), encL 1 encInt (drawI3 bs)]⟩
set_option maxHeartbeats 4000000 in
set_option maxRecDepth 100000 in
theorem ok_DrawIsEmbedding : ct_DrawIsEmbedding.Ok Try.prog := by
  intro bs hbs
  change List UInt8 at bs
  change bs.length ≤ 1048576 at hbs
  have e1 : drawF1 bs = (pair16 (cur0 bs)).2.1 := rfl
  have e2 : drawF2 bs = (pair16 (cur0 bs)).2.2 := rfl
  have e3 : drawI3 bs = drawTo (pair16 (cur0 bs)).1 (pair16 (cur0 bs)).2.1 (pair16 (cur0 bs)).2.2 := rfl
  have hb := pair16_buf (cur0 bs)
  obtain ⟨hs1, hs2⟩ := pair16_sh (cur0 bs)
  have h1 := (sh12_sz hs1).1
  have h2 := (sh12_sz hs2).1
  have hn := hs1.n
  simp only [ct_DrawIsEmbedding, e1, e2, e3]
  clear e1 e2 e3
  have hT : TabOk Try.prog _ := tab_h ok_l1New (tab_h ok_l16Pair (tab_h (CtN.hok ok_sFindN) (tab_h ok_once (tab_h ok_below tab_nil))))
  refine Ok.of_cw fok_spec_DrawIsEmbedding ?_
  simp only [code_spec_DrawIsEmbedding, frame, List.length_cons, List.length_nil, List.replicate, Nat.reduceSub, Nat.reduceAdd, List.cons_append, List.nil_append]
  refine cw_seq (go_ok hT ?_); simp [List.replicate]
  refine cw_seq (go_ok hT ?_); simp [List.replicate, hbs, cells_inj]
  refine cw_seq (go_ok hT ?_); simp [List.replicate, hbs, cells_inj]
  refine ⟨cur0 bs, hbs, rfl, ?_⟩
  generalize pair16 (cur0 bs) = R at *
  obtain ⟨c, s, t⟩ := R
  simp only at *
  have hcb : c.buf.length ≤ 1048576 := by rw [hb]; exact hbs
  refine cw_seq (go_ok hT ?_); simp [List.replicate, h1, h2]
  have fin : ∀ (r : List Int) (z : Blk), z = .row true 3 1 (r.map encInt) → r = drawTo c s t →
      CW Try.prog 0 (tl5 code_spec_DrawIsEmbedding.c) (retP code_spec_DrawIsEmbedding.rs (.tup [encStrc s, encStrc t, encL 1 encInt (drawTo c s t)])) ⟨slots 60 [(2, .pbox 2 0), (3, .pbox 5 0), (4, .sl .nil 0 []), (6, .pbox 9 0), (7, .pbox 12 0), (8, .slref 16 0 r.length r.length)], [.nrow, .nrow, .cells [.slref 0 0 0 0, .slref 1 0 0 0], .nrow, .nrow, .cells [.slref 3 0 0 0, .slref 4 0 0 0], .dead, .nrow, .nrow, .cells [encL 4 encNode s.nodes, encL 1 encInt s.next], .nrow, .nrow, .cells [encL 4 encNode t.nodes, encL 1 encInt t.next], .dead, .dead, .dead, z]⟩ := by
    intro r z hz hr
    subst hz
    rw [← hr]
    simp only [code_spec_DrawIsEmbedding, tl5]
    refine cw_seq (cw_dreg8K hT [] _ [none, none, none, some 2, some 5, none] [[true, true, false, true, true, false, true, true, true, true, true, true, true, true, true, true, true], [true, true, false, true, true, false, true, true, true, true, true, true, true, true, true, true, true], [true, true, false, true, true, false, true, true, true, true, true, true, true, true, true, true, true], [true, true, true, true, true, false, true, true, true, true, true, true, true, true, true, true, true], [true, true, false, true, true, true, true, true, true, true, true, true, true, true, true, true, true], [true, true, false, true, true, false, true, true, true, true, true, true, true, true, true, true, true]] (by rfl) ?_)
    simp [List.replicate]
    refine go_ok hT ?_
    simp [List.replicate]
    exact ⟨rfl, rfl⟩
  simp only [code_spec_DrawIsEmbedding, tl5] at fin
  have hbel := below_lt c.step (n := 4) (by omega)
  cases he : embed s t with
  | none =>
    have hD : drawTo c s t = (dr3 c s.nodes.length).2 := by unfold drawTo; rw [he]
    simp only [Option.getD_none, Option.isSome_none, List.length_nil, List.map_nil]
    refine cw_seq (cw_seq (go_ok hT ?_)); simp [List.replicate]
    refine go_ok hT ?_; simp [List.replicate]
    refine cw_seq (cw_seq (go_ok hT ?_)); simp [List.replicate]
    refine cw_cond (b := true) (by simp [Opd.ev]) (fun _ => ?_) (fun h => by cases h)
    refine cw_seq (go_ok hT ?_); simp [List.replicate]
    refine cw_block (cw_round (fun (i : Nat) => ⟨slots 60 [(2, .pbox 2 0), (3, .pbox 5 0), (4, .sl .nil 0 []), (5, .pbox 6 0), (6, .pbox 9 0), (7, .pbox 12 0), (8, .slref 16 0 i i), (10, .int .i64 i)], [.nrow, .nrow, .cells [.slref 0 0 0 0, .slref 1 0 0 0], .nrow, .nrow, .cells [.slref 3 0 0 0, .slref 4 0 0 0], (dr3 c i).1.cells, .nrow, .nrow, .cells [encL 4 encNode s.nodes, encL 1 encInt s.next], .nrow, .nrow, .cells [encL 4 encNode t.nodes, encL 1 encInt t.next], .dead, .dead, .dead, .row true 3 1 ((dr3 c i).2.map encInt)]⟩)
      (fun i => i ≤ s.nodes.length) (fun i => s.nodes.length - i) 0 (by simp) ?_ ?_)
    · exact weak_less (by simp [dr3, Cur.cells]) (by simp [List.replicate])
    rintro M hM i hi
    change i ≤ s.nodes.length at hi
    have hw : IntKind.i64.wrap ((i : Int) + 1) = ((i + 1 : Nat) : Int) := by rw [wrap_i64] <;> omega
    have hdb : (dr3 c i).1.buf.length ≤ 1048576 := by rw [dr3_buf]; exact hcb
    have hdl := dr3_len c i
    have hds : dr3 c (i + 1) = ((dr3 c i).1.step, (dr3 c i).2 ++ [(dr3 c i).1.below 3]) := rfl
    by_cases q : i < s.nodes.length
    · have q2 : ¬ s.nodes.length ≤ i := by omega
      have hbb : (i + 1) * 8 ≤ 140737488355328 := by omega
      refine go_ok hT ?_
      simp [List.replicate, q, q2, cells_inj, hdb, hw, hdl, hbb, app1]
      refine hM i (i + 1) _ (by show i + 1 ≤ s.nodes.length; omega) (by omega) (weak_seal 17 (by simp) ?_ ?_)
      · have ht : List.take i (List.map encInt (dr3 c i).2) = List.map encInt (dr3 c i).2 := List.take_of_length_le (by simp [hdl])
        simp [hds, ht, Cur.cells]
      · simp [List.replicate]
    · have e : i = s.nodes.length := by omega
      subst e
      refine go_ok tab_nil ?_
      simp [List.replicate]
      have f := fin (dr3 c s.nodes.length).2 _ rfl hD.symm
      rw [hdl] at f
      exact cw_weak (weak_less (by simp) (by simp [List.replicate])) f
  | some m =>
    have hm := (findE_pre (show findE s t s.nodes.length [] = some m from he)).1
    have hml : m.length = s.nodes.length := by simpa using hm
    simp only [Option.getD_some, Option.isSome_some]
    by_cases g : c.below 3 = 0 ∧ 0 < m.length
    · have hD : drawTo c s t = m.set (c.step.below m.length).toNat (c.step.step.below 4 - 1) := by unfold drawTo; rw [he]; simp only []; rw [if_pos g]
      obtain ⟨g1, g2⟩ := g
      refine cw_seq (cw_seq (go_ok hT ?_)); simp [List.replicate, cells_inj, hcb, g1, g2]
      have hx1 := below_lt c.step (n := m.length) (by omega)
      have hb1 : c.step.buf.length ≤ 1048576 := hcb
      have hb2 : c.step.step.buf.length ≤ 1048576 := hcb
      have hx2 := below_lt c.step.step (n := 4) (by omega)
      have hw : IntKind.i64.wrap (c.step.step.below 4 - 1) = c.step.step.below 4 - 1 := by rw [wrap_i64] <;> omega
      have hm256 : m.length ≤ 256 := by omega
      refine cw_cond (b := true) (by simp [Opd.ev]) (fun _ => ?_) (fun h => by cases h)
      refine go_ok hT ?_; simp [List.replicate, cells_inj, hb1, hb2, g2, hm256, hw]
      obtain ⟨j, hj⟩ : ∃ j : Nat, (c.step.below m.length).toNat = j := ⟨_, rfl⟩
      have hjl : j < m.length := by omega
      rw [hj]
      refine ⟨by omega, by omega, by omega, ⟨m[j], by simp [hjl]⟩, ?_⟩
      refine cw_seq (cw_seq (go_ok hT ?_)); simp [List.replicate]
      refine go_ok hT ?_; simp [List.replicate]
      have f := fin (m.set j (c.step.step.below 4 - 1)) (.row true 3 1 ((m.map encInt).set j (.int .i64 (c.step.step.below 4 - 1)))) (by rw [List.map_set]; rfl) (by rw [hD, hj])
      rw [List.length_set] at f
      exact cw_weak (weak_less (by simp) (by simp [List.replicate])) f
    · have hD : drawTo c s t = m := by unfold drawTo; rw [he]; simp only []; rw [if_neg g]
      by_cases g1 : c.below 3 = 0
      · have g2 : ¬ 0 < m.length := fun h => g ⟨g1, h⟩
        refine cw_seq (cw_seq (go_ok hT ?_)); simp [List.replicate, cells_inj, hcb, g1, g2]
        refine go_ok hT ?_; simp [List.replicate]
        refine cw_seq (cw_seq (go_ok hT ?_)); simp [List.replicate]
        refine go_ok hT ?_; simp [List.replicate]
        exact cw_weak (weak_less (by simp) (by simp [List.replicate])) (fin m _ rfl hD.symm)
      · refine cw_seq (cw_seq (go_ok hT ?_)); simp [List.replicate, cells_inj, hcb, g1]
        refine go_ok hT ?_; simp [List.replicate]
        refine cw_seq (cw_seq (go_ok hT ?_)); simp [List.replicate]
        refine go_ok hT ?_; simp [List.replicate]
        exact cw_weak (weak_less (by simp) (by simp [List.replicate])) (fin m _ rfl hD.symm)
end Go.Vm

/- IsEmbedding, of both. No condition. -/
import Derived.Test.YtfelkhckpfjgjaaTEO
set_option linter.unusedSimpArgs false
set_option linter.unusedVariables false
namespace Go.Vm
open Go.Proofs
def code_impl_isOnto : F := ⟨17,[.tmp 4],.seq (.reg [⟨some 2,.box (.t 0),none⟩,⟨some 4,.mov (.k (.bool false)),none⟩]) (.seq (.seq (.reg [⟨some 6,.faddr 0 (.t 2),none⟩,⟨some 7,.load 1 false (.t 6),none⟩,⟨some 8,.len (.t 7),none⟩,⟨some 9,.mov (.k (.int .i64 0)),none⟩]) (.block 0 (.loop (.seq (.reg [⟨some 10,.bin .lss (.t 9) (.t 8),none⟩]) (.seq (.cond (.t 10) (.skip) (.exit 0)) (.seq (.block 1 (.seq (.reg [⟨some 11,.mov (.t 9),none⟩,⟨some 5,.mov (.t 11),none⟩]) (.seq (.reg [⟨some 12,.mov (.t 1),none⟩,⟨some 13,.mov (.t 5),none⟩,⟨some 14,.call 90 [.t 12,.t 13],none⟩,⟨some 15,.not (.t 14),none⟩]) (.cond (.t 15) (.seq (.reg [⟨some 4,.mov (.k (.bool false)),none⟩]) (.ret)) (.skip))))) (.reg [⟨some 16,.bin .add (.t 9) (.k (.int .i64 1)),none⟩,⟨some 9,.mov (.t 16),none⟩]))))))) (.seq (.reg [⟨some 4,.mov (.k (.bool true)),none⟩]) (.ret)))⟩
theorem fok_impl_isOnto : FOk Try.prog 41 code_impl_isOnto := fok Try.func41 (by kernel_rfl)
def code_spec_IsEmbedding : F := ⟨52,[.tmp 6],.seq (.reg [⟨some 3,.box (.t 0),none⟩,⟨some 4,.box (.t 1),none⟩,⟨some 6,.mov (.k (.bool false)),none⟩]) (.seq (.seq (.reg [⟨some 9,.mov (.t 2),none⟩,⟨some 10,.len (.t 9),none⟩,⟨some 11,.faddr 0 (.t 3),none⟩,⟨some 12,.load 1 false (.t 11),none⟩,⟨some 13,.len (.t 12),none⟩,⟨some 14,.bin .neq (.t 10) (.t 13),none⟩]) (.cond (.t 14) (.seq (.reg [⟨some 6,.mov (.k (.bool false)),none⟩]) (.ret)) (.skip))) (.seq (.seq (.reg [⟨some 7,.mov (.k (.int .i64 0)),none⟩]) (.block 0 (.loop (.seq (.seq (.reg [⟨some 15,.mov (.t 7),none⟩,⟨some 16,.mov (.t 2),none⟩,⟨some 17,.len (.t 16),none⟩,⟨some 18,.bin .lss (.t 15) (.t 17),none⟩]) (.cond (.t 18) (.skip) (.exit 0))) (.seq (.block 1 (.seq (.dreg [false,false,false,false,false,false,false,false,true,true,true,false,false,false,false,false,false,true,true,true] [false,false,false,false,false,false,false,false,true,false,false,false,false,false,false,false,false,true,false,false] [⟨some 21,.mov (.t 2),none⟩,⟨some 22,.mov (.t 7),none⟩,⟨some 23,.iaddr 1 (.t 21) (.t 22),none⟩,⟨some 24,.load 1 false (.t 23),none⟩,⟨some 25,.faddr 0 (.t 4),none⟩,⟨some 26,.load 1 false (.t 25),none⟩,⟨some 27,.len (.t 26),none⟩,⟨some 28,.bin .sub (.t 27) (.k (.int .i64 1)),none⟩,⟨some 29,.call 48 [.t 24,(.k (.int .i64 0)),.t 28],none⟩,⟨some 30,.not (.t 29),none⟩,⟨some 31,.mov (.t 30),none⟩,⟨some 32,.load 2 true (.t 3),some (31,false)⟩,⟨some 33,.load 2 true (.t 4),some (31,false)⟩,⟨some 34,.mov (.t 2),some (31,false)⟩,⟨some 35,.mov (.t 7),some (31,false)⟩,⟨some 36,.bin .add (.t 35) (.k (.int .i64 1)),some (31,false)⟩,⟨some 37,.slice 1 (.t 34) none (some (.t 36)),some (31,false)⟩,⟨some 38,.call 49 [.t 32,.t 33,.t 37],some (31,false)⟩,⟨some 39,.not (.t 38),some (31,false)⟩,⟨some 40,.pick (.t 31) (.k (.bool true)) (.t 39),none⟩]) (.cond (.t 40) (.seq (.reg [⟨some 6,.mov (.k (.bool false)),none⟩]) (.ret)) (.skip)))) (.reg [⟨some 19,.mov (.t 7),none⟩,⟨some 20,.bin .add (.t 19) (.k (.int .i64 1)),none⟩,⟨some 7,.mov (.t 20),none⟩])))))) (.seq (.seq (.reg [⟨some 8,.mov (.k (.int .i64 0)),none⟩]) (.block 2 (.loop (.seq (.seq (.reg [⟨some 41,.mov (.t 8),none⟩,⟨some 42,.faddr 0 (.t 4),none⟩,⟨some 43,.load 1 false (.t 42),none⟩,⟨some 44,.len (.t 43),none⟩,⟨some 45,.bin .lss (.t 41) (.t 44),none⟩]) (.cond (.t 45) (.skip) (.exit 2))) (.seq (.block 3 (.seq (.reg [⟨some 48,.mov (.t 2),none⟩,⟨some 49,.mov (.t 8),none⟩,⟨some 50,.call 50 [.t 48,.t 49],none⟩,⟨some 51,.not (.t 50),none⟩]) (.cond (.t 51) (.seq (.reg [⟨some 6,.mov (.k (.bool false)),none⟩]) (.ret)) (.skip)))) (.reg [⟨some 46,.mov (.t 8),none⟩,⟨some 47,.bin .add (.t 46) (.k (.int .i64 1)),none⟩,⟨some 8,.mov (.t 47),none⟩])))))) (.seq (.reg [⟨some 6,.mov (.k (.bool true)),none⟩]) (.ret)))))⟩
theorem fok_spec_IsEmbedding : FOk Try.prog 13 code_spec_IsEmbedding := fok Try.func13 (by kernel_rfl)
def ontoB (t : Strc) (to : List Int) : Bool := (List.range t.nodes.length).all fun j => decide ((j : Int) ∈ to)
theorem onto_bad {t : Strc} {to : List Int} {j : Nat} (h : j < t.nodes.length) (e : ¬ (j : Int) ∈ to) : ontoB t to = false := all_bad h (by simpa using e)
theorem onto_good {t : Strc} {to : List Int} (h : ∀ j, j < t.nodes.length → (j : Int) ∈ to) : ontoB t to = true := all_good fun j hj => by simpa using h j hj
@[simp] def ct_isOnto : Ct := ⟨41, Strc × List Int, fun x => szStrc x.1 ≤ 1048576, fun x => [encStrc x.1, encL 1 encInt x.2], fun x => .bool (ontoB x.1 x.2)⟩
theorem ok_isOnto : ct_isOnto.Ok Try.prog := by
  rintro ⟨t, to⟩ ht
  change szStrc t ≤ 1048576 at ht
  have htl := strc_le t
  refine Ok.of_cw fok_impl_isOnto (go_ok tab_nil ?_)
  simp [code_impl_isOnto, List.replicate]
  refine cw_round (fun (k : Nat) => ⟨slots 17 [(1, encL 1 encInt to), (8, .int .i64 t.nodes.length), (9, .int .i64 k)], []⟩)
    (fun k => k ≤ t.nodes.length ∧ ∀ j, j < k → (j : Int) ∈ to) (fun k => t.nodes.length - k) 0 ⟨by omega, fun j hj => absurd hj (by omega)⟩ ?_ ?_
  · exact weak_seal 0 (by omega) (by simp) (by simp [List.replicate])
  · rintro N hN k ⟨hk, hn⟩
    have hw : IntKind.i64.wrap ((k : Int) + 1) = ((k + 1 : Nat) : Int) := by rw [wrap_i64] <;> omega
    refine go_ok (tab_cons ok_ContainsI tab_nil) ?_
    by_cases g : k < t.nodes.length
    · have g2 : ¬ t.nodes.length ≤ k := by omega
      by_cases e : (k : Int) ∈ to
      · simp [List.replicate, hw, g, g2, e]
        refine hN _ (k + 1) _ ⟨by omega, fun j hj => ?_⟩ (by omega) (weak_seal 0 (by omega) ?_ ?_)
        · by_cases q : j = k
          · subst q; exact e
          · exact hn j (by omega)
        · simp
        · simp [List.replicate]
      · have hf := onto_bad g e
        simp [List.replicate, hw, g, g2, e, hf]
    · have hf := onto_good (fun j hj => hn j (by omega) : ∀ j, j < t.nodes.length → (j : Int) ∈ to)
      simp [List.replicate, g, hf]
def fitsTo (s t : Strc) (to : List Int) (n : Nat) : Bool := (List.range n).all fun i => decide (inN t (to.getD i 0)) && fitsB s t to i
theorem embB_eq (s t : Strc) (to : List Int) : embB s t to = (decide (to.length = s.nodes.length) && fitsTo s t to to.length && ontoB t to) := rfl
theorem fitsTo_bad {s t : Strc} {to : List Int} {i n : Nat} (h : i < n) (e : (decide (inN t (to.getD i 0)) && fitsB s t to i) = false) : fitsTo s t to n = false := all_bad h e
theorem fitsTo_good {s t : Strc} {to : List Int} {n : Nat} (h : ∀ i, i < n → (decide (inN t (to.getD i 0)) && fitsB s t to i) = true) : fitsTo s t to n = true := all_good h
theorem all_congr {p q : Nat → Bool} {n : Nat} (h : ∀ j, j < n → p j = q j) : (List.range n).all p = (List.range n).all q := by
  rw [Bool.eq_iff_iff, List.all_eq_true, List.all_eq_true]
  constructor
  · intro k j hj; rw [← h j (by simpa using hj)]; exact k j hj
  · intro k j hj; rw [h j (by simpa using hj)]; exact k j hj
theorem getD_pre {a b : List Int} {j : Nat} (h : j < a.length) : (a ++ b).getD j 0 = a.getD j 0 := by
  simp [List.getD_eq_getElem?_getD, List.getElem?_append_left h]
theorem getD_take {a : List Int} {n j : Nat} (h : j < n) : (a.take n).getD j 0 = a.getD j 0 := by
  simp [List.getD_eq_getElem?_getD, List.getElem?_take, h]
theorem pairB_congr {s t : Strc} {a b : List Int} {i k : Nat} (h : ∀ j, j ≤ i → a.getD j 0 = b.getD j 0) (hk : k ≤ i) : pairB s t a i k = pairB s t b i k := by
  unfold pairB
  rw [h i (by omega), h k hk]
theorem fitsB_congr {s t : Strc} {a b : List Int} {i : Nat} (h : ∀ j, j ≤ i → a.getD j 0 = b.getD j 0) : fitsB s t a i = fitsB s t b i := by
  unfold fitsB
  rw [h i (by omega), all_congr fun k hk => pairB_congr h (by omega)]
theorem fitsB_take {s t : Strc} {to : List Int} {i : Nat} : fitsB s t (to.take (i + 1)) i = fitsB s t to i := fitsB_congr fun j hj => getD_take (by omega)
@[simp] def ct_sIsEmbedding : Ct := ⟨13, Strc × Strc × List Int, fun x => szStrc x.1 ≤ 1048576 ∧ szStrc x.2.1 ≤ 1048576, fun x => [encStrc x.1, encStrc x.2.1, encL 1 encInt x.2.2], fun x => .bool (embB x.1 x.2.1 x.2.2)⟩
set_option maxHeartbeats 4000000 in
set_option maxRecDepth 100000 in
theorem ok_sIsEmbedding : ct_sIsEmbedding.Ok Try.prog := by
  rintro ⟨s, t, to⟩ ⟨hs, ht⟩
  change szStrc s ≤ 1048576 at hs
  change szStrc t ≤ 1048576 at ht
  have hsl := strc_le s
  have htl := strc_le t
  refine Ok.of_cw fok_spec_IsEmbedding (go_ok tab_nil ?_)
  by_cases h0 : to.length = s.nodes.length
  case neg =>
    have h1 : ¬ ((to.length : Int) = s.nodes.length) := by omega
    simp [code_spec_IsEmbedding, List.replicate, h0, h1, embB_eq]
  have w0 : IntKind.i64.wrap ((t.nodes.length : Int) - 1) = (t.nodes.length : Int) - 1 := by rw [wrap_i64] <;> omega
  rw [show ct_sIsEmbedding.res (s, t, to) = .bool (fitsTo s t to to.length && ontoB t to) from by show AV.bool (embB s t to) = _; rw [embB_eq, decide_eq_true h0, Bool.true_and]]
  simp [code_spec_IsEmbedding, List.replicate, h0]
  refine cw_round (fun (k : Nat) => ⟨slots 52 [(2, encL 1 encInt to), (3, .pbox 0 0), (4, .pbox 1 0), (7, .int .i64 k)], [.cells [encL 4 encNode s.nodes, encL 1 encInt s.next], .cells [encL 4 encNode t.nodes, encL 1 encInt t.next]]⟩)
    (fun k => k ≤ to.length ∧ ∀ i, i < k → (decide (inN t (to.getD i 0)) && fitsB s t to i) = true) (fun k => to.length - k) 0 ⟨by omega, fun j hj => absurd hj (by omega)⟩ ?_ ?_
  · exact weak_seal 2 (by omega) (by simp) (by simp [List.replicate])
  · rintro N hN k ⟨hk, hn⟩
    have hw : IntKind.i64.wrap ((k : Int) + 1) = ((k + 1 : Nat) : Int) := by rw [wrap_i64] <;> omega
    by_cases g : k < to.length
    · have g2 : ¬ to.length ≤ k := by omega
      have ev : to.getD k 0 = to[k] := by simp [g]
      have g3 : k + 1 ≤ to.length := by omega
      have g4 : (k : Int) + 1 ≤ to.length := by omega
      have g5 : (0 : Int) ≤ (k : Int) + 1 := by omega
      have g6 : k < s.nodes.length := by omega
      have ht1 : ((k : Int) + 1).toNat = k + 1 := by omega
      refine go_ok (tab_cons ok_l1In (tab_cons ok_l16Fits tab_nil)) ?_
      by_cases hin : inN t to[k]
      · have hq := hin
        unfold inN at hq
        obtain ⟨q0, q1⟩ := hq
        have q2 : ¬ ((t.nodes.length : Int) - 1 < to[k]) := by omega
        have hall : allN t (to.take (k + 1)) (k + 1) := fun j hj => by
          rw [getD_take hj]
          by_cases q : j = k
          · subst q; rw [ev]; exact hin
          · have := hn j (by omega); simp only [Bool.and_eq_true, decide_eq_true_eq] at this; exact this.1
        have hft := fitsB_take (s := s) (t := t) (to := to) (i := k)
        cases e : fitsB s t to k
        · have hf := fitsTo_bad (s := s) (t := t) (to := to) g6 (by rw [e, Bool.and_false])
          simp (config := {maxSteps := 2000000}) [List.replicate, hw, g, g2, g3, g4, g5, g6, ht1, w0, q0, q1, q2, hs, ht, hf, hall, hft, e]
        · simp (config := {maxSteps := 2000000}) [List.replicate, hw, g, g2, g3, g4, g5, g6, ht1, w0, q0, q1, q2, hs, ht, hall, hft, e]
          refine hN _ (k + 1) _ ⟨by omega, fun j hj => ?_⟩ (by omega) (weak_seal 2 (by omega) ?_ ?_)
          · by_cases q : j = k
            · subst q; rw [ev, e]; simp [hin]
            · exact hn j (by omega)
          · simp
          · simp [List.replicate]
      · have hf := fitsTo_bad (s := s) (t := t) (to := to) g6 (by rw [ev]; simp [hin])
        by_cases q0 : 0 ≤ to[k]
        · have q1 : ¬ to[k] ≤ (t.nodes.length : Int) - 1 := fun h => hin ⟨q0, h⟩
          have q2 : ((t.nodes.length : Int) - 1 < to[k]) := by omega
          simp (config := {maxSteps := 2000000}) [List.replicate, hw, g, g2, w0, q0, q1, q2, hf]
        · simp (config := {maxSteps := 2000000}) [List.replicate, hw, g, g2, w0, q0, hf]
    · have e : k = to.length := by omega
      subst e
      have hf := fitsTo_good hn
      rw [h0] at hf
      have hlen : to.length ≤ 1048576 := by omega
      refine go_ok tab_nil ?_
      simp [List.replicate, hf]
      refine cw_round (fun (k : Nat) => ⟨slots 52 [(2, encL 1 encInt to), (4, .pbox 1 0), (8, .int .i64 k)], [.dead, .cells [encL 4 encNode t.nodes, encL 1 encInt t.next]]⟩)
        (fun k => k ≤ t.nodes.length ∧ ∀ j, j < k → (j : Int) ∈ to) (fun k => t.nodes.length - k) 0 ⟨by omega, fun j hj => absurd hj (by omega)⟩ ?_ ?_
      · exact weak_seal 2 (by omega) (by simp) (by simp [List.replicate])
      · rintro M hM k ⟨hk, hn⟩
        have hw : IntKind.i64.wrap ((k : Int) + 1) = ((k + 1 : Nat) : Int) := by rw [wrap_i64] <;> omega
        refine go_ok (tab_cons ok_l7Has tab_nil) ?_
        by_cases g : k < t.nodes.length
        · have g2 : ¬ t.nodes.length ≤ k := by omega
          by_cases e : (k : Int) ∈ to
          · simp [List.replicate, hw, g, g2, e, hlen]
            refine hM _ (k + 1) _ ⟨by omega, fun j hj => ?_⟩ (by omega) (weak_seal 2 (by omega) ?_ ?_)
            · by_cases q : j = k
              · subst q; exact e
              · exact hn j (by omega)
            · simp
            · simp [List.replicate]
          · have hf := onto_bad g e
            simp [List.replicate, hw, g, g2, e, hf, hlen]
        · have hf := onto_good (fun j hj => hn j (by omega) : ∀ j, j < t.nodes.length → (j : Int) ∈ to)
          have g2 : t.nodes.length ≤ k := by omega
          simp [List.replicate, g, g2, hf]
end Go.Vm
namespace Go.Vm
open Go.Proofs
def firstS {β : Type} (f : Nat → Option β) : Nat → Nat → Option β
  | 0, _ => none
  | m + 1, k => match f k with
    | some x => some x
    | none => firstS f m (k + 1)
theorem firstS_hit {β : Type} {f : Nat → Option β} {m k : Nat} {x : β} (h : f k = some x) : firstS f (m + 1) k = some x := by simp [firstS, h]
theorem firstS_miss {β : Type} {f : Nat → Option β} {m k : Nat} (h : f k = none) : firstS f (m + 1) k = firstS f m (k + 1) := by simp [firstS, h]
theorem firstS_some {β : Type} {f : Nat → Option β} {x : β} : ∀ {m k : Nat}, firstS f m k = some x → ∃ j, k ≤ j ∧ j < k + m ∧ f j = some x
  | 0, k, h => by simp [firstS] at h
  | m + 1, k, h => by
    cases e : f k with
    | some y =>
      rw [firstS_hit e] at h
      exact ⟨k, by omega, by omega, by rw [e, h]⟩
    | none =>
      rw [firstS_miss e] at h
      obtain ⟨j, h1, h2, h3⟩ := firstS_some h
      exact ⟨j, by omega, by omega, h3⟩
def okB (s t : Strc) (to : List Int) (j : Nat) : Bool := fitsB s t (to ++ [(j : Int)]) to.length
def findE (s t : Strc) : Nat → List Int → Option (List Int)
  | 0, to => if ontoB t to = true then some to else none
  | n + 1, to => firstS (fun j => if okB s t to j = true then findE s t n (to ++ [(j : Int)]) else none) t.nodes.length 0
def stepE (s t : Strc) (n : Nat) (to : List Int) (j : Nat) : Option (List Int) := if okB s t to j = true then findE s t n (to ++ [(j : Int)]) else none
theorem findE_succ (s t : Strc) (n : Nat) (to : List Int) : findE s t (n + 1) to = firstS (stepE s t n to) t.nodes.length 0 := rfl
theorem stepE_ok {s t : Strc} {n : Nat} {to : List Int} {j : Nat} (h : okB s t to j = true) : stepE s t n to j = findE s t n (to ++ [(j : Int)]) := by simp [stepE, h]
theorem stepE_bad {s t : Strc} {n : Nat} {to : List Int} {j : Nat} (h : okB s t to j = false) : stepE s t n to j = none := by simp [stepE, h]
theorem findE_pre {s t : Strc} : ∀ {n : Nat} {to out : List Int}, findE s t n to = some out → out.length = to.length + n ∧ out.take to.length = to
  | 0, to, out, h => by
    unfold findE at h
    split at h
    · simp only [Option.some.injEq] at h; subst h; simp
    · cases h
  | n + 1, to, out, h => by
    rw [findE_succ] at h
    obtain ⟨j, -, -, h3⟩ := firstS_some h
    unfold stepE at h3
    split at h3
    · obtain ⟨h4, h5⟩ := findE_pre h3
      simp only [List.length_append, List.length_cons, List.length_nil] at h4 h5
      refine ⟨by omega, ?_⟩
      have := congrArg (List.take to.length) h5
      rw [List.take_take, Nat.min_eq_left (by omega), List.take_append_of_le_length (by omega), List.take_length] at this
      exact this
    · cases h3
theorem getD_last {a : List Int} {v : Int} : (a ++ [v]).getD a.length 0 = v := by simp [List.getD_eq_getElem?_getD]
theorem allN_snoc {t : Strc} {to : List Int} {j : Nat} (h : allN t to to.length) (hj : j < t.nodes.length) : allN t (to ++ [(j : Int)]) (to.length + 1) := fun k hk => by
  by_cases e : k = to.length
  · subst e; rw [getD_last]; exact ⟨by omega, by omega⟩
  · rw [getD_pre (by omega)]; exact h k (by omega)
theorem allN_pre {t : Strc} {to : List Int} {j : Nat} (h : allN t to to.length) : allN t (to ++ [(j : Int)]) to.length := fun k hk => by
  rw [getD_pre (by omega)]; exact h k (by omega)
theorem fitsTo_snoc {s t : Strc} {to : List Int} {j : Nat} (h : fitsTo s t to to.length = true) (hj : j < t.nodes.length) (e : okB s t to j = true) : fitsTo s t (to ++ [(j : Int)]) (to.length + 1) = true := by
  apply fitsTo_good
  intro k hk
  by_cases q : k = to.length
  · subst q
    rw [getD_last, Bool.and_eq_true]
    exact ⟨decide_eq_true ⟨by omega, by omega⟩, e⟩
  · have h1 := List.all_eq_true.1 h k (by simp; omega)
    rw [getD_pre (by omega)]
    rw [fitsB_congr (a := to ++ [(j : Int)]) (b := to) fun i hi => getD_pre (by omega)]
    exact h1
theorem embB_full {s t : Strc} {to : List Int} (h : to.length = s.nodes.length) (hf : fitsTo s t to to.length = true) : embB s t to = ontoB t to := by
  rw [embB_eq, hf, decide_eq_true h]; rfl
theorem ite_nil {α : Type} {xs : List α} {b : Nat} {X : List Blk} : (if xs = [] then some (AV.slref b 0 xs.length 0, X) else some (AV.slref b 0 xs.length xs.length, X)) = some (AV.slref b 0 xs.length xs.length, X) := by
  split
  · rename_i h; subst h; rfl
  · rfl
theorem lend_snoc {m : Nat → Blk → Bool} {H : List Blk} {n : Nat} {to : List Int} {k : Int} : lendEls m H n (List.take (to.length + 1) (List.map encInt to ++ [AV.int .i64 k])) = some (List.map encInt to ++ [AV.int .i64 k]) := by
  have e : List.map encInt to ++ [AV.int .i64 k] = List.map encInt (to ++ [k]) := by simp
  rw [e, List.take_of_length_le (by simp)]
  simp [-List.map_append]
theorem mksl_snoc {to : List Int} {k : Int} : mksl 1 (List.map encInt to ++ [AV.int .i64 k]) = encL 1 encInt (to ++ [k]) := by
  have e : List.map encInt to ++ [AV.int .i64 k] = List.map encInt (to ++ [k]) := by simp
  rw [e]; rfl
def code_spec_l16Find : F := ⟨51,[.tmp 6,.tmp 7],.seq (.reg [⟨some 3,.box (.t 0),none⟩,⟨some 4,.box (.t 1),none⟩,⟨some 6,.mov (.k (.sl .nil 0 [])),none⟩,⟨some 7,.mov (.k (.bool false)),none⟩]) (.seq (.seq (.reg [⟨some 12,.mov (.t 2),none⟩,⟨some 13,.len (.t 12),none⟩,⟨some 14,.faddr 0 (.t 3),none⟩,⟨some 15,.load 1 false (.t 14),none⟩,⟨some 16,.len (.t 15),none⟩,⟨some 17,.bin .eql (.t 13) (.t 16),none⟩]) (.cond (.t 17) (.seq (.reg [⟨some 18,.mov (.t 2),none⟩,⟨some 19,.load 2 true (.t 3),none⟩,⟨some 20,.load 2 true (.t 4),none⟩,⟨some 21,.mov (.t 2),none⟩,⟨some 22,.call 13 [.t 19,.t 20,.t 21],none⟩,⟨some 6,.mov (.t 18),none⟩,⟨some 7,.mov (.t 22),none⟩]) (.ret)) (.skip))) (.seq (.seq (.reg [⟨some 8,.mov (.k (.int .i64 0)),none⟩]) (.block 0 (.loop (.seq (.seq (.reg [⟨some 23,.mov (.t 8),none⟩,⟨some 24,.faddr 0 (.t 4),none⟩,⟨some 25,.load 1 false (.t 24),none⟩,⟨some 26,.len (.t 25),none⟩,⟨some 27,.bin .lss (.t 23) (.t 26),none⟩]) (.cond (.t 27) (.skip) (.exit 0))) (.seq (.block 1 (.seq (.reg [⟨some 30,.bsl 3 1 0 (.int .i64 0) [],none⟩,⟨some 31,.mov (.t 2),none⟩,⟨some 32,.append 3 1 8 (.t 30) (.t 31),none⟩,⟨some 33,.mov (.t 8),none⟩,⟨some 34,.bsl 3 1 1 (.int .i64 0) [(0,.t 33)],none⟩,⟨some 35,.append 3 1 8 (.t 32) (.t 34),none⟩,⟨some 9,.mov (.t 35),none⟩]) (.seq (.seq (.reg [⟨some 36,.load 2 true (.t 3),none⟩,⟨some 37,.load 2 true (.t 4),none⟩,⟨some 38,.mov (.t 9),none⟩,⟨some 39,.call 49 [.t 36,.t 37,.t 38],none⟩,⟨some 40,.not (.t 39),none⟩]) (.cond (.t 40) (.exit 1) (.skip))) (.seq (.reg [⟨some 42,.load 2 true (.t 3),none⟩,⟨some 43,.load 2 true (.t 4),none⟩,⟨some 44,.mov (.t 9),none⟩,⟨some 45,.call 44 [.t 42,.t 43,.t 44],none⟩,⟨some 41,.mov (.t 45),none⟩,⟨some 46,.extr (.t 41) 0,none⟩,⟨some 47,.extr (.t 41) 1,none⟩,⟨some 10,.mov (.t 46),none⟩,⟨some 11,.mov (.t 47),none⟩]) (.seq (.reg [⟨some 48,.mov (.t 11),none⟩]) (.cond (.t 48) (.seq (.reg [⟨some 49,.mov (.t 10),none⟩,⟨some 6,.mov (.t 49),none⟩,⟨some 7,.mov (.k (.bool true)),none⟩]) (.ret)) (.skip))))))) (.reg [⟨some 28,.mov (.t 8),none⟩,⟨some 29,.bin .add (.t 28) (.k (.int .i64 1)),none⟩,⟨some 8,.mov (.t 29),none⟩])))))) (.seq (.reg [⟨some 50,.bsl 3 1 0 (.int .i64 0) [],none⟩,⟨some 6,.mov (.t 50),none⟩,⟨some 7,.mov (.k (.bool false)),none⟩]) (.ret))))⟩
theorem fok_spec_l16Find : FOk Try.prog 44 code_spec_l16Find := fok Try.func44 (by kernel_rfl)
def code_spec_FindEmbedding : F := ⟨21,[.tmp 4,.tmp 5],.seq (.reg [⟨some 2,.box (.t 0),none⟩,⟨some 3,.box (.t 1),none⟩,⟨some 4,.mov (.k (.sl .nil 0 [])),none⟩,⟨some 5,.mov (.k (.bool false)),none⟩]) (.seq (.reg [⟨some 9,.load 2 true (.t 2),none⟩,⟨some 10,.load 2 true (.t 3),none⟩,⟨some 11,.bsl 3 1 0 (.int .i64 0) [],none⟩,⟨some 12,.call 44 [.t 9,.t 10,.t 11],none⟩,⟨some 8,.mov (.t 12),none⟩,⟨some 13,.extr (.t 8) 0,none⟩,⟨some 14,.extr (.t 8) 1,none⟩,⟨some 6,.mov (.t 13),none⟩,⟨some 7,.mov (.t 14),none⟩]) (.seq (.seq (.reg [⟨some 15,.mov (.t 7),none⟩,⟨some 16,.not (.t 15),none⟩]) (.cond (.t 16) (.seq (.reg [⟨some 17,.bsl 3 1 0 (.int .i64 0) [],none⟩,⟨some 4,.mov (.t 17),none⟩,⟨some 5,.mov (.k (.bool false)),none⟩]) (.ret)) (.skip))) (.seq (.reg [⟨some 18,.bsl 3 1 0 (.int .i64 0) [],none⟩,⟨some 19,.mov (.t 6),none⟩,⟨some 20,.append 3 1 8 (.t 18) (.t 19),none⟩,⟨some 4,.mov (.t 20),none⟩,⟨some 5,.mov (.k (.bool true)),none⟩]) (.ret))))⟩
theorem fok_spec_FindEmbedding : FOk Try.prog 10 code_spec_FindEmbedding := fok Try.func10 (by kernel_rfl)
def fresE (s t : Strc) : Nat → List Int → List Int × Bool
  | 0, to => (to, ontoB t to)
  | n + 1, to => match findE s t (n + 1) to with
    | some out => (out, true)
    | none => ([], false)
theorem fresE_some {s t : Strc} {n : Nat} {to out : List Int} (h : findE s t n to = some out) : fresE s t n to = (out, true) := by
  cases n with
  | zero =>
    unfold findE at h
    split at h
    · rename_i ho
      simp only [Option.some.injEq] at h; subst h
      simp [fresE, ho]
    · cases h
  | succ n => simp [fresE, h]
theorem fresE_none {s t : Strc} {n : Nat} {to : List Int} (h : findE s t n to = none) : (fresE s t n to).2 = false := by
  cases n with
  | zero =>
    unfold findE at h
    split at h
    · cases h
    · rename_i ho
      simpa [fresE] using ho
  | succ n => simp [fresE, h]
@[simp] def ct_l16Find (n : Nat) : Ct := ⟨44, Strc × Strc × List Int, fun x => (szStrc x.1 ≤ 1048576 ∧ szStrc x.2.1 ≤ 1048576) ∧ x.2.2.length + n = x.1.nodes.length ∧ allN x.2.1 x.2.2 x.2.2.length ∧ fitsTo x.1 x.2.1 x.2.2 x.2.2.length = true,
  fun x => [encStrc x.1, encStrc x.2.1, encL 1 encInt x.2.2], fun x => .tup [encL 1 encInt (fresE x.1 x.2.1 n x.2.2).1, .bool (fresE x.1 x.2.1 n x.2.2).2]⟩
set_option maxHeartbeats 4000000 in
set_option maxRecDepth 100000 in
theorem l16Find_step (n : Nat) (ih : ∀ m, m < n → (ct_l16Find m).Ok Try.prog) : (ct_l16Find n).Ok Try.prog := by
  rintro ⟨s, t, to⟩ hx
  change (szStrc s ≤ 1048576 ∧ szStrc t ≤ 1048576) ∧ to.length + n = s.nodes.length ∧ allN t to to.length ∧ fitsTo s t to to.length = true at hx
  obtain ⟨⟨hs, ht⟩, hlen, hall, hfit⟩ := hx
  have hsl := strc_le s
  have htl := strc_le t
  cases n with
  | zero =>
    have h0 : to.length = s.nodes.length := by omega
    have he := embB_full h0 hfit
    refine Ok.of_cw fok_spec_l16Find (go_ok (tab_cons ok_sIsEmbedding tab_nil) ?_)
    simp [code_spec_l16Find, List.replicate, h0, hs, ht, he, fresE]
  | succ n =>
    have h0 : ¬ to.length = s.nodes.length := by omega
    have h0' : ¬ (to.length : Int) = s.nodes.length := by omega
    refine Ok.of_cw fok_spec_l16Find (go_ok tab_nil ?_)
    simp [code_spec_l16Find, List.replicate, h0, h0']
    refine cw_round (fun (k : Nat) => ⟨slots 51 [(2, encL 1 encInt to), (3, .pbox 0 0), (4, .pbox 1 0), (8, .int .i64 k)], [.cells [encL 4 encNode s.nodes, encL 1 encInt s.next], .cells [encL 4 encNode t.nodes, encL 1 encInt t.next]]⟩)
      (fun k => k ≤ t.nodes.length ∧ findE s t (n + 1) to = firstS (stepE s t n to) (t.nodes.length - k) k) (fun k => t.nodes.length - k) 0 ⟨by omega, findE_succ s t n to⟩ ?_ ?_
    · exact weak_seal 2 (by omega) (by simp) (by simp [List.replicate])
    · rintro N hN k ⟨hk, hn⟩
      have hw : IntKind.i64.wrap ((k : Int) + 1) = ((k + 1 : Nat) : Int) := by rw [wrap_i64] <;> omega
      have hb1 : to.length * 8 ≤ 140737488355328 := by omega
      have hb : (to.length + 1) * 8 ≤ 140737488355328 := by omega
      by_cases g : k < t.nodes.length
      · have g2 : ¬ t.nodes.length ≤ k := by omega
        obtain ⟨d, hd⟩ : ∃ d, t.nodes.length - k = d + 1 := ⟨t.nodes.length - k - 1, by omega⟩
        rw [hd] at hn
        have hsn : to.length < s.nodes.length := by omega
        have hal := allN_snoc hall g
        refine go_ok (tab_cons ok_l16Fits (tab_cons (ih n (by omega)) tab_nil)) ?_
        cases e : okB s t to k
        · rw [firstS_miss (stepE_bad e)] at hn
          have e' : fitsB s t (to ++ [(k : Int)]) to.length = false := e
          simp (config := {maxSteps := 2000000}) [List.replicate, hw, g, g2, hb, hb1, app1, ite_nil, lend_snoc, mksl_snoc, hs, ht, hsn, hal, e']
          refine hN _ (k + 1) _ ⟨by omega, ?_⟩ (by omega) (weak_seal 2 (by omega) ?_ ?_)
          · rw [hn]; congr 1; omega
          · simp
          · simp [List.replicate]
        · have e' : fitsB s t (to ++ [(k : Int)]) to.length = true := e
          have hfit2 := fitsTo_snoc hfit g e
          have hlen2 : to.length + 1 + n = s.nodes.length := by omega
          cases r : findE s t n (to ++ [(k : Int)]) with
          | some out =>
            rw [firstS_hit ((stepE_ok e).trans r)] at hn
            have hr := fresE_some r
            simp (config := {maxSteps := 2000000}) [List.replicate, hw, g, g2, hb, hb1, app1, ite_nil, lend_snoc, mksl_snoc, hs, ht, hsn, hal, e', hfit2, hlen2, hr, Blk.freeze, Blk.frozen, capOk]
            simp [fresE_some hn]
          | none =>
            rw [firstS_miss ((stepE_ok e).trans r)] at hn
            have hr := fresE_none r
            simp (config := {maxSteps := 2000000}) [List.replicate, hw, g, g2, hb, hb1, app1, ite_nil, lend_snoc, mksl_snoc, hs, ht, hsn, hal, e', hfit2, hlen2, hr, Blk.freeze, Blk.frozen, capOk]
            refine hN _ (k + 1) _ ⟨by omega, ?_⟩ (by omega) (weak_seal 2 (by omega) ?_ ?_)
            · rw [hn]; congr 1; omega
            · simp
            · simp [List.replicate]
      · have hz : t.nodes.length - k = 0 := by omega
        rw [hz] at hn
        change findE s t (n + 1) to = none at hn
        have g2 : t.nodes.length ≤ k := by omega
        refine go_ok tab_nil ?_
        simp [List.replicate, g, g2, fresE, hn]
theorem ok_l16Find (n : Nat) : (ct_l16Find n).Ok Try.prog := by
  induction n using Nat.strongRecOn with
  | ind n ih => exact l16Find_step n ih
def embed (s t : Strc) : Option (List Int) := findE s t s.nodes.length []
theorem allN_nil {t : Strc} : allN t [] 0 := fun k hk => absurd hk (by omega)
theorem fitsTo_nil {s t : Strc} : fitsTo s t [] 0 = true := rfl
@[simp] def ct_sFindEmb : Ct := ⟨10, Strc × Strc, fun x => szStrc x.1 ≤ 1048576 ∧ szStrc x.2 ≤ 1048576, fun x => [encStrc x.1, encStrc x.2], fun x => .tup [encL 1 encInt ((embed x.1 x.2).getD []), .bool (embed x.1 x.2).isSome]⟩
set_option maxHeartbeats 1000000 in
theorem ok_sFindEmb : ct_sFindEmb.Ok Try.prog := by
  rintro ⟨s, t⟩ ⟨hs, ht⟩
  change szStrc s ≤ 1048576 at hs
  change szStrc t ≤ 1048576 at ht
  have hsl := strc_le s
  refine Ok.of_cw fok_spec_FindEmbedding (go_ok (tab_cons (ok_l16Find s.nodes.length) tab_nil) ?_)
  cases r : findE s t s.nodes.length [] with
  | none =>
    have hr := fresE_none r
    have he : embed s t = none := r
    simp [code_spec_FindEmbedding, List.replicate, hs, ht, allN_nil, fitsTo_nil, hr, he, Blk.freeze, Blk.frozen, capOk]
  | some out =>
    have hr := fresE_some r
    have he : embed s t = some out := r
    have hlen := (findE_pre r).1
    have hb : out.length * 8 ≤ 140737488355328 := by simp at hlen; omega
    simp [code_spec_FindEmbedding, List.replicate, hs, ht, allN_nil, fitsTo_nil, hr, he, Blk.freeze, Blk.frozen, capOk, hb, ite_nil]
end Go.Vm

/- spec.FindEmbedding with a row of its own; the draw of a mapping. No condition. -/
import Derived.Test.YtfelkhckpfjgjaaTKD
import Derived.Test.YtfelkhckpfjgjaaTFE
import Derived.Test.YtfelkhckpfjgjaaTMK
import Derived.Test.YtfelkhckpfjgjaaVme
set_option linter.unusedSimpArgs false
set_option linter.unusedVariables false
namespace Go.Vm
open Go.Proofs
theorem pair16_sh (c : Cur) : Sh12 (pair16 c).2.1 ∧ Sh12 (pair16 c).2.2 := by
  obtain ⟨hl1, hl2⟩ := drawH_len c 3
  have hsh := strcOf_sh (drawH_fit c) hl1 hl2
  have hb := blurS_sh hsh
  have hd := (d12_sh (drawY c 3).1.step).1
  unfold pair16
  generalize (drawY c 3).1.step = e at *
  generalize strcOf (drawH c 3) = s at *
  (repeat' split)
  · exact ⟨hsh, hd⟩
  · exact ⟨hb, hsh⟩
  · exact ⟨hd, hb⟩
  · exact ⟨hsh, hb⟩
end Go.Vm
namespace Go.Vm
open Go.Proofs
def code_slices_Clone_int_int : F := ⟨8,[.tmp 2],.seq (.reg [⟨some 2,.mov (.k (.sl .nil 0 [])),none⟩]) (.seq (.seq (.reg [⟨some 3,.mov (.t 0),none⟩,⟨some 4,.isnil false (.t 3),none⟩]) (.cond (.t 4) (.seq (.reg [⟨some 2,.mov (.k (.sl .nil 0 [])),none⟩]) (.ret)) (.skip))) (.seq (.reg [⟨some 5,.bsl 3 1 0 (.int .i64 0) [],none⟩,⟨some 6,.mov (.t 0),none⟩,⟨some 7,.append 3 1 8 (.t 5) (.t 6),none⟩,⟨some 2,.mov (.t 7),none⟩]) (.ret)))⟩
theorem fok_slices_Clone_int_int : FOk Try.prog 42 code_slices_Clone_int_int := fok Try.func42 (by kernel_rfl)
def code_impl_FindEmbedding_1 : F := ⟨46,[.tmp 5,.tmp 6],.seq (.reg [⟨some 5,.mov (.k (.sl .nil 0 [])),none⟩,⟨some 6,.mov (.k (.bool false)),none⟩]) (.seq (.seq (.reg [⟨some 11,.mov (.t 0),none⟩,⟨some 12,.len (.t 11),none⟩,⟨some 13,.faddr 0 (.t 1),none⟩,⟨some 14,.load 1 false (.t 13),none⟩,⟨some 15,.len (.t 14),none⟩,⟨some 16,.bin .eql (.t 12) (.t 15),none⟩]) (.cond (.t 16) (.seq (.reg [⟨some 17,.mov (.t 0),none⟩,⟨some 18,.load 2 true (.t 2),none⟩,⟨some 19,.mov (.t 0),none⟩,⟨some 20,.call 41 [.t 18,.t 19],none⟩,⟨some 5,.mov (.t 17),none⟩,⟨some 6,.mov (.t 20),none⟩]) (.ret)) (.skip))) (.seq (.seq (.reg [⟨some 21,.faddr 0 (.t 2),none⟩,⟨some 22,.load 1 false (.t 21),none⟩,⟨some 23,.len (.t 22),none⟩,⟨some 24,.mov (.k (.int .i64 0)),none⟩]) (.block 0 (.loop (.seq (.reg [⟨some 25,.bin .lss (.t 24) (.t 23),none⟩]) (.seq (.cond (.t 25) (.skip) (.exit 0)) (.seq (.block 1 (.seq (.reg [⟨some 26,.mov (.t 24),none⟩,⟨some 7,.mov (.t 26),none⟩]) (.seq (.reg [⟨some 27,.mov (.t 0),none⟩,⟨some 28,.call 42 [.t 27],none⟩,⟨some 29,.mov (.t 7),none⟩,⟨some 30,.bsl 3 1 1 (.int .i64 0) [(0,.t 29)],none⟩,⟨some 31,.append 3 1 8 (.t 28) (.t 30),none⟩,⟨some 8,.mov (.t 31),none⟩]) (.seq (.seq (.reg [⟨some 32,.load 2 true (.t 1),none⟩,⟨some 33,.load 2 true (.t 2),none⟩,⟨some 34,.mov (.t 8),none⟩,⟨some 35,.call 43 [.t 32,.t 33,.t 34],none⟩,⟨some 36,.not (.t 35),none⟩]) (.cond (.t 36) (.exit 1) (.skip))) (.seq (.reg [⟨some 38,.load 1 false (.t 3),none⟩,⟨some 39,.mov (.t 8),none⟩,⟨some 40,.callv (.t 38) [.t 39],none⟩,⟨some 37,.mov (.t 40),none⟩,⟨some 41,.extr (.t 37) 0,none⟩,⟨some 42,.extr (.t 37) 1,none⟩,⟨some 9,.mov (.t 41),none⟩,⟨some 10,.mov (.t 42),none⟩]) (.seq (.reg [⟨some 43,.mov (.t 10),none⟩]) (.cond (.t 43) (.seq (.reg [⟨some 44,.mov (.t 9),none⟩,⟨some 5,.mov (.t 44),none⟩,⟨some 6,.mov (.k (.bool true)),none⟩]) (.ret)) (.skip)))))))) (.reg [⟨some 45,.bin .add (.t 24) (.k (.int .i64 1)),none⟩,⟨some 24,.mov (.t 45),none⟩]))))))) (.seq (.reg [⟨some 5,.mov (.k (.sl .nil 0 [])),none⟩,⟨some 6,.mov (.k (.bool false)),none⟩]) (.ret))))⟩
theorem fok_impl_FindEmbedding_1 : FOk Try.prog 40 code_impl_FindEmbedding_1 := fok Try.func40 (by kernel_rfl)
def code_impl_FindEmbedding : F := ⟨18,[.tmp 4,.tmp 5],.seq (.reg [⟨some 2,.box (.t 0),none⟩,⟨some 3,.box (.t 1),none⟩,⟨some 4,.mov (.k (.sl .nil 0 [])),none⟩,⟨some 5,.mov (.k (.bool false)),none⟩]) (.seq (.reg [⟨some 6,.alloc [.hole],none⟩]) (.seq (.reg [⟨some 9,.mkfn 40 [.t 2,.t 3,.t 6],none⟩,⟨none,.store 1 (.t 6) (.t 9),none⟩]) (.seq (.reg [⟨some 11,.load 1 false (.t 6),none⟩,⟨some 12,.callv (.t 11) [(.k (.sl .nil 0 []))],none⟩,⟨some 10,.mov (.t 12),none⟩,⟨some 13,.extr (.t 10) 0,none⟩,⟨some 14,.extr (.t 10) 1,none⟩,⟨some 7,.mov (.t 13),none⟩,⟨some 8,.mov (.t 14),none⟩]) (.seq (.seq (.reg [⟨some 15,.mov (.t 8),none⟩,⟨some 16,.not (.t 15),none⟩]) (.cond (.t 16) (.seq (.reg [⟨some 4,.mov (.k (.sl .nil 0 [])),none⟩,⟨some 5,.mov (.k (.bool false)),none⟩]) (.ret)) (.skip))) (.seq (.reg [⟨some 17,.mov (.t 7),none⟩,⟨some 4,.mov (.t 17),none⟩,⟨some 5,.mov (.k (.bool true)),none⟩]) (.ret))))))⟩
theorem fok_impl_FindEmbedding : FOk Try.prog 9 code_impl_FindEmbedding := fok Try.func9 (by kernel_rfl)
@[simp] def ct_CloneNil : CtH := ⟨42, Unit, fun _ _ => True, fun _ => [.sl .nil 0 []], fun _ _ => .sl .nil 0 [], fun _ H => H⟩
theorem ok_CloneNil : ct_CloneNil.Ok Try.prog := by
  rintro ⟨⟩ H -
  refine OkH.of_cw' fok_slices_Clone_int_int (go_ok tab_nil ?_)
  simp [code_slices_Clone_int_int, List.replicate, retH]
@[simp] def ct_CloneRow (E : Nat) : CtH := ⟨42, Nat × List Int, fun x H => 0 < x.2.length ∧ x.2.length ≤ 1048576 ∧ H[x.1]? = some (.row true E 1 (x.2.map encInt)), fun x => [.slref x.1 0 x.2.length x.2.length], fun x H => .slref H.length 0 x.2.length x.2.length, fun x H => H ++ [.row true 3 1 (x.2.map encInt)]⟩
theorem ok_CloneRow (E : Nat) : (ct_CloneRow E).Ok Try.prog := by
  rintro ⟨b, xs⟩ H ⟨h1, h2, h3⟩
  change 0 < xs.length at h1
  change xs.length ≤ 1048576 at h2
  change H[b]? = some (.row true E 1 (xs.map encInt)) at h3
  have hb : b < H.length := (List.getElem?_eq_some_iff.1 h3).1
  have h3' : ∀ L, (H ++ L)[b]? = some (.row true E 1 (xs.map encInt)) := fun L => by rw [List.getElem?_append_left hb, h3]
  have h4 : xs.length * 8 ≤ 140737488355328 := by omega
  have h5 : ¬ xs.length = 0 := by omega
  refine OkH.of_cw' fok_slices_Clone_int_int (go_ok tab_nil ?_)
  simp [code_slices_Clone_int_int, List.replicate, retH, h1, h3, h3', h4, h5, ite_nil, getHk, getH0, setHk, setH0]
def rowsE : Nat → Nat → List Int → List Blk
  | 0, _, _ => []
  | n + 1, l, out => .row true 3 1 ((out.take (l + 1)).map encInt) :: .row true 3 1 [encInt (out.getD l 0)] :: rowsE n (l + 1) out
def memE (s t : Strc) (bs bt bf : Nat) (H : List Blk) : Prop :=
  H[bs]? = some (.cells [encL 4 encNode s.nodes, encL 1 encInt s.next]) ∧ H[bt]? = some (.cells [encL 4 encNode t.nodes, encL 1 encInt t.next]) ∧ H[bf]? = some (.cells [.fn 40 [.pbox bs 0, .pbox bt 0, .pbox bf 0]])
theorem memE_app {s t : Strc} {bs bt bf : Nat} {H : List Blk} (h : memE s t bs bt bf H) (L : List Blk) : memE s t bs bt bf (H ++ L) := by
  obtain ⟨h1, h2, h3⟩ := h
  refine ⟨?_, ?_, ?_⟩
  · rw [List.getElem?_append_left (List.getElem?_eq_some_iff.1 h1).1, h1]
  · rw [List.getElem?_append_left (List.getElem?_eq_some_iff.1 h2).1, h2]
  · rw [List.getElem?_append_left (List.getElem?_eq_some_iff.1 h3).1, h3]
def favE (s t : Strc) (to : List Int) (b h : Nat) : Nat → AV
  | 0 => .slref b 0 to.length to.length
  | n + 1 => match findE s t (n + 1) to with
    | some out => .slref (h + 2 * n) 0 out.length out.length
    | none => .sl .nil 0 []
def fheapE (s t : Strc) (n : Nat) (to : List Int) : List Blk := match n with
  | 0 => []
  | n + 1 => match findE s t (n + 1) to with
    | some out => rowsE (n + 1) to.length out
    | none => []
@[simp] def ct_find1 (s t : Strc) (bs bt bf : Nat) (n : Nat) : CtH := ⟨40, List Int × Nat,
  fun x H => (szStrc s ≤ 1048576 ∧ szStrc t ≤ 1048576) ∧ (x.1.length + n = s.nodes.length ∧ 0 < x.1.length) ∧ allN t x.1 x.1.length ∧ memE s t bs bt bf H ∧ H[x.2]? = some (.row true 3 1 (x.1.map encInt)),
  fun x => [.slref x.2 0 x.1.length x.1.length, .pbox bs 0, .pbox bt 0, .pbox bf 0],
  fun x H => .tup [favE s t x.1 x.2 H.length n, .bool (fresE s t n x.1).2],
  fun x H => H ++ fheapE s t n x.1⟩
set_option maxHeartbeats 4000000 in
set_option maxRecDepth 100000 in
theorem find1_step (s t : Strc) (bs bt bf n : Nat) (ih : ∀ m, m < n → (ct_find1 s t bs bt bf m).Ok Try.prog) : (ct_find1 s t bs bt bf n).Ok Try.prog := by
  rintro ⟨to, b⟩ H hx
  change (szStrc s ≤ 1048576 ∧ szStrc t ≤ 1048576) ∧ (to.length + n = s.nodes.length ∧ 0 < to.length) ∧ allN t to to.length ∧ memE s t bs bt bf H ∧ H[b]? = some (.row true 3 1 (to.map encInt)) at hx
  obtain ⟨⟨hs, ht⟩, ⟨hlen, hpos⟩, hall, hm, hb⟩ := hx
  have hsl := strc_le s
  have htl := strc_le t
  have hc : callable Try.prog 40 = true := by kernel_rfl
  obtain ⟨m1, m2, m3⟩ := hm
  have m1' : ∀ L, (H ++ L)[bs]? = _ := fun L => (memE_app ⟨m1, m2, m3⟩ L).1
  have m2' : ∀ L, (H ++ L)[bt]? = _ := fun L => (memE_app ⟨m1, m2, m3⟩ L).2.1
  have m3' : ∀ L, (H ++ L)[bf]? = _ := fun L => (memE_app ⟨m1, m2, m3⟩ L).2.2
  have b0 : b < H.length := (List.getElem?_eq_some_iff.1 hb).1
  have b1 : bs < H.length := (List.getElem?_eq_some_iff.1 m1).1
  have b2 : bt < H.length := (List.getElem?_eq_some_iff.1 m2).1
  have b3 : bf < H.length := (List.getElem?_eq_some_iff.1 m3).1
  refine OkH.of_self fun hB => ?_
  cases n with
  | zero =>
    have h0 : to.length = s.nodes.length := by omega
    refine OkH.of_cw' fok_impl_FindEmbedding_1 (go_ok (tab_cons ok_isOnto tab_nil) ?_)
    have h0i : (to.length : Int) = (s.nodes.length : Int) := by omega
    simp [code_impl_FindEmbedding_1, List.replicate, retH, h0i, hs, ht, m1, m2, m3, hb, fresE, favE, fheapE]
  | succ n =>
    have h0 : ¬ to.length = s.nodes.length := by omega
    have h0' : ¬ (to.length : Int) = s.nodes.length := by omega
    refine OkH.of_cw' fok_impl_FindEmbedding_1 (go_ok tab_nil ?_)
    simp [code_impl_FindEmbedding_1, List.replicate, h0, h0', m1, m2, m3, hb]
    refine cw_round (fun (k : Nat) => ⟨slots 46 [(0, .slref b 0 to.length to.length), (1, .pbox bs 0), (2, .pbox bt 0), (3, .pbox bf 0), (23, .int .i64 t.nodes.length), (24, .int .i64 k)], H⟩)
      (fun k => k ≤ t.nodes.length ∧ findE s t (n + 1) to = firstS (stepE s t n to) (t.nodes.length - k) k) (fun k => t.nodes.length - k) 0 ⟨by omega, findE_succ s t n to⟩ ?_ ?_
    · exact weak_slots (by simp [List.replicate, less_undef, less_refl])
    · rintro N hN k ⟨hk, hn⟩
      have hw : IntKind.i64.wrap ((k : Int) + 1) = ((k + 1 : Nat) : Int) := by rw [wrap_i64] <;> omega
      have hb0 : to.length ≤ 1048576 := by omega
      have hb1 : to.length * 8 ≤ 140737488355328 := by omega
      have hb2 : (to.length + 1) * 8 ≤ 140737488355328 := by omega
      by_cases g : k < t.nodes.length
      · have g2 : ¬ t.nodes.length ≤ k := by omega
        obtain ⟨d, hd⟩ : ∃ d, t.nodes.length - k = d + 1 := ⟨t.nodes.length - k - 1, by omega⟩
        rw [hd] at hn
        have hsn : to.length < s.nodes.length := by omega
        have hal := allN_pre (j := k) hall
        have hal2 := allN_snoc hall g
        have hgl : (to ++ [(k : Int)]).getD to.length 0 = k := getD_last
        have hin : inN t (k : Int) := ⟨by omega, by omega⟩
        refine go_ok (tab_h (ok_CloneRow 3) (tab_h (ih n (by omega)) (tab_cons ok_fitsSoFar tab_nil))) ?_
        simp (config := {maxSteps := 2000000}) [List.replicate, hw, g, g2, hpos, hb, m1, m2, m3, m1', m2', m3']
        refine ⟨to, rfl, hpos, hb0, rfl, ?_⟩
        have hlen2 : to.length + 1 + n = s.nodes.length := by omega
        have hmem : ∀ L, memE s t bs bt bf (H ++ L) := fun L => memE_app ⟨m1, m2, m3⟩ L
        cases e : okB s t to k
        · rw [firstS_miss (stepE_bad e)] at hn
          have e' : fitsB s t (to ++ [(k : Int)]) to.length = false := e
          simp (config := {maxSteps := 2000000}) [List.replicate, hw, g, g2, hpos, hb0, hb1, hb2, app1, ite_nil, lend_snoc, mksl_snoc, hs, ht, hsn, hal, hc, m1, m2, m3, m1', m2', m3', hb, getHk, getH0, setHk, setH0, hin, e']
          refine hN _ (k + 1) _ ⟨by omega, ?_⟩ (by omega) ?_
          · rw [hn]; congr 1; omega
          · exact weak_back hB (Nat.le_refl _) (by simp [List.replicate, b0, b1, b2, b3])
        · have e' : fitsB s t (to ++ [(k : Int)]) to.length = true := e
          simp (config := {maxSteps := 2000000}) [List.replicate, hw, g, g2, hpos, hb0, hb1, hb2, app1, ite_nil, lend_snoc, mksl_snoc, hs, ht, hsn, hal, hc, m1, m2, m3, m1', m2', m3', hb, getHk, getH0, setHk, setH0, hin, e', hlen2, hmem, hal2]
          refine ⟨to ++ [(k : Int)], by simp, by simp; omega, by simp, by simpa using hal2, by simp, ?_⟩
          cases r : findE s t n (to ++ [(k : Int)]) with
          | some out =>
            rw [firstS_hit ((stepE_ok e).trans r)] at hn
            have hr := fresE_some r
            have hr2 := fresE_some hn
            obtain ⟨o1, o2⟩ := findE_pre r
            simp only [List.length_append, List.length_cons, List.length_nil] at o1 o2
            have hfav : favE s t (to ++ [(k : Int)]) H.length (H.length + 2) n = .slref (H.length + 2 * n) 0 out.length out.length := by
              cases n with
              | zero =>
                have : out = to ++ [(k : Int)] := by rw [List.take_of_length_le (by omega)] at o2; exact o2
                subst this
                simp [favE]
              | succ n => simp [favE, r]; omega
            have hq : Blk.row true 3 1 (List.map encInt to ++ [AV.int .i64 (k : Int)]) :: Blk.row true 3 1 [AV.int .i64 (k : Int)] :: fheapE s t n (to ++ [(k : Int)]) = rowsE (n + 1) to.length out := by
              have e1 : out.getD to.length 0 = (k : Int) := by
                have := congrArg (fun l : List Int => l.getD to.length 0) o2
                simp only [getD_last] at this
                rw [getD_take (by omega)] at this
                exact this
              unfold rowsE
              rw [o2, e1]
              cases n with
              | zero => simp [fheapE, rowsE]
              | succ n => simp [fheapE, r]
            rw [hq, hfav]
            simp [hr, hr2, retH, favE, fheapE, hn]
          | none =>
            rw [firstS_miss ((stepE_ok e).trans r)] at hn
            have hr := fresE_none r
            have hq : fheapE s t n (to ++ [(k : Int)]) = [] := by cases n <;> simp [fheapE, r]
            have hfav : favE s t (to ++ [(k : Int)]) H.length (H.length + 2) n = if n = 0 then .slref H.length 0 (to.length + 1) (to.length + 1) else .sl .nil 0 [] := by
              cases n <;> simp [favE, r]
            rw [hfav, hq]
            simp [hr, List.replicate, hw]
            refine hN _ (k + 1) _ ⟨by omega, ?_⟩ (by omega) ?_
            · rw [hn]; congr 1; omega
            · split <;> exact weak_back hB (Nat.le_refl _) (by simp [List.replicate, b0, b1, b2, b3])
      · have hz : t.nodes.length - k = 0 := by omega
        rw [hz] at hn
        change findE s t (n + 1) to = none at hn
        have g2 : t.nodes.length ≤ k := by omega
        refine go_ok tab_nil ?_
        simp [List.replicate, g, g2, retH, favE, fheapE, fresE, hn]
theorem ok_find1 (s t : Strc) (bs bt bf n : Nat) : (ct_find1 s t bs bt bf n).Ok Try.prog := by
  induction n using Nat.strongRecOn with
  | ind n ih => exact find1_step s t bs bt bf n ih
theorem rowsE_len : ∀ (n l : Nat) (out : List Int), (rowsE n l out).length = 2 * n
  | 0, _, _ => rfl
  | n + 1, l, out => by simp [rowsE, rowsE_len n]; omega
theorem rowsE_get : ∀ (n l : Nat) (out : List Int), (rowsE (n + 1) l out)[2 * n]? = some (.row true 3 1 ((out.take (l + n + 1)).map encInt))
  | 0, l, out => by simp [rowsE]
  | n + 1, l, out => by
    rw [rowsE, show 2 * (n + 1) = 2 * n + 1 + 1 by omega, List.getElem?_cons_succ, List.getElem?_cons_succ, rowsE_get n (l + 1) out]
    congr 5; omega
theorem rowsE_sl {m : Nat} {H2 : List Blk} : ∀ (n l : Nat) (out : List Int), All2 (SlB m H2) (rowsE n l out) (rowsE n l out)
  | 0, _, _ => .nil
  | n + 1, l, out => .cons slB_ints (.cons (slB_ints (xs := [out.getD l 0])) (rowsE_sl n (l + 1) out))
theorem rowsE_own : ∀ (n l : Nat) (out : List Int), ∀ k ∈ rowsE n l out, ownB k = true
  | 0, _, _, k, h => by simp [rowsE] at h
  | n + 1, l, out, k, h => by
    simp only [rowsE, List.mem_cons] at h
    rcases h with rfl | rfl | h
    · simp [ownB, -List.map_take]
    · simp [ownB, ownV, ownVL]
    · exact rowsE_own n (l + 1) out k h
def fav0 (s t : Strc) (h : Nat) : Nat → AV
  | 0 => .sl .nil 0 []
  | n + 1 => match findE s t (n + 1) [] with
    | some out => .slref (if n = 0 then h + 1 else h + 2 * n) 0 out.length out.length
    | none => .sl .nil 0 []
@[simp] def ct_find0 (s t : Strc) (bs bt bf : Nat) (n : Nat) : CtH := ⟨40, Unit,
  fun _ H => (szStrc s ≤ 1048576 ∧ szStrc t ≤ 1048576) ∧ n = s.nodes.length ∧ memE s t bs bt bf H,
  fun _ => [.sl .nil 0 [], .pbox bs 0, .pbox bt 0, .pbox bf 0],
  fun _ H => .tup [fav0 s t H.length n, .bool (fresE s t n []).2],
  fun _ H => H ++ fheapE s t n []⟩
set_option maxHeartbeats 4000000 in
set_option maxRecDepth 100000 in
theorem ok_find0 (s t : Strc) (bs bt bf n : Nat) : (ct_find0 s t bs bt bf n).Ok Try.prog := by
  rintro ⟨⟩ H ⟨⟨hs, ht⟩, hlen, hm⟩
  have hsl := strc_le s
  have htl := strc_le t
  have hc : callable Try.prog 40 = true := by kernel_rfl
  obtain ⟨m1, m2, m3⟩ := hm
  have m1' : ∀ L, (H ++ L)[bs]? = _ := fun L => (memE_app ⟨m1, m2, m3⟩ L).1
  have m2' : ∀ L, (H ++ L)[bt]? = _ := fun L => (memE_app ⟨m1, m2, m3⟩ L).2.1
  have m3' : ∀ L, (H ++ L)[bf]? = _ := fun L => (memE_app ⟨m1, m2, m3⟩ L).2.2
  have b1 : bs < H.length := (List.getElem?_eq_some_iff.1 m1).1
  have b2 : bt < H.length := (List.getElem?_eq_some_iff.1 m2).1
  have b3 : bf < H.length := (List.getElem?_eq_some_iff.1 m3).1
  refine OkH.of_self fun hB => ?_
  cases n with
  | zero =>
    refine OkH.of_cw' fok_impl_FindEmbedding_1 (go_ok (tab_cons ok_isOnto tab_nil) ?_)
    have h0 : (s.nodes.length : Int) = 0 := by omega
    have h0' : s.nodes.length = 0 := by omega
    simp [code_impl_FindEmbedding_1, List.replicate, retH, h0, h0', hs, ht, m1, m2, m3, fresE, fav0, fheapE]
  | succ n =>
    have h0 : ¬ (0 : Int) = s.nodes.length := by omega
    have h0' : ¬ s.nodes.length = 0 := by omega
    have h0'' : ¬ (s.nodes.length : Int) = 0 := by omega
    refine OkH.of_cw' fok_impl_FindEmbedding_1 (go_ok tab_nil ?_)
    simp [code_impl_FindEmbedding_1, List.replicate, h0, h0', h0'', m1, m2, m3]
    refine cw_round (fun (k : Nat) => ⟨slots 46 [(0, .sl .nil 0 []), (1, .pbox bs 0), (2, .pbox bt 0), (3, .pbox bf 0), (23, .int .i64 t.nodes.length), (24, .int .i64 k)], H⟩)
      (fun k => k ≤ t.nodes.length ∧ findE s t (n + 1) [] = firstS (stepE s t n []) (t.nodes.length - k) k) (fun k => t.nodes.length - k) 0 ⟨by omega, findE_succ s t n []⟩ ?_ ?_
    · exact weak_slots (by simp [List.replicate, less_undef, less_refl])
    · rintro N hN k ⟨hk, hn⟩
      have hw : IntKind.i64.wrap ((k : Int) + 1) = ((k + 1 : Nat) : Int) := by rw [wrap_i64] <;> omega
      by_cases g : k < t.nodes.length
      · have g2 : ¬ t.nodes.length ≤ k := by omega
        obtain ⟨d, hd⟩ : ∃ d, t.nodes.length - k = d + 1 := ⟨t.nodes.length - k - 1, by omega⟩
        rw [hd] at hn
        have hsn : 0 < s.nodes.length := by omega
        have hal2 := allN_snoc (t := t) (to := []) allN_nil g
        have hal0 : allN t [(k : Int)] 0 := fun j hj => absurd hj (by omega)
        have hin : inN t (k : Int) := ⟨by omega, by omega⟩
        have hlen2 : 1 + n = s.nodes.length := by omega
        have hmem : ∀ L, memE s t bs bt bf (H ++ L) := fun L => memE_app ⟨m1, m2, m3⟩ L
        refine go_ok (tab_h ok_CloneNil (tab_h (ok_find1 s t bs bt bf n) (tab_cons ok_fitsSoFar tab_nil))) ?_
        have lend1 : ∀ m H, lendEls m H 19 [AV.int .i64 (k : Int)] = some [AV.int .i64 (k : Int)] := fun m H => by simp [lendEls]
        have mk1 : mksl 1 [AV.int .i64 (k : Int)] = encL 1 encInt [(k : Int)] := rfl
        cases e : okB s t [] k
        · rw [firstS_miss (stepE_bad e)] at hn
          have e' : fitsB s t [(k : Int)] 0 = false := e
          simp (config := {maxSteps := 2000000}) [List.replicate, hw, g, g2, hs, ht, hsn, hal0, hc, m1, m2, m3, m1', m2', m3', getHk, getH0, setHk, setH0, hin, e', lend1, mk1]
          refine hN _ (k + 1) _ ⟨by omega, ?_⟩ (by omega) ?_
          · rw [hn]; congr 1; omega
          · exact weak_back hB (Nat.le_refl _) (by simp [List.replicate, b1, b2, b3])
        · have e' : fitsB s t [(k : Int)] 0 = true := e
          simp (config := {maxSteps := 2000000}) [List.replicate, hw, g, g2, hs, ht, hsn, hal0, hc, m1, m2, m3, m1', m2', m3', getHk, getH0, setHk, setH0, hin, e', lend1, mk1, hlen2, hmem]
          refine ⟨[(k : Int)], by simp, by simpa using hlen2, by simp, by simpa using hal2, by simp, ?_⟩
          cases r : findE s t n [(k : Int)] with
          | some out =>
            have r' : stepE s t n [] k = some out := (stepE_ok e).trans r
            rw [firstS_hit r'] at hn
            have hr := fresE_some r
            have hr2 := fresE_some hn
            obtain ⟨o1, o2⟩ := findE_pre r
            simp only [List.length_cons, List.length_nil] at o1 o2
            have hfav : favE s t [(k : Int)] (H.length + 1) (H.length + 2) n = .slref (if n = 0 then H.length + 1 else H.length + 2 * n) 0 out.length out.length := by
              cases n with
              | zero =>
                have : out = [(k : Int)] := by rw [List.take_of_length_le (by omega)] at o2; exact o2
                subst this
                simp [favE]
              | succ n => simp [favE, r]; omega
            have hq : Blk.row true 3 1 [AV.int .i64 (k : Int)] :: Blk.row true 3 1 [AV.int .i64 (k : Int)] :: fheapE s t n [(k : Int)] = rowsE (n + 1) 0 out := by
              have e1 : out.getD 0 0 = (k : Int) := by
                have := congrArg (fun l : List Int => l.getD 0 0) o2
                rw [getD_take (by omega)] at this
                exact this
              unfold rowsE
              rw [o2, e1]
              cases n with
              | zero => simp [fheapE, rowsE]
              | succ n => simp [fheapE, r]
            rw [hq, hfav]
            simp [hr, hr2, retH, fav0, fheapE, hn]
          | none =>
            have r' : stepE s t n [] k = none := (stepE_ok e).trans r
            rw [firstS_miss r'] at hn
            have hr := fresE_none r
            have hq : fheapE s t n [(k : Int)] = [] := by cases n <;> simp [fheapE, r]
            have hfav : favE s t [(k : Int)] (H.length + 1) (H.length + 2) n = if n = 0 then .slref (H.length + 1) 0 1 1 else .sl .nil 0 [] := by
              cases n <;> simp [favE, r]
            rw [hfav, hq]
            simp [hr, List.replicate, hw]
            refine hN _ (k + 1) _ ⟨by omega, ?_⟩ (by omega) ?_
            · rw [hn]; congr 1; omega
            · split <;> exact weak_back hB (Nat.le_refl _) (by simp [List.replicate, b1, b2, b3])
      · have hz : t.nodes.length - k = 0 := by omega
        rw [hz] at hn
        change findE s t (n + 1) [] = none at hn
        have g2 : t.nodes.length ≤ k := by omega
        refine go_ok tab_nil ?_
        simp [List.replicate, g, g2, retH, fav0, fheapE, fresE, hn]
end Go.Vm

/- CanonHeap of the program, told without blocks. No condition. -/
import Derived.Test.YtfelkhckpfjgjaaTCH
import Derived.Test.YtfelkhckpfjgjaaTWL
import Derived.Test.YtfelkhckpfjgjaaTSL
set_option linter.unusedSimpArgs false
set_option linter.unusedVariables false
namespace Go.Vm
open Go.Proofs
theorem cw_to {P : Program} {n0 : Nat} {A B : C} {Q : Exit → St → Prop} {st : St} (st' : St) (h1 : CW P n0 A (fun e s => e = .normal ∧ Weak n0 s st') st) (h2 : CW P n0 B Q st') : CW P n0 (.seq A B) Q st :=
  cw_seq (cw_mono h1 fun e s h => by obtain ⟨rfl, hw⟩ := h; exact cw_weak hw h2)
end Go.Vm
namespace Go.Vm
open Go.Proofs
def usesT (k : Int) : Int := if k = 2 ∨ k = 3 ∨ k = 4 ∨ k = 11 ∨ k = 12 then 1 else if k = 5 ∨ k = 6 ∨ k = 7 then 2 else 0
def code_spec_l10Uses : F := ⟨14,[.tmp 2],.seq (.reg [⟨some 2,.mov (.k (.int .i64 0)),none⟩]) (.seq (.seq (.reg [⟨some 3,.mov (.t 0),none⟩]) (.block 0 (.seq (.seq (.reg [⟨some 5,.bin .eql (.t 3) (.k (.int .i64 2)),none⟩,⟨some 4,.mov (.t 5),none⟩]) (.cond (.t 4) (.skip) (.seq (.reg [⟨some 6,.bin .eql (.t 3) (.k (.int .i64 3)),none⟩,⟨some 4,.mov (.t 6),none⟩]) (.cond (.t 4) (.skip) (.seq (.reg [⟨some 7,.bin .eql (.t 3) (.k (.int .i64 4)),none⟩,⟨some 4,.mov (.t 7),none⟩]) (.cond (.t 4) (.skip) (.seq (.reg [⟨some 8,.bin .eql (.t 3) (.k (.int .i64 11)),none⟩,⟨some 4,.mov (.t 8),none⟩]) (.cond (.t 4) (.skip) (.reg [⟨some 9,.bin .eql (.t 3) (.k (.int .i64 12)),none⟩,⟨some 4,.mov (.t 9),none⟩]))))))))) (.cond (.t 4) (.seq (.reg [⟨some 2,.mov (.k (.int .i64 1)),none⟩]) (.ret)) (.seq (.seq (.reg [⟨some 11,.bin .eql (.t 3) (.k (.int .i64 5)),none⟩,⟨some 10,.mov (.t 11),none⟩]) (.cond (.t 10) (.skip) (.seq (.reg [⟨some 12,.bin .eql (.t 3) (.k (.int .i64 6)),none⟩,⟨some 10,.mov (.t 12),none⟩]) (.cond (.t 10) (.skip) (.reg [⟨some 13,.bin .eql (.t 3) (.k (.int .i64 7)),none⟩,⟨some 10,.mov (.t 13),none⟩]))))) (.cond (.t 10) (.seq (.reg [⟨some 2,.mov (.k (.int .i64 2)),none⟩]) (.ret)) (.skip))))))) (.seq (.reg [⟨some 2,.mov (.k (.int .i64 0)),none⟩]) (.ret)))⟩
theorem fok_spec_l10Uses : FOk Try.prog 107 code_spec_l10Uses := fok Try.func107 (by kernel_rfl)
@[simp] def ct_l10Uses : Ct := ⟨107, Int, fun _ => True, fun x => [.int .i64 x], fun x => .int .i64 (usesT x)⟩
set_option maxHeartbeats 1000000 in
theorem ok_l10Uses : ct_l10Uses.Ok Try.prog := by
  rintro k -
  change Int at k
  refine Ok.of_cw fok_spec_l10Uses (go_ok tab_nil ?_)
  by_cases h2 : k = 2
  · subst h2; simp [code_spec_l10Uses, List.replicate, usesT]
  by_cases h3 : k = 3
  · subst h3; simp [code_spec_l10Uses, List.replicate, usesT]
  by_cases h4 : k = 4
  · subst h4; simp [code_spec_l10Uses, List.replicate, usesT]
  by_cases h11 : k = 11
  · subst h11; simp [code_spec_l10Uses, List.replicate, usesT]
  by_cases h12 : k = 12
  · subst h12; simp [code_spec_l10Uses, List.replicate, usesT]
  by_cases h5 : k = 5
  · subst h5; simp [code_spec_l10Uses, List.replicate, usesT]
  by_cases h6 : k = 6
  · subst h6; simp [code_spec_l10Uses, List.replicate, usesT]
  by_cases h7 : k = 7
  · subst h7; simp [code_spec_l10Uses, List.replicate, usesT]
  simp [code_spec_l10Uses, List.replicate, usesT, h2, h3, h4, h5, h6, h7, h11, h12]
mutual
def leftF : Fm → Int → Int | .mk _ _ _ _ l, n => leftS l (n - 1)
def leftS : List Fm → Int → Int
  | [], n => n
  | x :: xs, n => if n < 0 then n else leftS xs (leftF x n)
end
mutual
theorem leftF_bd : ∀ (x : Fm) (n : Int), 0 ≤ n → -1 ≤ leftF x n ∧ leftF x n ≤ n
  | .mk _ _ _ _ l, n, h => by
    have := leftS_bd l (n - 1) (by omega)
    unfold leftF
    omega
theorem leftS_bd : ∀ (xs : List Fm) (n : Int), -1 ≤ n → -1 ≤ leftS xs n ∧ leftS xs n ≤ n
  | [], n, h => by unfold leftS; omega
  | x :: xs, n, h => by
    unfold leftS
    split
    · omega
    · have h1 := leftF_bd x n (by omega)
      have h2 := leftS_bd xs (leftF x n) h1.1
      omega
end
theorem drop_cons {α : Type} {l : List α} {i : Nat} (h : i < l.length) : l.drop i = l[i] :: l.drop (i + 1) := List.drop_eq_getElem_cons h
def code_spec_l10Left : F := ⟨27,[.tmp 4],.seq (.reg [⟨some 2,.box (.t 0),none⟩,⟨some 4,.mov (.k (.int .i64 0)),none⟩]) (.seq (.reg [⟨some 6,.mov (.t 1),none⟩,⟨some 7,.bin .sub (.t 6) (.k (.int .i64 1)),none⟩,⟨some 1,.mov (.t 7),none⟩]) (.seq (.seq (.reg [⟨some 5,.mov (.k (.int .i64 0)),none⟩]) (.block 0 (.loop (.seq (.seq (.reg [⟨some 8,.mov (.t 5),none⟩,⟨some 9,.faddr 4 (.t 2),none⟩,⟨some 10,.load 1 false (.t 9),none⟩,⟨some 11,.len (.t 10),none⟩,⟨some 12,.bin .lss (.t 8) (.t 11),none⟩,⟨some 13,.mov (.t 12),none⟩,⟨some 14,.mov (.t 1),some (13,true)⟩,⟨some 15,.bin .geq (.t 14) (.k (.int .i64 0)),some (13,true)⟩,⟨some 16,.pick (.t 13) (.t 15) (.k (.bool false)),none⟩]) (.cond (.t 16) (.skip) (.exit 0))) (.seq (.block 1 (.reg [⟨some 19,.faddr 4 (.t 2),none⟩,⟨some 20,.load 1 false (.t 19),none⟩,⟨some 21,.mov (.t 5),none⟩,⟨some 22,.iaddr 5 (.t 20) (.t 21),none⟩,⟨some 23,.load 5 true (.t 22),none⟩,⟨some 24,.mov (.t 1),none⟩,⟨some 25,.call 86 [.t 23,.t 24],none⟩,⟨some 1,.mov (.t 25),none⟩])) (.reg [⟨some 17,.mov (.t 5),none⟩,⟨some 18,.bin .add (.t 17) (.k (.int .i64 1)),none⟩,⟨some 5,.mov (.t 18),none⟩])))))) (.seq (.reg [⟨some 26,.mov (.t 1),none⟩,⟨some 4,.mov (.t 26),none⟩]) (.ret))))⟩
theorem fok_spec_l10Left : FOk Try.prog 86 code_spec_l10Left := fok Try.func86 (by kernel_rfl)
@[simp] def ct_l10Left (n : Nat) : Ct := ⟨86, Fm × Int, fun x => x.1.size ≤ n ∧ x.1.size ≤ 1048576 ∧ 0 ≤ x.2 ∧ x.2 ≤ 1048576, fun x => [encFm x.1, .int .i64 x.2], fun x => .int .i64 (leftF x.1 x.2)⟩
set_option maxHeartbeats 4000000 in
set_option maxRecDepth 100000 in
theorem ok_l10Left : ∀ n, (ct_l10Left n).Ok Try.prog
  | 0 => by
    rintro ⟨⟨k, a, u, v, l⟩, m⟩ ⟨h, -⟩
    have h : Fm.size (.mk k a u v l) ≤ 0 := h
    simp only [Fm.size] at h
    omega
  | n + 1 => by
    rintro ⟨⟨k, a, u, v, l⟩, m⟩ ⟨h, h2, h3, h4⟩
    have h : Fm.size (.mk k a u v l) ≤ n + 1 := h
    have h2 : Fm.size (.mk k a u v l) ≤ 1048576 := h2
    change 0 ≤ m at h3
    change m ≤ 1048576 at h4
    simp only [Fm.size] at h h2
    have hll := sizes_len l
    have hw : IntKind.i64.wrap (m - 1) = m - 1 := by rw [wrap_i64] <;> omega
    have hT : TabOk Try.prog _ := tab_cons (ok_l10Left n) tab_nil
    have hR : leftF (.mk k a u v l) m = leftS l (m - 1) := rfl
    simp only [ct_l10Left, hR]
    refine Ok.of_cw fok_spec_l10Left ?_
    simp only [code_spec_l10Left, frame, List.length_cons, List.length_nil, List.replicate, Nat.reduceSub, Nat.reduceAdd, List.cons_append, List.nil_append]
    refine cw_seq (go_ok hT ?_); simp [List.replicate]
    refine cw_seq (go_ok hT ?_); simp [List.replicate, hw]
    refine cw_seq (cw_seq (go_ok hT ?_)); simp [List.replicate]
    refine cw_block (cw_round (fun (x : Nat × Int) => ⟨slots 27 [(1, .int .i64 x.2), (2, .pbox 0 0), (5, .int .i64 x.1)], [.cells [.int .i64 k, .int .i64 a, .int .i64 u, .int .i64 v, encL 5 encFm l]]⟩)
      (fun x => x.1 ≤ l.length ∧ (-1 ≤ x.2 ∧ x.2 ≤ 1048576) ∧ leftS (l.drop x.1) x.2 = leftS l (m - 1)) (fun x => l.length - x.1) (0, m - 1) ⟨by simp, by show -1 ≤ m - 1 ∧ m - 1 ≤ 1048576; omega, rfl⟩ ?_ ?_)
    · exact weak_less (by simp) (by simp [List.replicate])
    rintro N hN ⟨i, c⟩ ⟨hi, ⟨hc1, hc2⟩, he⟩
    change i ≤ l.length at hi
    change -1 ≤ c at hc1
    change c ≤ 1048576 at hc2
    change leftS (l.drop i) c = leftS l (m - 1) at he
    have hwi : IntKind.i64.wrap ((i : Int) + 1) = ((i + 1 : Nat) : Int) := by rw [wrap_i64] <;> omega
    refine go_ok hT ?_
    by_cases q : i < l.length
    · have q2 : ¬ l.length ≤ i := by omega
      rw [drop_cons q] at he
      by_cases c0 : 0 ≤ c
      · have c1 : ¬ c < 0 := by omega
        have hm := size_mem (xs := l) q
        have h5 : l[i].size ≤ n := by omega
        have h6 : l[i].size ≤ 1048576 := by omega
        have hb := leftF_bd l[i] c c0
        rw [leftS, if_neg c1] at he
        simp [List.replicate, q, q2, c0, c1, h5, h6, hc2, hwi]
        exact hN (i, c) (i + 1, leftF l[i] c) _ ⟨by show i + 1 ≤ l.length; omega, by show -1 ≤ leftF l[i] c ∧ leftF l[i] c ≤ 1048576; omega, he⟩ (by show l.length - (i + 1) < l.length - i; omega) (weak_less (by simp) (by simp [List.replicate]))
      · have c1 : c < 0 := by omega
        rw [leftS, if_pos c1] at he
        simp [List.replicate, q, q2, c0, c1]
        refine go_ok tab_nil ?_
        simp [List.replicate, he]
    · have e : i = l.length := by omega
      subst e
      rw [List.drop_length] at he
      simp [List.replicate]
      refine go_ok tab_nil ?_
      have he : c = leftS l (m - 1) := he
      simp [List.replicate, he]
mutual
def depthF : Fm → Int | .mk _ _ _ _ l => depthS l 0 + 1
def depthS : List Fm → Int → Int
  | [], n => n
  | x :: xs, n => depthS xs (if n ≤ depthF x then depthF x else n)
end
mutual
theorem depthF_bd : ∀ (x : Fm), 0 ≤ depthF x ∧ depthF x ≤ x.size
  | .mk _ _ _ _ l => by
    have := depthS_bd l 0 (by omega)
    unfold depthF
    simp only [Fm.size]
    omega
theorem depthS_bd : ∀ (xs : List Fm) (n : Int), 0 ≤ n → 0 ≤ depthS xs n ∧ (depthS xs n ≤ n ∨ depthS xs n ≤ sizes xs)
  | [], n, h => by unfold depthS; omega
  | x :: xs, n, h => by
    have h1 := depthF_bd x
    have h2 := depthS_bd xs (if n ≤ depthF x then depthF x else n) (by split <;> omega)
    unfold depthS
    simp only [sizes]
    by_cases g : n ≤ depthF x
    · rw [if_pos g] at h2 ⊢; omega
    · rw [if_neg g] at h2 ⊢; omega
end
def code_spec_DepthOf : F := ⟨22,[.tmp 2],.seq (.reg [⟨some 1,.box (.t 0),none⟩,⟨some 2,.mov (.k (.int .i64 0)),none⟩]) (.seq (.reg [⟨some 3,.mov (.k (.int .i64 0)),none⟩]) (.seq (.seq (.reg [⟨some 4,.mov (.k (.int .i64 0)),none⟩]) (.block 0 (.loop (.seq (.seq (.reg [⟨some 5,.mov (.t 4),none⟩,⟨some 6,.faddr 4 (.t 1),none⟩,⟨some 7,.load 1 false (.t 6),none⟩,⟨some 8,.len (.t 7),none⟩,⟨some 9,.bin .lss (.t 5) (.t 8),none⟩]) (.cond (.t 9) (.skip) (.exit 0))) (.seq (.block 1 (.reg [⟨some 12,.mov (.t 3),none⟩,⟨some 13,.faddr 4 (.t 1),none⟩,⟨some 14,.load 1 false (.t 13),none⟩,⟨some 15,.mov (.t 4),none⟩,⟨some 16,.iaddr 5 (.t 14) (.t 15),none⟩,⟨some 17,.load 5 true (.t 16),none⟩,⟨some 18,.call 87 [.t 17],none⟩,⟨some 19,.call 63 [.t 12,.t 18],none⟩,⟨some 3,.mov (.t 19),none⟩])) (.reg [⟨some 10,.mov (.t 4),none⟩,⟨some 11,.bin .add (.t 10) (.k (.int .i64 1)),none⟩,⟨some 4,.mov (.t 11),none⟩])))))) (.seq (.reg [⟨some 20,.mov (.t 3),none⟩,⟨some 21,.bin .add (.t 20) (.k (.int .i64 1)),none⟩,⟨some 2,.mov (.t 21),none⟩]) (.ret))))⟩
theorem fok_spec_DepthOf : FOk Try.prog 87 code_spec_DepthOf := fok Try.func87 (by kernel_rfl)
@[simp] def ct_DepthOf (n : Nat) : Ct := ⟨87, Fm, fun x => x.size ≤ n ∧ x.size ≤ 1048576, fun x => [encFm x], fun x => .int .i64 (depthF x)⟩
set_option maxHeartbeats 4000000 in
set_option maxRecDepth 100000 in
theorem ok_DepthOf : ∀ n, (ct_DepthOf n).Ok Try.prog
  | 0 => by
    rintro ⟨k, a, u, v, l⟩ ⟨h, -⟩
    have h : Fm.size (.mk k a u v l) ≤ 0 := h
    simp only [Fm.size] at h
    omega
  | n + 1 => by
    rintro ⟨k, a, u, v, l⟩ ⟨h, h2⟩
    have h : Fm.size (.mk k a u v l) ≤ n + 1 := h
    have h2 : Fm.size (.mk k a u v l) ≤ 1048576 := h2
    simp only [Fm.size] at h h2
    have hll := sizes_len l
    have hT : TabOk Try.prog _ := tab_cons (ok_DepthOf n) (tab_cons ok_l1Max tab_nil)
    have hR : depthF (.mk k a u v l) = depthS l 0 + 1 := rfl
    have hbd := depthS_bd l 0 (by omega)
    have hw : IntKind.i64.wrap (depthS l 0 + 1) = depthS l 0 + 1 := by rw [wrap_i64] <;> omega
    simp only [ct_DepthOf, hR]
    refine Ok.of_cw fok_spec_DepthOf ?_
    simp only [code_spec_DepthOf, frame, List.length_cons, List.length_nil, List.replicate, Nat.reduceSub, Nat.reduceAdd, List.cons_append, List.nil_append]
    refine cw_seq (go_ok hT ?_); simp [List.replicate]
    refine cw_seq (go_ok hT ?_); simp [List.replicate]
    refine cw_seq (cw_seq (go_ok hT ?_)); simp [List.replicate]
    refine cw_block (cw_round (fun (x : Nat × Int) => ⟨slots 22 [(1, .pbox 0 0), (3, .int .i64 x.2), (4, .int .i64 x.1)], [.cells [.int .i64 k, .int .i64 a, .int .i64 u, .int .i64 v, encL 5 encFm l]]⟩)
      (fun x => x.1 ≤ l.length ∧ depthS (l.drop x.1) x.2 = depthS l 0) (fun x => l.length - x.1) (0, 0) ⟨by simp, rfl⟩ ?_ ?_)
    · exact weak_less (by simp) (by simp [List.replicate])
    rintro N hN ⟨i, c⟩ ⟨hi, he⟩
    change i ≤ l.length at hi
    change depthS (l.drop i) c = depthS l 0 at he
    have hwi : IntKind.i64.wrap ((i : Int) + 1) = ((i + 1 : Nat) : Int) := by rw [wrap_i64] <;> omega
    refine go_ok hT ?_
    by_cases q : i < l.length
    · have q2 : ¬ l.length ≤ i := by omega
      rw [drop_cons q, depthS] at he
      have hm := size_mem (xs := l) q
      have h5 : l[i].size ≤ n := by omega
      have h6 : l[i].size ≤ 1048576 := by omega
      simp [List.replicate, q, q2, h5, h6, hwi]
      exact hN (i, c) (i + 1, if c ≤ depthF l[i] then depthF l[i] else c) _ ⟨by show i + 1 ≤ l.length; omega, he⟩ (by show l.length - (i + 1) < l.length - i; omega) (weak_less (by simp) (by simp [List.replicate]))
    · have e : i = l.length := by omega
      subst e
      rw [List.drop_length] at he
      simp [List.replicate]
      refine go_ok tab_nil ?_
      have he : c = depthS l 0 := he
      simp [List.replicate, he, hw]
end Go.Vm

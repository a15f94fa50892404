/- Well-formed formulas: the reference. No condition. -/
import Derived.Test.YtfelkhckpfjgjaaTEF
import Derived.Test.YtfelkhckpfjgjaaTTR
import Derived.Test.YtfelkhckpfjgjaaTKC
import Derived.Test.YtfelkhckpfjgjaaTCS
set_option linter.unusedSimpArgs false
set_option linter.unusedVariables false
namespace Go.Vm
open Go.Proofs
def usesT (k : Int) : Int := if k = 2 ∨ k = 3 ∨ k = 4 ∨ k = 11 ∨ k = 12 then 1 else if k = 5 ∨ k = 6 ∨ k = 7 then 2 else 0
def code_spec_l10Uses : F := ⟨14,[.tmp 2],.seq (.reg [⟨some 2,.mov (.k (.int .i64 0)),none⟩]) (.seq (.seq (.reg [⟨some 3,.mov (.t 0),none⟩]) (.block 0 (.seq (.seq (.reg [⟨some 5,.bin .eql (.t 3) (.k (.int .i64 2)),none⟩,⟨some 4,.mov (.t 5),none⟩]) (.cond (.t 4) (.skip) (.seq (.reg [⟨some 6,.bin .eql (.t 3) (.k (.int .i64 3)),none⟩,⟨some 4,.mov (.t 6),none⟩]) (.cond (.t 4) (.skip) (.seq (.reg [⟨some 7,.bin .eql (.t 3) (.k (.int .i64 4)),none⟩,⟨some 4,.mov (.t 7),none⟩]) (.cond (.t 4) (.skip) (.seq (.reg [⟨some 8,.bin .eql (.t 3) (.k (.int .i64 11)),none⟩,⟨some 4,.mov (.t 8),none⟩]) (.cond (.t 4) (.skip) (.reg [⟨some 9,.bin .eql (.t 3) (.k (.int .i64 12)),none⟩,⟨some 4,.mov (.t 9),none⟩]))))))))) (.cond (.t 4) (.seq (.reg [⟨some 2,.mov (.k (.int .i64 1)),none⟩]) (.ret)) (.seq (.seq (.reg [⟨some 11,.bin .eql (.t 3) (.k (.int .i64 5)),none⟩,⟨some 10,.mov (.t 11),none⟩]) (.cond (.t 10) (.skip) (.seq (.reg [⟨some 12,.bin .eql (.t 3) (.k (.int .i64 6)),none⟩,⟨some 10,.mov (.t 12),none⟩]) (.cond (.t 10) (.skip) (.reg [⟨some 13,.bin .eql (.t 3) (.k (.int .i64 7)),none⟩,⟨some 10,.mov (.t 13),none⟩]))))) (.cond (.t 10) (.seq (.reg [⟨some 2,.mov (.k (.int .i64 2)),none⟩]) (.ret)) (.skip))))))) (.seq (.reg [⟨some 2,.mov (.k (.int .i64 0)),none⟩]) (.ret)))⟩
theorem fok_spec_l10Uses : FOk Try.prog 107 code_spec_l10Uses := fok Try.func107 (by kernel_rfl)
@[simp] def ct_l10Uses : Ct := ⟨107, Int, fun _ => True, fun x => [.int .i64 x], fun x => .int .i64 (usesT x)⟩
set_option maxHeartbeats 1000000 in
theorem ok_l10Uses : ct_l10Uses.Ok Try.prog := by
  rintro k -
  change Int at k
  refine Ok.of_cw fok_spec_l10Uses (go_ok tab_nil ?_)
  by_cases h2 : k = 2
  · subst h2; simp [code_spec_l10Uses, List.replicate, usesT]
  by_cases h3 : k = 3
  · subst h3; simp [code_spec_l10Uses, List.replicate, usesT]
  by_cases h4 : k = 4
  · subst h4; simp [code_spec_l10Uses, List.replicate, usesT]
  by_cases h11 : k = 11
  · subst h11; simp [code_spec_l10Uses, List.replicate, usesT]
  by_cases h12 : k = 12
  · subst h12; simp [code_spec_l10Uses, List.replicate, usesT]
  by_cases h5 : k = 5
  · subst h5; simp [code_spec_l10Uses, List.replicate, usesT]
  by_cases h6 : k = 6
  · subst h6; simp [code_spec_l10Uses, List.replicate, usesT]
  by_cases h7 : k = 7
  · subst h7; simp [code_spec_l10Uses, List.replicate, usesT]
  simp [code_spec_l10Uses, List.replicate, usesT, h2, h3, h4, h5, h6, h7, h11, h12]
mutual
def leftF : Fm → Int → Int | .mk _ _ _ _ l, n => leftS l (n - 1)
def leftS : List Fm → Int → Int
  | [], n => n
  | x :: xs, n => if n < 0 then n else leftS xs (leftF x n)
end
mutual
theorem leftF_bd : ∀ (x : Fm) (n : Int), 0 ≤ n → -1 ≤ leftF x n ∧ leftF x n ≤ n
  | .mk _ _ _ _ l, n, h => by
    have := leftS_bd l (n - 1) (by omega)
    unfold leftF
    omega
theorem leftS_bd : ∀ (xs : List Fm) (n : Int), -1 ≤ n → -1 ≤ leftS xs n ∧ leftS xs n ≤ n
  | [], n, h => by unfold leftS; omega
  | x :: xs, n, h => by
    unfold leftS
    split
    · omega
    · have h1 := leftF_bd x n (by omega)
      have h2 := leftS_bd xs (leftF x n) h1.1
      omega
end
theorem drop_cons {α : Type} {l : List α} {i : Nat} (h : i < l.length) : l.drop i = l[i] :: l.drop (i + 1) := List.drop_eq_getElem_cons h
def code_spec_l10Left : F := ⟨27,[.tmp 4],.seq (.reg [⟨some 2,.box (.t 0),none⟩,⟨some 4,.mov (.k (.int .i64 0)),none⟩]) (.seq (.reg [⟨some 6,.mov (.t 1),none⟩,⟨some 7,.bin .sub (.t 6) (.k (.int .i64 1)),none⟩,⟨some 1,.mov (.t 7),none⟩]) (.seq (.seq (.reg [⟨some 5,.mov (.k (.int .i64 0)),none⟩]) (.block 0 (.loop (.seq (.seq (.reg [⟨some 8,.mov (.t 5),none⟩,⟨some 9,.faddr 4 (.t 2),none⟩,⟨some 10,.load 1 false (.t 9),none⟩,⟨some 11,.len (.t 10),none⟩,⟨some 12,.bin .lss (.t 8) (.t 11),none⟩,⟨some 13,.mov (.t 12),none⟩,⟨some 14,.mov (.t 1),some (13,true)⟩,⟨some 15,.bin .geq (.t 14) (.k (.int .i64 0)),some (13,true)⟩,⟨some 16,.pick (.t 13) (.t 15) (.k (.bool false)),none⟩]) (.cond (.t 16) (.skip) (.exit 0))) (.seq (.block 1 (.reg [⟨some 19,.faddr 4 (.t 2),none⟩,⟨some 20,.load 1 false (.t 19),none⟩,⟨some 21,.mov (.t 5),none⟩,⟨some 22,.iaddr 5 (.t 20) (.t 21),none⟩,⟨some 23,.load 5 true (.t 22),none⟩,⟨some 24,.mov (.t 1),none⟩,⟨some 25,.call 86 [.t 23,.t 24],none⟩,⟨some 1,.mov (.t 25),none⟩])) (.reg [⟨some 17,.mov (.t 5),none⟩,⟨some 18,.bin .add (.t 17) (.k (.int .i64 1)),none⟩,⟨some 5,.mov (.t 18),none⟩])))))) (.seq (.reg [⟨some 26,.mov (.t 1),none⟩,⟨some 4,.mov (.t 26),none⟩]) (.ret))))⟩
theorem fok_spec_l10Left : FOk Try.prog 86 code_spec_l10Left := fok Try.func86 (by kernel_rfl)
@[simp] def ct_l10Left (n : Nat) : Ct := ⟨86, Fm × Int, fun x => x.1.size ≤ n ∧ x.1.size ≤ 1048576 ∧ 0 ≤ x.2 ∧ x.2 ≤ 1048576, fun x => [encFm x.1, .int .i64 x.2], fun x => .int .i64 (leftF x.1 x.2)⟩
set_option maxHeartbeats 4000000 in
set_option maxRecDepth 100000 in
theorem ok_l10Left : ∀ n, (ct_l10Left n).Ok Try.prog
  | 0 => by
    rintro ⟨⟨k, a, u, v, l⟩, m⟩ ⟨h, -⟩
    have h : Fm.size (.mk k a u v l) ≤ 0 := h
    simp only [Fm.size] at h
    omega
  | n + 1 => by
    rintro ⟨⟨k, a, u, v, l⟩, m⟩ ⟨h, h2, h3, h4⟩
    have h : Fm.size (.mk k a u v l) ≤ n + 1 := h
    have h2 : Fm.size (.mk k a u v l) ≤ 1048576 := h2
    change 0 ≤ m at h3
    change m ≤ 1048576 at h4
    simp only [Fm.size] at h h2
    have hll := sizes_len l
    have hw : IntKind.i64.wrap (m - 1) = m - 1 := by rw [wrap_i64] <;> omega
    have hT : TabOk Try.prog _ := tab_cons (ok_l10Left n) tab_nil
    have hR : leftF (.mk k a u v l) m = leftS l (m - 1) := rfl
    simp only [ct_l10Left, hR]
    refine Ok.of_cw fok_spec_l10Left ?_
    simp only [code_spec_l10Left, frame, List.length_cons, List.length_nil, List.replicate, Nat.reduceSub, Nat.reduceAdd, List.cons_append, List.nil_append]
    refine cw_seq (go_ok hT ?_); simp [List.replicate]
    refine cw_seq (go_ok hT ?_); simp [List.replicate, hw]
    refine cw_seq (cw_seq (go_ok hT ?_)); simp [List.replicate]
    refine cw_block (cw_round (fun (x : Nat × Int) => ⟨slots 27 [(1, .int .i64 x.2), (2, .pbox 0 0), (5, .int .i64 x.1)], [.cells [.int .i64 k, .int .i64 a, .int .i64 u, .int .i64 v, encL 5 encFm l]]⟩)
      (fun x => x.1 ≤ l.length ∧ (-1 ≤ x.2 ∧ x.2 ≤ 1048576) ∧ leftS (l.drop x.1) x.2 = leftS l (m - 1)) (fun x => l.length - x.1) (0, m - 1) ⟨by simp, by show -1 ≤ m - 1 ∧ m - 1 ≤ 1048576; omega, rfl⟩ ?_ ?_)
    · exact weak_less (by simp) (by simp [List.replicate])
    rintro N hN ⟨i, c⟩ ⟨hi, ⟨hc1, hc2⟩, he⟩
    change i ≤ l.length at hi
    change -1 ≤ c at hc1
    change c ≤ 1048576 at hc2
    change leftS (l.drop i) c = leftS l (m - 1) at he
    have hwi : IntKind.i64.wrap ((i : Int) + 1) = ((i + 1 : Nat) : Int) := by rw [wrap_i64] <;> omega
    refine go_ok hT ?_
    by_cases q : i < l.length
    · have q2 : ¬ l.length ≤ i := by omega
      rw [drop_cons q] at he
      by_cases c0 : 0 ≤ c
      · have c1 : ¬ c < 0 := by omega
        have hm := size_mem (xs := l) q
        have h5 : l[i].size ≤ n := by omega
        have h6 : l[i].size ≤ 1048576 := by omega
        have hb := leftF_bd l[i] c c0
        rw [leftS, if_neg c1] at he
        simp [List.replicate, q, q2, c0, c1, h5, h6, hc2, hwi]
        exact hN (i, c) (i + 1, leftF l[i] c) _ ⟨by show i + 1 ≤ l.length; omega, by show -1 ≤ leftF l[i] c ∧ leftF l[i] c ≤ 1048576; omega, he⟩ (by show l.length - (i + 1) < l.length - i; omega) (weak_less (by simp) (by simp [List.replicate]))
      · have c1 : c < 0 := by omega
        rw [leftS, if_pos c1] at he
        simp [List.replicate, q, q2, c0, c1]
        refine go_ok tab_nil ?_
        simp [List.replicate, he]
    · have e : i = l.length := by omega
      subst e
      rw [List.drop_length] at he
      simp [List.replicate]
      refine go_ok tab_nil ?_
      have he : c = leftS l (m - 1) := he
      simp [List.replicate, he]
mutual
def depthF : Fm → Int | .mk _ _ _ _ l => depthS l 0 + 1
def depthS : List Fm → Int → Int
  | [], n => n
  | x :: xs, n => depthS xs (if n ≤ depthF x then depthF x else n)
end
mutual
theorem depthF_bd : ∀ (x : Fm), 0 ≤ depthF x ∧ depthF x ≤ x.size
  | .mk _ _ _ _ l => by
    have := depthS_bd l 0 (by omega)
    unfold depthF
    simp only [Fm.size]
    omega
theorem depthS_bd : ∀ (xs : List Fm) (n : Int), 0 ≤ n → 0 ≤ depthS xs n ∧ (depthS xs n ≤ n ∨ depthS xs n ≤ sizes xs)
  | [], n, h => by unfold depthS; omega
  | x :: xs, n, h => by
    have h1 := depthF_bd x
    have h2 := depthS_bd xs (if n ≤ depthF x then depthF x else n) (by split <;> omega)
    unfold depthS
    simp only [sizes]
    by_cases g : n ≤ depthF x
    · rw [if_pos g] at h2 ⊢; omega
    · rw [if_neg g] at h2 ⊢; omega
end
def code_spec_DepthOf : F := ⟨22,[.tmp 2],.seq (.reg [⟨some 1,.box (.t 0),none⟩,⟨some 2,.mov (.k (.int .i64 0)),none⟩]) (.seq (.reg [⟨some 3,.mov (.k (.int .i64 0)),none⟩]) (.seq (.seq (.reg [⟨some 4,.mov (.k (.int .i64 0)),none⟩]) (.block 0 (.loop (.seq (.seq (.reg [⟨some 5,.mov (.t 4),none⟩,⟨some 6,.faddr 4 (.t 1),none⟩,⟨some 7,.load 1 false (.t 6),none⟩,⟨some 8,.len (.t 7),none⟩,⟨some 9,.bin .lss (.t 5) (.t 8),none⟩]) (.cond (.t 9) (.skip) (.exit 0))) (.seq (.block 1 (.reg [⟨some 12,.mov (.t 3),none⟩,⟨some 13,.faddr 4 (.t 1),none⟩,⟨some 14,.load 1 false (.t 13),none⟩,⟨some 15,.mov (.t 4),none⟩,⟨some 16,.iaddr 5 (.t 14) (.t 15),none⟩,⟨some 17,.load 5 true (.t 16),none⟩,⟨some 18,.call 87 [.t 17],none⟩,⟨some 19,.call 63 [.t 12,.t 18],none⟩,⟨some 3,.mov (.t 19),none⟩])) (.reg [⟨some 10,.mov (.t 4),none⟩,⟨some 11,.bin .add (.t 10) (.k (.int .i64 1)),none⟩,⟨some 4,.mov (.t 11),none⟩])))))) (.seq (.reg [⟨some 20,.mov (.t 3),none⟩,⟨some 21,.bin .add (.t 20) (.k (.int .i64 1)),none⟩,⟨some 2,.mov (.t 21),none⟩]) (.ret))))⟩
theorem fok_spec_DepthOf : FOk Try.prog 87 code_spec_DepthOf := fok Try.func87 (by kernel_rfl)
@[simp] def ct_DepthOf (n : Nat) : Ct := ⟨87, Fm, fun x => x.size ≤ n ∧ x.size ≤ 1048576, fun x => [encFm x], fun x => .int .i64 (depthF x)⟩
set_option maxHeartbeats 4000000 in
set_option maxRecDepth 100000 in
theorem ok_DepthOf : ∀ n, (ct_DepthOf n).Ok Try.prog
  | 0 => by
    rintro ⟨k, a, u, v, l⟩ ⟨h, -⟩
    have h : Fm.size (.mk k a u v l) ≤ 0 := h
    simp only [Fm.size] at h
    omega
  | n + 1 => by
    rintro ⟨k, a, u, v, l⟩ ⟨h, h2⟩
    have h : Fm.size (.mk k a u v l) ≤ n + 1 := h
    have h2 : Fm.size (.mk k a u v l) ≤ 1048576 := h2
    simp only [Fm.size] at h h2
    have hll := sizes_len l
    have hT : TabOk Try.prog _ := tab_cons (ok_DepthOf n) (tab_cons ok_l1Max tab_nil)
    have hR : depthF (.mk k a u v l) = depthS l 0 + 1 := rfl
    have hbd := depthS_bd l 0 (by omega)
    have hw : IntKind.i64.wrap (depthS l 0 + 1) = depthS l 0 + 1 := by rw [wrap_i64] <;> omega
    simp only [ct_DepthOf, hR]
    refine Ok.of_cw fok_spec_DepthOf ?_
    simp only [code_spec_DepthOf, frame, List.length_cons, List.length_nil, List.replicate, Nat.reduceSub, Nat.reduceAdd, List.cons_append, List.nil_append]
    refine cw_seq (go_ok hT ?_); simp [List.replicate]
    refine cw_seq (go_ok hT ?_); simp [List.replicate]
    refine cw_seq (cw_seq (go_ok hT ?_)); simp [List.replicate]
    refine cw_block (cw_round (fun (x : Nat × Int) => ⟨slots 22 [(1, .pbox 0 0), (3, .int .i64 x.2), (4, .int .i64 x.1)], [.cells [.int .i64 k, .int .i64 a, .int .i64 u, .int .i64 v, encL 5 encFm l]]⟩)
      (fun x => x.1 ≤ l.length ∧ depthS (l.drop x.1) x.2 = depthS l 0) (fun x => l.length - x.1) (0, 0) ⟨by simp, rfl⟩ ?_ ?_)
    · exact weak_less (by simp) (by simp [List.replicate])
    rintro N hN ⟨i, c⟩ ⟨hi, he⟩
    change i ≤ l.length at hi
    change depthS (l.drop i) c = depthS l 0 at he
    have hwi : IntKind.i64.wrap ((i : Int) + 1) = ((i + 1 : Nat) : Int) := by rw [wrap_i64] <;> omega
    refine go_ok hT ?_
    by_cases q : i < l.length
    · have q2 : ¬ l.length ≤ i := by omega
      rw [drop_cons q, depthS] at he
      have hm := size_mem (xs := l) q
      have h5 : l[i].size ≤ n := by omega
      have h6 : l[i].size ≤ 1048576 := by omega
      simp [List.replicate, q, q2, h5, h6, hwi]
      exact hN (i, c) (i + 1, if c ≤ depthF l[i] then depthF l[i] else c) _ ⟨by show i + 1 ≤ l.length; omega, he⟩ (by show l.length - (i + 1) < l.length - i; omega) (weak_less (by simp) (by simp [List.replicate]))
    · have e : i = l.length := by omega
      subst e
      rw [List.drop_length] at he
      simp [List.replicate]
      refine go_ok tab_nil ?_
      have he : c = depthS l 0 := he
      simp [List.replicate, he, hw]
end Go.Vm
namespace Go.Vm
open Go.Proofs
def in3 (u : Int) : Bool := decide (0 ≤ u) && decide (u ≤ 3)
theorem in3_iff {u : Int} : in3 u = true ↔ 0 ≤ u ∧ u ≤ 3 := by simp [in3]
@[simp] def ct_in3 : Ct := ⟨48, Int, fun _ => True, fun x => [.int .i64 x, .int .i64 0, .int .i64 3], fun x => .bool (in3 x)⟩
theorem ok_in3 : ct_in3.Ok Try.prog := fun x _ => ok_l1In (x, 0, 3) trivial
def headB (v kind k u w : Int) (n : Nat) : Bool :=
  !((decide (usesT kind < 1) && !decide (u = 0)) || (decide (usesT kind < 2) && !decide (w = 0)) || (!(decide (kind = 2) || decide (kind = 3)) && !decide (k = 0)) || ((decide (kind = 2) || decide (kind = 3)) && (decide (k < 0) || decide (v ≤ k)))) &&
  (in3 u && in3 w && decide ((n : Int) = arity kind))
mutual
def formB (v : Int) : Fm → Bool | .mk kind k u w l => formS v l && headB v kind k u w l.length
def formS (v : Int) : List Fm → Bool
  | [] => true
  | x :: xs => formB v x && formS v xs
end
theorem formS_iff {v : Int} : ∀ {l : List Fm}, formS v l = true ↔ ∀ x ∈ l, formB v x = true
  | [] => by simp [formS]
  | x :: xs => by
    have := formS_iff (v := v) (l := xs)
    simp [formS, this]
def code_spec_l10Form : F := ⟨90,[.tmp 4],.seq (.reg [⟨some 3,.box (.t 1),none⟩,⟨some 4,.mov (.k (.bool false)),none⟩]) (.seq (.seq (.reg [⟨some 5,.mov (.k (.int .i64 0)),none⟩]) (.block 0 (.loop (.seq (.seq (.reg [⟨some 8,.mov (.t 5),none⟩,⟨some 9,.faddr 4 (.t 3),none⟩,⟨some 10,.load 1 false (.t 9),none⟩,⟨some 11,.len (.t 10),none⟩,⟨some 12,.bin .lss (.t 8) (.t 11),none⟩]) (.cond (.t 12) (.skip) (.exit 0))) (.seq (.block 1 (.seq (.reg [⟨some 15,.mov (.t 0),none⟩,⟨some 16,.faddr 4 (.t 3),none⟩,⟨some 17,.load 1 false (.t 16),none⟩,⟨some 18,.mov (.t 5),none⟩,⟨some 19,.iaddr 5 (.t 17) (.t 18),none⟩,⟨some 20,.load 5 true (.t 19),none⟩,⟨some 21,.call 88 [.t 15,.t 20],none⟩,⟨some 22,.not (.t 21),none⟩]) (.cond (.t 22) (.seq (.reg [⟨some 4,.mov (.k (.bool false)),none⟩]) (.ret)) (.skip)))) (.reg [⟨some 13,.mov (.t 5),none⟩,⟨some 14,.bin .add (.t 13) (.k (.int .i64 1)),none⟩,⟨some 5,.mov (.t 14),none⟩])))))) (.seq (.reg [⟨some 23,.faddr 0 (.t 3),none⟩,⟨some 24,.load 1 false (.t 23),none⟩,⟨some 25,.call 107 [.t 24],none⟩,⟨some 6,.mov (.t 25),none⟩]) (.seq (.reg [⟨some 26,.faddr 0 (.t 3),none⟩,⟨some 27,.load 1 false (.t 26),none⟩,⟨some 28,.bin .eql (.t 27) (.k (.int .i64 2)),none⟩,⟨some 29,.mov (.t 28),none⟩,⟨some 30,.faddr 0 (.t 3),some (29,false)⟩,⟨some 31,.load 1 false (.t 30),some (29,false)⟩,⟨some 32,.bin .eql (.t 31) (.k (.int .i64 3)),some (29,false)⟩,⟨some 33,.pick (.t 29) (.k (.bool true)) (.t 32),none⟩,⟨some 7,.mov (.t 33),none⟩]) (.seq (.seq (.reg [⟨some 34,.mov (.t 6),none⟩,⟨some 35,.bin .lss (.t 34) (.k (.int .i64 1)),none⟩,⟨some 36,.mov (.t 35),none⟩,⟨some 37,.faddr 2 (.t 3),some (36,true)⟩,⟨some 38,.load 1 false (.t 37),some (36,true)⟩,⟨some 39,.bin .neq (.t 38) (.k (.int .i64 0)),some (36,true)⟩,⟨some 40,.pick (.t 36) (.t 39) (.k (.bool false)),none⟩,⟨some 41,.mov (.t 40),none⟩,⟨some 42,.mov (.t 6),some (41,false)⟩,⟨some 43,.bin .lss (.t 42) (.k (.int .i64 2)),some (41,false)⟩,⟨some 44,.mov (.t 43),some (41,false)⟩,⟨some 45,.faddr 3 (.t 3),some (44,true)⟩,⟨some 46,.load 1 false (.t 45),some (44,true)⟩,⟨some 47,.bin .neq (.t 46) (.k (.int .i64 0)),some (44,true)⟩,⟨some 48,.pick (.t 44) (.t 47) (.k (.bool false)),some (41,false)⟩,⟨some 49,.pick (.t 41) (.k (.bool true)) (.t 48),none⟩,⟨some 50,.mov (.t 49),none⟩,⟨some 51,.mov (.t 7),some (50,false)⟩,⟨some 52,.not (.t 51),some (50,false)⟩,⟨some 53,.mov (.t 52),some (50,false)⟩,⟨some 54,.faddr 1 (.t 3),some (53,true)⟩,⟨some 55,.load 1 false (.t 54),some (53,true)⟩,⟨some 56,.bin .neq (.t 55) (.k (.int .i64 0)),some (53,true)⟩,⟨some 57,.pick (.t 53) (.t 56) (.k (.bool false)),some (50,false)⟩,⟨some 58,.pick (.t 50) (.k (.bool true)) (.t 57),none⟩,⟨some 59,.mov (.t 58),none⟩,⟨some 60,.mov (.t 7),some (59,false)⟩,⟨some 61,.mov (.t 60),some (59,false)⟩,⟨some 62,.faddr 1 (.t 3),some (61,true)⟩,⟨some 63,.load 1 false (.t 62),some (61,true)⟩,⟨some 64,.bin .lss (.t 63) (.k (.int .i64 0)),some (61,true)⟩,⟨some 65,.mov (.t 64),some (61,true)⟩,⟨some 66,.faddr 1 (.t 3),some (65,false)⟩,⟨some 67,.load 1 false (.t 66),some (65,false)⟩,⟨some 68,.mov (.t 0),some (65,false)⟩,⟨some 69,.bin .geq (.t 67) (.t 68),some (65,false)⟩,⟨some 70,.pick (.t 65) (.k (.bool true)) (.t 69),some (61,true)⟩,⟨some 71,.pick (.t 61) (.t 70) (.k (.bool false)),some (59,false)⟩,⟨some 72,.pick (.t 59) (.k (.bool true)) (.t 71),none⟩]) (.cond (.t 72) (.seq (.reg [⟨some 4,.mov (.k (.bool false)),none⟩]) (.ret)) (.skip))) (.seq (.dreg [true,true,true,true,true,true,true,true,true,false,false,false,false,false,false,true,true,true] [false,false,true,false,false,false,true,false,false,false,false,false,false,false,true,false,false,false] [⟨some 73,.faddr 2 (.t 3),none⟩,⟨some 74,.load 1 false (.t 73),none⟩,⟨some 75,.call 48 [.t 74,(.k (.int .i64 0)),(.k (.int .i64 3))],none⟩,⟨some 76,.mov (.t 75),none⟩,⟨some 77,.faddr 3 (.t 3),some (76,true)⟩,⟨some 78,.load 1 false (.t 77),some (76,true)⟩,⟨some 79,.call 48 [.t 78,(.k (.int .i64 0)),(.k (.int .i64 3))],some (76,true)⟩,⟨some 80,.pick (.t 76) (.t 79) (.k (.bool false)),none⟩,⟨some 81,.mov (.t 80),none⟩,⟨some 82,.faddr 4 (.t 3),some (81,true)⟩,⟨some 83,.load 1 false (.t 82),some (81,true)⟩,⟨some 84,.len (.t 83),some (81,true)⟩,⟨some 85,.faddr 0 (.t 3),some (81,true)⟩,⟨some 86,.load 1 false (.t 85),some (81,true)⟩,⟨some 87,.call 73 [.t 86],some (81,true)⟩,⟨some 88,.bin .eql (.t 84) (.t 87),some (81,true)⟩,⟨some 89,.pick (.t 81) (.t 88) (.k (.bool false)),none⟩,⟨some 4,.mov (.t 89),none⟩]) (.ret))))))⟩
theorem fok_spec_l10Form : FOk Try.prog 88 code_spec_l10Form := fok Try.func88 (by kernel_rfl)
def tl5b : C → C
  | .seq _ (.seq _ (.seq _ (.seq _ x))) => x
  | c => c
def tl6 : C → C
  | .seq _ (.seq _ (.seq _ (.seq _ (.seq _ x)))) => x
  | c => c
@[simp] def ct_l10Form (n : Nat) : Ct := ⟨88, Int × Fm, fun x => x.2.size ≤ n ∧ x.2.size ≤ 1048576, fun x => [.int .i64 x.1, encFm x.2], fun x => .bool (formB x.1 x.2)⟩
set_option maxHeartbeats 8000000 in
set_option maxRecDepth 100000 in
theorem form_fin {v kind k u w : Int} {l : List Fm} (hh : headB v kind k u w l.length = (in3 u && in3 w && decide ((l.length : Int) = arity kind))) (t : List AV) (ht : All2 LessS t (slots 90 [(3, .pbox 0 0)])) :
    CW Try.prog 0 (tl6 code_spec_l10Form.c) (retP code_spec_l10Form.rs (.bool (headB v kind k u w l.length))) ⟨t, [.cells [.int .i64 kind, .int .i64 k, .int .i64 u, .int .i64 w, encL 5 encFm l]]⟩ := by
  have hT : TabOk Try.prog _ := tab_cons ok_l10Uses (tab_cons ok_in3 (tab_cons ok_sArityOf tab_nil))
  refine cw_weak (weak_less (n0 := 0) (H' := [.cells [.int .i64 kind, .int .i64 k, .int .i64 u, .int .i64 w, encL 5 encFm l]]) (by simp) ht) ?_
  rw [hh]
  simp only [code_spec_l10Form, tl6]
  cases q1 : in3 u
  · refine cw_seq (go_ok hT ?_); simp [List.replicate, q1]
    refine go_ok hT ?_; simp [List.replicate]
  cases q2 : in3 w
  · refine cw_seq (go_ok hT ?_); simp [List.replicate, q1, q2]
    refine go_ok hT ?_; simp [List.replicate]
  by_cases q3 : (l.length : Int) = arity kind
  · refine cw_seq (go_ok hT ?_); simp [List.replicate, q1, q2, q3]
    refine go_ok hT ?_; simp [List.replicate]
  · refine cw_seq (go_ok hT ?_); simp [List.replicate, q1, q2, q3]
    refine go_ok hT ?_; simp [List.replicate]
set_option maxHeartbeats 8000000 in
set_option maxRecDepth 100000 in
theorem form_named {v kind k u w : Int} {l : List Fm} (nm : kind = 2 ∨ kind = 3) : CW Try.prog 0 (tl5b code_spec_l10Form.c) (retP code_spec_l10Form.rs (.bool (headB v kind k u w l.length))) ⟨slots 90 [(0, .int .i64 v), (3, .pbox 0 0), (6, .int .i64 1), (7, .bool true)], [.cells [.int .i64 kind, .int .i64 k, .int .i64 u, .int .i64 w, encL 5 encFm l]]⟩ := by
  have hT : TabOk Try.prog _ := tab_cons ok_l10Uses (tab_cons ok_in3 (tab_cons ok_sArityOf tab_nil))
  have fin := fun h => form_fin (v := v) (kind := kind) (k := k) (u := u) (w := w) (l := l) h
  simp only [code_spec_l10Form, tl6] at fin
  simp only [code_spec_l10Form, tl5b]
  have nmB : (decide (kind = 2) || decide (kind = 3)) = true := by simpa using nm
  have hU : usesT kind = 1 := by rcases nm with rfl | rfl <;> rfl
  by_cases w0 : w = 0
  case neg =>
    have hh : headB v kind k u w l.length = false := by simp [headB, hU, nmB, w0]
    refine cw_seq (cw_seq (go_ok hT ?_)); simp [List.replicate, w0]
    refine go_ok hT ?_; simp [List.replicate, hh]
  subst w0
  by_cases k0 : k < 0
  case pos =>
    have hh : headB v kind k u 0 l.length = false := by simp [headB, hU, nmB, k0]
    refine cw_seq (cw_seq (go_ok hT ?_)); simp [List.replicate, k0]
    refine go_ok hT ?_; simp [List.replicate, hh]
  by_cases k1 : v ≤ k
  case pos =>
    have hh : headB v kind k u 0 l.length = false := by simp [headB, hU, nmB, k0, k1]
    refine cw_seq (cw_seq (go_ok hT ?_)); simp [List.replicate, k0, k1]
    refine go_ok hT ?_; simp [List.replicate, hh]
  have hh := fin (by simp [headB, hU, nmB, k0, k1])
  refine cw_seq (cw_seq (go_ok hT ?_)); simp [List.replicate, k0, k1]
  refine go_ok hT ?_; simp [List.replicate]
  refine hh _ ?_; simp [List.replicate]
set_option maxHeartbeats 8000000 in
set_option maxRecDepth 100000 in
theorem form_u0 {v kind k u w : Int} {l : List Fm} (nm : ¬ (kind = 2 ∨ kind = 3)) (hU : usesT kind = 0) : CW Try.prog 0 (tl5b code_spec_l10Form.c) (retP code_spec_l10Form.rs (.bool (headB v kind k u w l.length))) ⟨slots 90 [(0, .int .i64 v), (3, .pbox 0 0), (6, .int .i64 (usesT kind)), (7, .bool false)], [.cells [.int .i64 kind, .int .i64 k, .int .i64 u, .int .i64 w, encL 5 encFm l]]⟩ := by
  have hT : TabOk Try.prog _ := tab_cons ok_l10Uses (tab_cons ok_in3 (tab_cons ok_sArityOf tab_nil))
  have fin := fun h => form_fin (v := v) (kind := kind) (k := k) (u := u) (w := w) (l := l) h
  simp only [code_spec_l10Form, tl6] at fin
  simp only [code_spec_l10Form, tl5b]
  have nmB : (decide (kind = 2) || decide (kind = 3)) = false := by simpa using nm
  rw [hU]
  by_cases u0 : u = 0
  case neg =>
    have hh : headB v kind k u w l.length = false := by simp [headB, hU, nmB, u0]
    refine cw_seq (cw_seq (go_ok hT ?_)); simp [List.replicate, u0]
    refine go_ok hT ?_; simp [List.replicate, hh]
  subst u0
  by_cases w0 : w = 0
  case neg =>
    have hh : headB v kind k 0 w l.length = false := by simp [headB, hU, nmB, w0]
    refine cw_seq (cw_seq (go_ok hT ?_)); simp [List.replicate, w0]
    refine go_ok hT ?_; simp [List.replicate, hh]
  subst w0
  by_cases k0 : k = 0
  case neg =>
    have hh : headB v kind k 0 0 l.length = false := by simp [headB, hU, nmB, k0]
    refine cw_seq (cw_seq (go_ok hT ?_)); simp [List.replicate, k0]
    refine go_ok hT ?_; simp [List.replicate, hh]
  subst k0
  have hh := fin (by simp [headB, hU, nmB, hU])
  refine cw_seq (cw_seq (go_ok hT ?_)); simp [List.replicate, hU]
  refine go_ok hT ?_; simp [List.replicate]
  refine hh _ ?_; simp [List.replicate]
set_option maxHeartbeats 8000000 in
set_option maxRecDepth 100000 in
theorem form_u1 {v kind k u w : Int} {l : List Fm} (nm : ¬ (kind = 2 ∨ kind = 3)) (hU : usesT kind = 1) : CW Try.prog 0 (tl5b code_spec_l10Form.c) (retP code_spec_l10Form.rs (.bool (headB v kind k u w l.length))) ⟨slots 90 [(0, .int .i64 v), (3, .pbox 0 0), (6, .int .i64 (usesT kind)), (7, .bool false)], [.cells [.int .i64 kind, .int .i64 k, .int .i64 u, .int .i64 w, encL 5 encFm l]]⟩ := by
  have hT : TabOk Try.prog _ := tab_cons ok_l10Uses (tab_cons ok_in3 (tab_cons ok_sArityOf tab_nil))
  have fin := fun h => form_fin (v := v) (kind := kind) (k := k) (u := u) (w := w) (l := l) h
  simp only [code_spec_l10Form, tl6] at fin
  simp only [code_spec_l10Form, tl5b]
  have nmB : (decide (kind = 2) || decide (kind = 3)) = false := by simpa using nm
  rw [hU]
  by_cases w0 : w = 0
  case neg =>
    have hh : headB v kind k u w l.length = false := by simp [headB, hU, nmB, w0]
    refine cw_seq (cw_seq (go_ok hT ?_)); simp [List.replicate, w0]
    refine go_ok hT ?_; simp [List.replicate, hh]
  subst w0
  by_cases k0 : k = 0
  case neg =>
    have hh : headB v kind k u 0 l.length = false := by simp [headB, hU, nmB, k0]
    refine cw_seq (cw_seq (go_ok hT ?_)); simp [List.replicate, k0]
    refine go_ok hT ?_; simp [List.replicate, hh]
  subst k0
  have hh := fin (by simp [headB, hU, nmB, hU])
  refine cw_seq (cw_seq (go_ok hT ?_)); simp [List.replicate, hU]
  refine go_ok hT ?_; simp [List.replicate]
  refine hh _ ?_; simp [List.replicate]
set_option maxHeartbeats 8000000 in
set_option maxRecDepth 100000 in
theorem form_u2 {v kind k u w : Int} {l : List Fm} (nm : ¬ (kind = 2 ∨ kind = 3)) (hU : usesT kind = 2) : CW Try.prog 0 (tl5b code_spec_l10Form.c) (retP code_spec_l10Form.rs (.bool (headB v kind k u w l.length))) ⟨slots 90 [(0, .int .i64 v), (3, .pbox 0 0), (6, .int .i64 (usesT kind)), (7, .bool false)], [.cells [.int .i64 kind, .int .i64 k, .int .i64 u, .int .i64 w, encL 5 encFm l]]⟩ := by
  have hT : TabOk Try.prog _ := tab_cons ok_l10Uses (tab_cons ok_in3 (tab_cons ok_sArityOf tab_nil))
  have fin := fun h => form_fin (v := v) (kind := kind) (k := k) (u := u) (w := w) (l := l) h
  simp only [code_spec_l10Form, tl6] at fin
  simp only [code_spec_l10Form, tl5b]
  have nmB : (decide (kind = 2) || decide (kind = 3)) = false := by simpa using nm
  rw [hU]
  by_cases k0 : k = 0
  case neg =>
    have hh : headB v kind k u w l.length = false := by simp [headB, hU, nmB, k0]
    refine cw_seq (cw_seq (go_ok hT ?_)); simp [List.replicate, k0]
    refine go_ok hT ?_; simp [List.replicate, hh]
  subst k0
  have hh := fin (by simp [headB, hU, nmB, hU])
  refine cw_seq (cw_seq (go_ok hT ?_)); simp [List.replicate, hU]
  refine go_ok hT ?_; simp [List.replicate]
  refine hh _ ?_; simp [List.replicate]
set_option maxHeartbeats 8000000 in
set_option maxRecDepth 100000 in
theorem ok_l10Form : ∀ n, (ct_l10Form n).Ok Try.prog
  | 0 => by
    rintro ⟨v, ⟨k, a, u, w, l⟩⟩ ⟨h, -⟩
    have h : Fm.size (.mk k a u w l) ≤ 0 := h
    simp only [Fm.size] at h
    omega
  | n + 1 => by
    rintro ⟨v, ⟨kind, k, u, w, l⟩⟩ ⟨h, h2⟩
    have h : Fm.size (.mk kind k u w l) ≤ n + 1 := h
    have h2 : Fm.size (.mk kind k u w l) ≤ 1048576 := h2
    simp only [Fm.size] at h h2
    have hll := sizes_len l
    have hT : TabOk Try.prog _ := tab_cons (ok_l10Form n) (tab_cons ok_l10Uses (tab_cons ok_in3 (tab_cons ok_sArityOf tab_nil)))
    have hR : formB v (.mk kind k u w l) = (formS v l && headB v kind k u w l.length) := rfl
    simp only [ct_l10Form, hR]
    refine Ok.of_cw fok_spec_l10Form ?_
    simp only [code_spec_l10Form, frame, List.length_cons, List.length_nil, List.replicate, Nat.reduceSub, Nat.reduceAdd, List.cons_append, List.nil_append]
    refine cw_seq (go_ok hT ?_); simp [List.replicate]
    refine cw_seq (cw_seq (go_ok hT ?_)); simp [List.replicate]
    refine cw_block (cw_round (fun (i : Nat) => ⟨slots 90 [(0, .int .i64 v), (3, .pbox 0 0), (5, .int .i64 i)], [.cells [.int .i64 kind, .int .i64 k, .int .i64 u, .int .i64 w, encL 5 encFm l]]⟩)
      (fun i => i ≤ l.length ∧ ∀ j (h : j < l.length), j < i → formB v l[j] = true) (fun i => l.length - i) 0 ⟨by simp, fun j h hj => by omega⟩ ?_ ?_)
    · exact weak_less (by simp) (by simp [List.replicate])
    rintro N hN i ⟨hi, he⟩
    change i ≤ l.length at hi
    have hwi : IntKind.i64.wrap ((i : Int) + 1) = ((i + 1 : Nat) : Int) := by rw [wrap_i64] <;> omega
    refine go_ok hT ?_
    by_cases q : i < l.length
    · have q2 : ¬ l.length ≤ i := by omega
      have hm := size_mem (xs := l) q
      have h5 : l[i].size ≤ n := by omega
      have h6 : l[i].size ≤ 1048576 := by omega
      cases hf : formB v l[i]
      · have hS : formS v l = false := by
          cases hs : formS v l
          · rfl
          · have := formS_iff.1 hs _ (List.getElem_mem q)
            rw [hf] at this; cases this
        simp [List.replicate, q, q2, h5, h6, hf, hS]
      · simp [List.replicate, q, q2, h5, h6, hf, hwi]
        refine hN i (i + 1) _ ⟨by show i + 1 ≤ l.length; omega, fun j h hj => ?_⟩ (by omega) (weak_less (by simp) (by simp [List.replicate]))
        by_cases e : j = i
        · subst e; exact hf
        · exact he j h (by omega)
    · have e : i = l.length := by omega
      subst e
      have hS : formS v l = true := formS_iff.2 fun x hx => by
        obtain ⟨j, hj, rfl⟩ := List.mem_iff_getElem.1 hx
        exact he j hj hj
      simp [List.replicate]
      refine cw_weak (weak_less (t' := slots 90 [(0, .int .i64 v), (3, .pbox 0 0)]) (H' := [.cells [.int .i64 kind, .int .i64 k, .int .i64 u, .int .i64 w, encL 5 encFm l]]) (by simp) (by simp [List.replicate])) ?_
      refine cw_seq (go_ok hT ?_); simp [List.replicate]
      rw [hS, Bool.true_and]
      have U3 : usesT kind = 0 ∨ usesT kind = 1 ∨ usesT kind = 2 := by unfold usesT; (repeat' split) <;> omega
      by_cases nm : kind = 2 ∨ kind = 3
      · have hU : usesT kind = 1 := by rcases nm with rfl | rfl <;> rfl
        refine cw_to ⟨slots 90 [(0, .int .i64 v), (3, .pbox 0 0), (6, .int .i64 1), (7, .bool true)], [.cells [.int .i64 kind, .int .i64 k, .int .i64 u, .int .i64 w, encL 5 encFm l]]⟩ ?_ ?_
        · rcases nm with rfl | rfl
          · refine go_ok hT ?_; simp [List.replicate, hU]
            exact weak_less (by simp) (by simp [List.replicate])
          · refine go_ok hT ?_; simp [List.replicate, hU]
            exact weak_less (by simp) (by simp [List.replicate])
        have := form_named (v := v) (k := k) (u := u) (w := w) (l := l) nm
        simp only [code_spec_l10Form, tl5b] at this
        exact this
      · have n2 : ¬ kind = 2 := fun h => nm (.inl h)
        have n3 : ¬ kind = 3 := fun h => nm (.inr h)
        refine cw_to ⟨slots 90 [(0, .int .i64 v), (3, .pbox 0 0), (6, .int .i64 (usesT kind)), (7, .bool false)], [.cells [.int .i64 kind, .int .i64 k, .int .i64 u, .int .i64 w, encL 5 encFm l]]⟩ ?_ ?_
        · refine go_ok hT ?_; simp [List.replicate, n2, n3]
          exact weak_less (by simp) (by simp [List.replicate])
        have : CW Try.prog 0 (tl5b code_spec_l10Form.c) (retP code_spec_l10Form.rs (.bool (headB v kind k u w l.length))) ⟨slots 90 [(0, .int .i64 v), (3, .pbox 0 0), (6, .int .i64 (usesT kind)), (7, .bool false)], [.cells [.int .i64 kind, .int .i64 k, .int .i64 u, .int .i64 w, encL 5 encFm l]]⟩ := by
          rcases U3 with hU | hU | hU
          · exact form_u0 nm hU
          · exact form_u1 nm hU
          · exact form_u2 nm hU
        simp only [code_spec_l10Form, tl5b] at this
        exact this
def isFmB (v : Int) (f : Fm) : Bool := decide (0 ≤ leftF f 40) && decide (depthF f ≤ 12) && formB v f
def code_spec_IsFormula : F := ⟨18,[.tmp 4],.seq (.reg [⟨some 3,.box (.t 1),none⟩,⟨some 4,.mov (.k (.bool false)),none⟩]) (.seq (.reg [⟨some 5,.load 5 true (.t 3),none⟩,⟨some 6,.call 86 [.t 5,(.k (.int .i64 40))],none⟩,⟨some 7,.bin .geq (.t 6) (.k (.int .i64 0)),none⟩,⟨some 8,.mov (.t 7),none⟩,⟨some 9,.load 5 true (.t 3),some (8,true)⟩,⟨some 10,.call 87 [.t 9],some (8,true)⟩,⟨some 11,.bin .leq (.t 10) (.k (.int .i64 12)),some (8,true)⟩,⟨some 12,.pick (.t 8) (.t 11) (.k (.bool false)),none⟩,⟨some 13,.mov (.t 12),none⟩,⟨some 14,.mov (.t 0),some (13,true)⟩,⟨some 15,.load 5 true (.t 3),some (13,true)⟩,⟨some 16,.call 88 [.t 14,.t 15],some (13,true)⟩,⟨some 17,.pick (.t 13) (.t 16) (.k (.bool false)),none⟩,⟨some 4,.mov (.t 17),none⟩]) (.ret))⟩
theorem fok_spec_IsFormula : FOk Try.prog 32 code_spec_IsFormula := fok Try.func32 (by kernel_rfl)
@[simp] def ct_IsFormula : Ct := ⟨32, Int × Fm, fun x => x.2.size ≤ 1048576, fun x => [.int .i64 x.1, encFm x.2], fun x => .bool (isFmB x.1 x.2)⟩
set_option maxHeartbeats 2000000 in
theorem ok_IsFormula : ct_IsFormula.Ok Try.prog := by
  rintro ⟨v, ⟨kind, k, u, w, l⟩⟩ h
  have h : Fm.size (.mk kind k u w l) ≤ 1048576 := h
  have hT : TabOk Try.prog _ := tab_cons (ok_l10Left 1048576) (tab_cons (ok_DepthOf 1048576) (tab_cons (ok_l10Form 1048576) tab_nil))
  refine Ok.of_cw fok_spec_IsFormula (go_ok hT ?_)
  simp only [ct_IsFormula]
  by_cases h1 : 0 ≤ leftF (.mk kind k u w l) 40
  · by_cases h2 : depthF (.mk kind k u w l) ≤ 12
    · have h3 : ¬ leftF (.mk kind k u w l) 40 < 0 := by omega
      have h4 : ¬ 12 < depthF (.mk kind k u w l) := by omega
      simp [code_spec_IsFormula, List.replicate, isFmB, h, h1, h2, h3, h4]
    · have h4 : 12 < depthF (.mk kind k u w l) := by omega
      simp [code_spec_IsFormula, List.replicate, isFmB, h, h1, h2, h4]
  · have h3 : leftF (.mk kind k u w l) 40 < 0 := by omega
    simp [code_spec_IsFormula, List.replicate, isFmB, h, h1, h3]
end Go.Vm

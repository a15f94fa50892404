/- What searching and comparing slices of numbers answers. No condition. -/
import Derived.Test.YtfelkhckpfjgjaaTG
import Derived.Test.YtfelkhckpfjgjaaTTR
set_option linter.unusedSimpArgs false
set_option linter.unusedVariables false
namespace Go.Vm
open Go.Proofs
def code_slices_Index_int_int : F := ⟨19,[.tmp 4],.seq (.reg [⟨some 4,.mov (.k (.int .i64 0)),none⟩]) (.seq (.seq (.reg [⟨some 6,.mov (.t 0),none⟩,⟨some 7,.len (.t 6),none⟩,⟨some 8,.mov (.k (.int .i64 0)),none⟩]) (.block 0 (.loop (.seq (.reg [⟨some 9,.bin .lss (.t 8) (.t 7),none⟩]) (.seq (.cond (.t 9) (.skip) (.exit 0)) (.seq (.block 1 (.seq (.reg [⟨some 10,.mov (.t 8),none⟩,⟨some 5,.mov (.t 10),none⟩]) (.seq (.reg [⟨some 11,.mov (.t 1),none⟩,⟨some 12,.mov (.t 0),none⟩,⟨some 13,.mov (.t 5),none⟩,⟨some 14,.iaddr 1 (.t 12) (.t 13),none⟩,⟨some 15,.load 1 false (.t 14),none⟩,⟨some 16,.bin .eql (.t 11) (.t 15),none⟩]) (.cond (.t 16) (.seq (.reg [⟨some 17,.mov (.t 5),none⟩,⟨some 4,.mov (.t 17),none⟩]) (.ret)) (.skip))))) (.reg [⟨some 18,.bin .add (.t 8) (.k (.int .i64 1)),none⟩,⟨some 8,.mov (.t 18),none⟩]))))))) (.seq (.reg [⟨some 4,.mov (.k (.int .i64 (-1))),none⟩]) (.ret)))⟩
theorem fok_slices_Index_int_int : FOk Try.prog 114 code_slices_Index_int_int := fok Try.func114 (by kernel_rfl)
def code_slices_Contains_int_int : F := ⟨9,[.tmp 4],.seq (.reg [⟨some 4,.mov (.k (.bool false)),none⟩]) (.seq (.reg [⟨some 5,.mov (.t 0),none⟩,⟨some 6,.mov (.t 1),none⟩,⟨some 7,.call 114 [.t 5,.t 6],none⟩,⟨some 8,.bin .geq (.t 7) (.k (.int .i64 0)),none⟩,⟨some 4,.mov (.t 8),none⟩]) (.ret))⟩
theorem fok_slices_Contains_int_int : FOk Try.prog 90 code_slices_Contains_int_int := fok Try.func90 (by kernel_rfl)
def code_spec_Positions : F := ⟨25,[.tmp 4],.seq (.reg [⟨some 4,.mov (.k (.sl .nil 0 [])),none⟩]) (.seq (.reg [⟨some 7,.bsl 3 1 0 (.int .i64 0) [],none⟩,⟨some 5,.mov (.t 7),none⟩]) (.seq (.seq (.reg [⟨some 6,.mov (.k (.int .i64 0)),none⟩]) (.block 0 (.loop (.seq (.seq (.reg [⟨some 8,.mov (.t 6),none⟩,⟨some 9,.mov (.t 0),none⟩,⟨some 10,.len (.t 9),none⟩,⟨some 11,.bin .lss (.t 8) (.t 10),none⟩]) (.cond (.t 11) (.skip) (.exit 0))) (.seq (.block 1 (.seq (.reg [⟨some 14,.mov (.t 0),none⟩,⟨some 15,.mov (.t 6),none⟩,⟨some 16,.iaddr 1 (.t 14) (.t 15),none⟩,⟨some 17,.load 1 false (.t 16),none⟩,⟨some 18,.mov (.t 1),none⟩,⟨some 19,.bin .eql (.t 17) (.t 18),none⟩]) (.cond (.t 19) (.reg [⟨some 20,.mov (.t 5),none⟩,⟨some 21,.mov (.t 6),none⟩,⟨some 22,.bsl 3 1 1 (.int .i64 0) [(0,.t 21)],none⟩,⟨some 23,.append 3 1 8 (.t 20) (.t 22),none⟩,⟨some 5,.mov (.t 23),none⟩]) (.skip)))) (.reg [⟨some 12,.mov (.t 6),none⟩,⟨some 13,.bin .add (.t 12) (.k (.int .i64 1)),none⟩,⟨some 6,.mov (.t 13),none⟩])))))) (.seq (.reg [⟨some 24,.mov (.t 5),none⟩,⟨some 4,.mov (.t 24),none⟩]) (.ret))))⟩
theorem fok_spec_Positions : FOk Try.prog 95 code_spec_Positions := fok Try.func95 (by kernel_rfl)
def code_spec_l7Has : F := ⟨10,[.tmp 4],.seq (.reg [⟨some 4,.mov (.k (.bool false)),none⟩]) (.seq (.reg [⟨some 5,.mov (.t 0),none⟩,⟨some 6,.mov (.t 1),none⟩,⟨some 7,.call 95 [.t 5,.t 6],none⟩,⟨some 8,.len (.t 7),none⟩,⟨some 9,.bin .gtr (.t 8) (.k (.int .i64 0)),none⟩,⟨some 4,.mov (.t 9),none⟩]) (.ret))⟩
theorem fok_spec_l7Has : FOk Try.prog 50 code_spec_l7Has := fok Try.func50 (by kernel_rfl)
@[simp] def ct_IndexI : Ct := ⟨114, List Int × Int, fun _ => True, fun x => [encL 1 encInt x.1, .int .i64 x.2], fun x => .int .i64 (findI (fun a => x.2 == a) x.1)⟩
theorem ok_IndexI : ct_IndexI.Ok Try.prog := by
  rintro ⟨xs, v⟩ -
  refine Ok.lens fun hl => Ok.of_cw fok_slices_Index_int_int (go_ok tab_nil ?_)
  simp [lensOkL_cons, lensOk_encL] at hl
  simp [code_slices_Index_int_int, List.replicate]
  refine cw_round (fun (p : Nat) => ⟨slots 19 [(0, encL 1 encInt xs), (1, .int .i64 v), (7, .int .i64 xs.length), (8, .int .i64 p)], []⟩)
    (fun p => p ≤ xs.length ∧ noHit (fun a => v == a) xs p) (fun p => xs.length - p) 0 ⟨by omega, noHit_zero⟩ ?_ ?_
  · exact weak_seal 0 (by omega) (by simp) (by simp [List.replicate])
  · rintro N hN i ⟨hi, hn⟩
    have hw : i < xs.length → IntKind.i64.wrap ((i : Int) + 1) = ((i + 1 : Nat) : Int) := fun h => by rw [wrap_i64] <;> omega
    refine go_ok tab_nil ?_
    by_cases h : i < xs.length
    · simp [List.replicate, hw, h]
      refine ⟨fun e => ?_, fun e => ?_⟩
      · rw [findI_hit hn h (by simp [e])]
      · refine hN _ (i + 1) _ ⟨by omega, noHit_succ hn h (by simp [e])⟩ (by omega) (weak_seal 0 (by omega) ?_ ?_)
        · simp
        · simp [List.replicate]
    · simp [List.replicate, h]
      rw [findI_none hn (by omega)]
@[simp] def ct_ContainsI : Ct := ⟨90, List Int × Int, fun _ => True, fun x => [encL 1 encInt x.1, .int .i64 x.2], fun x => .bool (decide (x.2 ∈ x.1))⟩
theorem ok_ContainsI : ct_ContainsI.Ok Try.prog := by
  rintro ⟨xs, v⟩ -
  refine Ok.of_cw fok_slices_Contains_int_int (go_ok (tab_cons ok_IndexI tab_nil) ?_)
  simp [code_slices_Contains_int_int, List.replicate, findI_any, any_beq]
@[simp] def ct_sPositions : Ct := ⟨95, List Int × Int, fun x => x.1.length ≤ 1048576, fun x => [encL 1 encInt x.1, .int .i64 x.2], fun x => encL 1 encInt (pos x.1 x.2)⟩
theorem ok_sPositions : ct_sPositions.Ok Try.prog := by
  rintro ⟨xs, v⟩ hx
  change xs.length ≤ 1048576 at hx
  refine Ok.of_cw fok_spec_Positions (go_ok tab_nil ?_)
  simp [code_spec_Positions, List.replicate]
  refine cw_round (fun (p : Nat) => ⟨slots 25 [(0, encL 1 encInt xs), (1, .int .i64 v), (5, .slref 0 0 (posTo xs v p).length (posTo xs v p).length), (6, .int .i64 p)], [.row true 3 1 ((posTo xs v p).map encInt)]⟩)
    (fun p => p ≤ xs.length) (fun p => xs.length - p) 0 (by omega) ?_ ?_
  · refine weak_seal 1 (by omega) ?_ ?_
    · simp [posTo_zero]
    · simp [List.replicate, posTo_zero]
  · rintro N hN i hi
    have hw : IntKind.i64.wrap ((i : Int) + 1) = ((i + 1 : Nat) : Int) := by rw [wrap_i64] <;> omega
    refine go_ok tab_nil ?_
    have hp := posTo_len (xs := xs) (n := v) (k := i)
    have hb : ((posTo xs v i).length + 1) * 8 ≤ 140737488355328 := by omega
    by_cases h : i < xs.length
    · have h2 : ¬ xs.length ≤ i := by omega
      simp [List.replicate, hw, h, h2, hb, app1]
      refine ⟨fun e => ?_, fun e => ?_⟩
      · refine hN _ (i + 1) _ (by omega) (by omega) (weak_seal 1 (by omega) ?_ ?_)
        · simp [posTo_hit h e]
        · simp [List.replicate, posTo_hit h e]
      · refine hN _ (i + 1) _ (by omega) (by omega) (weak_seal 1 (by omega) ?_ ?_)
        · simp [posTo_miss h e]
        · simp [List.replicate, posTo_miss h e]
    · have e : i = xs.length := by omega
      subst e
      simp [List.replicate]
      rfl
@[simp] def ct_l7Has : Ct := ⟨50, List Int × Int, fun x => x.1.length ≤ 1048576, fun x => [encL 1 encInt x.1, .int .i64 x.2], fun x => .bool (decide (x.2 ∈ x.1))⟩
theorem ok_l7Has : ct_l7Has.Ok Try.prog := by
  rintro ⟨xs, v⟩ hx
  refine Ok.of_cw fok_spec_l7Has (go_ok (tab_cons ok_sPositions tab_nil) ?_)
  simp [code_spec_l7Has, List.replicate, pos_nil]
  exact hx
end Go.Vm
namespace Go.Vm
open Go.Proofs
def code_spec_NextOf : F := ⟨41,[.tmp 6],.seq (.reg [⟨some 3,.box (.t 0),none⟩,⟨some 6,.mov (.k (.int .i64 0)),none⟩]) (.seq (.reg [⟨some 8,.faddr 0 (.t 3),none⟩,⟨some 9,.load 1 false (.t 8),none⟩,⟨some 10,.len (.t 9),none⟩,⟨some 7,.mov (.t 10),none⟩]) (.seq (.seq (.reg [⟨some 11,.mov (.t 1),none⟩,⟨some 12,.mov (.t 7),none⟩,⟨some 13,.bin .sub (.t 12) (.k (.int .i64 1)),none⟩,⟨some 14,.call 48 [.t 11,(.k (.int .i64 0)),.t 13],none⟩,⟨some 15,.not (.t 14),none⟩,⟨some 16,.mov (.t 15),none⟩,⟨some 17,.mov (.t 2),some (16,false)⟩,⟨some 18,.mov (.t 7),some (16,false)⟩,⟨some 19,.bin .sub (.t 18) (.k (.int .i64 1)),some (16,false)⟩,⟨some 20,.call 48 [.t 17,(.k (.int .i64 0)),.t 19],some (16,false)⟩,⟨some 21,.not (.t 20),some (16,false)⟩,⟨some 22,.pick (.t 16) (.k (.bool true)) (.t 21),none⟩,⟨some 23,.mov (.t 22),none⟩,⟨some 24,.faddr 1 (.t 3),some (23,false)⟩,⟨some 25,.load 1 false (.t 24),some (23,false)⟩,⟨some 26,.len (.t 25),some (23,false)⟩,⟨some 27,.mov (.t 7),some (23,false)⟩,⟨some 28,.mov (.t 7),some (23,false)⟩,⟨some 29,.bin .mul (.t 27) (.t 28),some (23,false)⟩,⟨some 30,.bin .neq (.t 26) (.t 29),some (23,false)⟩,⟨some 31,.pick (.t 23) (.k (.bool true)) (.t 30),none⟩]) (.cond (.t 31) (.seq (.reg [⟨some 6,.mov (.k (.int .i64 1)),none⟩]) (.ret)) (.skip))) (.seq (.reg [⟨some 32,.faddr 1 (.t 3),none⟩,⟨some 33,.load 1 false (.t 32),none⟩,⟨some 34,.mov (.t 1),none⟩,⟨some 35,.mov (.t 7),none⟩,⟨some 36,.bin .mul (.t 34) (.t 35),none⟩,⟨some 37,.mov (.t 2),none⟩,⟨some 38,.bin .add (.t 36) (.t 37),none⟩,⟨some 39,.iaddr 1 (.t 33) (.t 38),none⟩,⟨some 40,.load 1 false (.t 39),none⟩,⟨some 6,.mov (.t 40),none⟩]) (.ret))))⟩
theorem fok_spec_NextOf : FOk Try.prog 99 code_spec_NextOf := fok Try.func99 (by kernel_rfl)
def code_impl_NextOf : F := ⟨41,[.tmp 6],.seq (.reg [⟨some 3,.box (.t 0),none⟩,⟨some 6,.mov (.k (.int .i64 0)),none⟩]) (.seq (.seq (.reg [⟨some 7,.load 2 true (.t 3),none⟩,⟨some 8,.mov (.t 1),none⟩,⟨some 9,.call 82 [.t 7,.t 8],none⟩,⟨some 10,.not (.t 9),none⟩,⟨some 11,.mov (.t 10),none⟩,⟨some 12,.load 2 true (.t 3),some (11,false)⟩,⟨some 13,.mov (.t 2),some (11,false)⟩,⟨some 14,.call 82 [.t 12,.t 13],some (11,false)⟩,⟨some 15,.not (.t 14),some (11,false)⟩,⟨some 16,.pick (.t 11) (.k (.bool true)) (.t 15),none⟩,⟨some 17,.mov (.t 16),none⟩,⟨some 18,.faddr 1 (.t 3),some (17,false)⟩,⟨some 19,.load 1 false (.t 18),some (17,false)⟩,⟨some 20,.len (.t 19),some (17,false)⟩,⟨some 21,.faddr 0 (.t 3),some (17,false)⟩,⟨some 22,.load 1 false (.t 21),some (17,false)⟩,⟨some 23,.len (.t 22),some (17,false)⟩,⟨some 24,.faddr 0 (.t 3),some (17,false)⟩,⟨some 25,.load 1 false (.t 24),some (17,false)⟩,⟨some 26,.len (.t 25),some (17,false)⟩,⟨some 27,.bin .mul (.t 23) (.t 26),some (17,false)⟩,⟨some 28,.bin .neq (.t 20) (.t 27),some (17,false)⟩,⟨some 29,.pick (.t 17) (.k (.bool true)) (.t 28),none⟩]) (.cond (.t 29) (.seq (.reg [⟨some 6,.mov (.k (.int .i64 1)),none⟩]) (.ret)) (.skip))) (.seq (.reg [⟨some 30,.faddr 1 (.t 3),none⟩,⟨some 31,.load 1 false (.t 30),none⟩,⟨some 32,.mov (.t 1),none⟩,⟨some 33,.faddr 0 (.t 3),none⟩,⟨some 34,.load 1 false (.t 33),none⟩,⟨some 35,.len (.t 34),none⟩,⟨some 36,.bin .mul (.t 32) (.t 35),none⟩,⟨some 37,.mov (.t 2),none⟩,⟨some 38,.bin .add (.t 36) (.t 37),none⟩,⟨some 39,.iaddr 1 (.t 31) (.t 38),none⟩,⟨some 40,.load 1 false (.t 39),none⟩,⟨some 6,.mov (.t 40),none⟩]) (.ret)))⟩
theorem fok_impl_NextOf : FOk Try.prog 34 code_impl_NextOf := fok Try.func34 (by kernel_rfl)
theorem pair_lt {i j n : Int} (h0 : 0 ≤ i) (h1 : i ≤ n - 1) (h3 : j ≤ n - 1) : i * n + j < n * n := by
  have := Int.mul_le_mul_of_nonneg_right (show i + 1 ≤ n by omega) (show 0 ≤ n by omega)
  rw [Int.add_mul] at this
  omega
theorem pair_ge {i j n : Int} (h0 : 0 ≤ i) (h1 : i ≤ n - 1) (h2 : 0 ≤ j) : 0 ≤ i * n ∧ i * n ≤ i * n + j := by
  have := Int.mul_nonneg h0 (show 0 ≤ n by omega)
  omega
theorem sq_le {n : Nat} (h : n ≤ 1048576) : (n : Int) * n ≤ 1099511627776 := by
  have := Nat.mul_le_mul h h
  omega
def inN (x : Strc) (i : Int) : Prop := 0 ≤ i ∧ i ≤ (x.nodes.length : Int) - 1
instance (x : Strc) (i : Int) : Decidable (inN x i) := by unfold inN; infer_instance
def nextOf (x : Strc) (i j : Int) : Int :=
  if inN x i ∧ inN x j ∧ (x.next.length : Int) = (x.nodes.length : Int) * x.nodes.length then x.next.getD (i * x.nodes.length + j).toNat 0 else 1
@[simp] def ct_sNextOf : Ct := ⟨99, Strc × Int × Int, fun x => szStrc x.1 ≤ 1048576, fun x => [encStrc x.1, .int .i64 x.2.1, .int .i64 x.2.2], fun x => .int .i64 (nextOf x.1 x.2.1 x.2.2)⟩
set_option maxHeartbeats 1000000 in
theorem ok_sNextOf : ct_sNextOf.Ok Try.prog := by
  rintro ⟨x, i, j⟩ hx
  change szStrc x ≤ 1048576 at hx
  have hs := strc_le x
  have hsq := sq_le (n := x.nodes.length) (by omega)
  have hn0 : 0 ≤ (x.nodes.length : Int) * x.nodes.length := Int.mul_nonneg (by omega) (by omega)
  have w0 : IntKind.i64.wrap ((x.nodes.length : Int) - 1) = (x.nodes.length : Int) - 1 := by rw [wrap_i64] <;> omega
  have w1 : IntKind.i64.wrap ((x.nodes.length : Int) * x.nodes.length) = (x.nodes.length : Int) * x.nodes.length := by rw [wrap_i64] <;> omega
  refine Ok.of_cw fok_spec_NextOf (go_ok (tab_cons ok_l1In tab_nil) ?_)
  by_cases c1 : inN x i
  case neg =>
    have c1' := c1
    unfold inN at c1'
    simp [code_spec_NextOf, List.replicate, w0, w1, nextOf, c1]
    grind
  by_cases c2 : inN x j
  case neg =>
    have c2' := c2
    have c1' := c1
    unfold inN at c1' c2'
    simp [code_spec_NextOf, List.replicate, w0, w1, nextOf, c2, c1'.1, c1'.2]
    grind
  by_cases c3 : (x.next.length : Int) = (x.nodes.length : Int) * x.nodes.length
  case neg =>
    have c2' := c2
    have c1' := c1
    unfold inN at c1' c2'
    simp [code_spec_NextOf, List.replicate, w0, w1, nextOf, c3, c1'.1, c1'.2, c2'.1, c2'.2]
  have c2' := c2
  have c1' := c1
  unfold inN at c1' c2'
  have p1 := pair_lt c1'.1 c1'.2 c2'.2
  have p2 := pair_ge c1'.1 c1'.2 c2'.1
  have w2 : IntKind.i64.wrap (i * x.nodes.length) = i * x.nodes.length := by rw [wrap_i64] <;> omega
  have w3 : IntKind.i64.wrap (i * x.nodes.length + j) = i * x.nodes.length + j := by rw [wrap_i64] <;> omega
  have p3 : (i * x.nodes.length + j).toNat < x.next.length := by omega
  simp [code_spec_NextOf, List.replicate, w0, w1, w2, w3, nextOf, c1, c2, c3, c1'.1, c1'.2, c2'.1, c2'.2, p3]
  omega
@[simp] def ct_pNextOf : Ct := ⟨34, Strc × Int × Int, fun x => szStrc x.1 ≤ 1048576, fun x => [encStrc x.1, .int .i64 x.2.1, .int .i64 x.2.2], fun x => .int .i64 (nextOf x.1 x.2.1 x.2.2)⟩
set_option maxHeartbeats 1000000 in
theorem ok_pNextOf : ct_pNextOf.Ok Try.prog := by
  rintro ⟨x, i, j⟩ hx
  change szStrc x ≤ 1048576 at hx
  have hs := strc_le x
  have hsq := sq_le (n := x.nodes.length) (by omega)
  have hn0 : 0 ≤ (x.nodes.length : Int) * x.nodes.length := Int.mul_nonneg (by omega) (by omega)
  have w1 : IntKind.i64.wrap ((x.nodes.length : Int) * x.nodes.length) = (x.nodes.length : Int) * x.nodes.length := by rw [wrap_i64] <;> omega
  refine Ok.of_cw fok_impl_NextOf (go_ok (tab_cons ok_isNode tab_nil) ?_)
  by_cases c1 : inN x i
  case neg =>
    have c1' := c1
    unfold inN at c1'
    simp [code_impl_NextOf, List.replicate, w1, nextOf, c1]
    grind
  by_cases c2 : inN x j
  case neg =>
    have c2' := c2
    have c1' := c1
    unfold inN at c1' c2'
    simp [code_impl_NextOf, List.replicate, w1, nextOf, c2, c1'.1, c1'.2]
    grind
  by_cases c3 : (x.next.length : Int) = (x.nodes.length : Int) * x.nodes.length
  case neg =>
    have c2' := c2
    have c1' := c1
    unfold inN at c1' c2'
    simp [code_impl_NextOf, List.replicate, w1, nextOf, c3, c1'.1, c1'.2, c2'.1, c2'.2]
  have c2' := c2
  have c1' := c1
  unfold inN at c1' c2'
  have p1 := pair_lt c1'.1 c1'.2 c2'.2
  have p2 := pair_ge c1'.1 c1'.2 c2'.1
  have w2 : IntKind.i64.wrap (i * x.nodes.length) = i * x.nodes.length := by rw [wrap_i64] <;> omega
  have w3 : IntKind.i64.wrap (i * x.nodes.length + j) = i * x.nodes.length + j := by rw [wrap_i64] <;> omega
  have p3 : (i * x.nodes.length + j).toNat < x.next.length := by omega
  simp [code_impl_NextOf, List.replicate, w1, w2, w3, nextOf, c1, c2, c3, c1'.1, c1'.2, c2'.1, c2'.2, p3]
  omega
end Go.Vm

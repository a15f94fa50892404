/- Structures: next pointers and targets. No condition. -/
import Derived.Test.YtfelkhckpfjgjaaTSL
set_option linter.unusedSimpArgs false
set_option linter.unusedVariables false
namespace Go.Vm
open Go.Proofs
def code_spec_NextOf : F := ⟨41,[.tmp 6],.seq (.reg [⟨some 3,.box (.t 0),none⟩,⟨some 6,.mov (.k (.int .i64 0)),none⟩]) (.seq (.reg [⟨some 8,.faddr 0 (.t 3),none⟩,⟨some 9,.load 1 false (.t 8),none⟩,⟨some 10,.len (.t 9),none⟩,⟨some 7,.mov (.t 10),none⟩]) (.seq (.seq (.reg [⟨some 11,.mov (.t 1),none⟩,⟨some 12,.mov (.t 7),none⟩,⟨some 13,.bin .sub (.t 12) (.k (.int .i64 1)),none⟩,⟨some 14,.call 48 [.t 11,(.k (.int .i64 0)),.t 13],none⟩,⟨some 15,.not (.t 14),none⟩,⟨some 16,.mov (.t 15),none⟩,⟨some 17,.mov (.t 2),some (16,false)⟩,⟨some 18,.mov (.t 7),some (16,false)⟩,⟨some 19,.bin .sub (.t 18) (.k (.int .i64 1)),some (16,false)⟩,⟨some 20,.call 48 [.t 17,(.k (.int .i64 0)),.t 19],some (16,false)⟩,⟨some 21,.not (.t 20),some (16,false)⟩,⟨some 22,.pick (.t 16) (.k (.bool true)) (.t 21),none⟩,⟨some 23,.mov (.t 22),none⟩,⟨some 24,.faddr 1 (.t 3),some (23,false)⟩,⟨some 25,.load 1 false (.t 24),some (23,false)⟩,⟨some 26,.len (.t 25),some (23,false)⟩,⟨some 27,.mov (.t 7),some (23,false)⟩,⟨some 28,.mov (.t 7),some (23,false)⟩,⟨some 29,.bin .mul (.t 27) (.t 28),some (23,false)⟩,⟨some 30,.bin .neq (.t 26) (.t 29),some (23,false)⟩,⟨some 31,.pick (.t 23) (.k (.bool true)) (.t 30),none⟩]) (.cond (.t 31) (.seq (.reg [⟨some 6,.mov (.k (.int .i64 1)),none⟩]) (.ret)) (.skip))) (.seq (.reg [⟨some 32,.faddr 1 (.t 3),none⟩,⟨some 33,.load 1 false (.t 32),none⟩,⟨some 34,.mov (.t 1),none⟩,⟨some 35,.mov (.t 7),none⟩,⟨some 36,.bin .mul (.t 34) (.t 35),none⟩,⟨some 37,.mov (.t 2),none⟩,⟨some 38,.bin .add (.t 36) (.t 37),none⟩,⟨some 39,.iaddr 1 (.t 33) (.t 38),none⟩,⟨some 40,.load 1 false (.t 39),none⟩,⟨some 6,.mov (.t 40),none⟩]) (.ret))))⟩
theorem fok_spec_NextOf : FOk Try.prog 99 code_spec_NextOf := fok Try.func99 (by kernel_rfl)
def code_impl_NextOf : F := ⟨41,[.tmp 6],.seq (.reg [⟨some 3,.box (.t 0),none⟩,⟨some 6,.mov (.k (.int .i64 0)),none⟩]) (.seq (.seq (.reg [⟨some 7,.load 2 true (.t 3),none⟩,⟨some 8,.mov (.t 1),none⟩,⟨some 9,.call 82 [.t 7,.t 8],none⟩,⟨some 10,.not (.t 9),none⟩,⟨some 11,.mov (.t 10),none⟩,⟨some 12,.load 2 true (.t 3),some (11,false)⟩,⟨some 13,.mov (.t 2),some (11,false)⟩,⟨some 14,.call 82 [.t 12,.t 13],some (11,false)⟩,⟨some 15,.not (.t 14),some (11,false)⟩,⟨some 16,.pick (.t 11) (.k (.bool true)) (.t 15),none⟩,⟨some 17,.mov (.t 16),none⟩,⟨some 18,.faddr 1 (.t 3),some (17,false)⟩,⟨some 19,.load 1 false (.t 18),some (17,false)⟩,⟨some 20,.len (.t 19),some (17,false)⟩,⟨some 21,.faddr 0 (.t 3),some (17,false)⟩,⟨some 22,.load 1 false (.t 21),some (17,false)⟩,⟨some 23,.len (.t 22),some (17,false)⟩,⟨some 24,.faddr 0 (.t 3),some (17,false)⟩,⟨some 25,.load 1 false (.t 24),some (17,false)⟩,⟨some 26,.len (.t 25),some (17,false)⟩,⟨some 27,.bin .mul (.t 23) (.t 26),some (17,false)⟩,⟨some 28,.bin .neq (.t 20) (.t 27),some (17,false)⟩,⟨some 29,.pick (.t 17) (.k (.bool true)) (.t 28),none⟩]) (.cond (.t 29) (.seq (.reg [⟨some 6,.mov (.k (.int .i64 1)),none⟩]) (.ret)) (.skip))) (.seq (.reg [⟨some 30,.faddr 1 (.t 3),none⟩,⟨some 31,.load 1 false (.t 30),none⟩,⟨some 32,.mov (.t 1),none⟩,⟨some 33,.faddr 0 (.t 3),none⟩,⟨some 34,.load 1 false (.t 33),none⟩,⟨some 35,.len (.t 34),none⟩,⟨some 36,.bin .mul (.t 32) (.t 35),none⟩,⟨some 37,.mov (.t 2),none⟩,⟨some 38,.bin .add (.t 36) (.t 37),none⟩,⟨some 39,.iaddr 1 (.t 31) (.t 38),none⟩,⟨some 40,.load 1 false (.t 39),none⟩,⟨some 6,.mov (.t 40),none⟩]) (.ret)))⟩
theorem fok_impl_NextOf : FOk Try.prog 34 code_impl_NextOf := fok Try.func34 (by kernel_rfl)
theorem pair_lt {i j n : Int} (h0 : 0 ≤ i) (h1 : i ≤ n - 1) (h3 : j ≤ n - 1) : i * n + j < n * n := by
  have := Int.mul_le_mul_of_nonneg_right (show i + 1 ≤ n by omega) (show 0 ≤ n by omega)
  rw [Int.add_mul] at this
  omega
theorem pair_ge {i j n : Int} (h0 : 0 ≤ i) (h1 : i ≤ n - 1) (h2 : 0 ≤ j) : 0 ≤ i * n ∧ i * n ≤ i * n + j := by
  have := Int.mul_nonneg h0 (show 0 ≤ n by omega)
  omega
theorem sq_le {n : Nat} (h : n ≤ 1048576) : (n : Int) * n ≤ 1099511627776 := by
  have := Nat.mul_le_mul h h
  omega
def inN (x : Strc) (i : Int) : Prop := 0 ≤ i ∧ i ≤ (x.nodes.length : Int) - 1
instance (x : Strc) (i : Int) : Decidable (inN x i) := by unfold inN; infer_instance
def nextOf (x : Strc) (i j : Int) : Int :=
  if inN x i ∧ inN x j ∧ (x.next.length : Int) = (x.nodes.length : Int) * x.nodes.length then x.next.getD (i * x.nodes.length + j).toNat 0 else 1
@[simp] def ct_sNextOf : Ct := ⟨99, Strc × Int × Int, fun x => szStrc x.1 ≤ 1048576, fun x => [encStrc x.1, .int .i64 x.2.1, .int .i64 x.2.2], fun x => .int .i64 (nextOf x.1 x.2.1 x.2.2)⟩
set_option maxHeartbeats 1000000 in
theorem ok_sNextOf : ct_sNextOf.Ok Try.prog := by
  rintro ⟨x, i, j⟩ hx
  change szStrc x ≤ 1048576 at hx
  have hs := strc_le x
  have hsq := sq_le (n := x.nodes.length) (by omega)
  have hn0 : 0 ≤ (x.nodes.length : Int) * x.nodes.length := Int.mul_nonneg (by omega) (by omega)
  have w0 : IntKind.i64.wrap ((x.nodes.length : Int) - 1) = (x.nodes.length : Int) - 1 := by rw [wrap_i64] <;> omega
  have w1 : IntKind.i64.wrap ((x.nodes.length : Int) * x.nodes.length) = (x.nodes.length : Int) * x.nodes.length := by rw [wrap_i64] <;> omega
  refine Ok.of_cw fok_spec_NextOf (go_ok (tab_cons ok_l1In tab_nil) ?_)
  by_cases c1 : inN x i
  case neg =>
    have c1' := c1
    unfold inN at c1'
    simp [code_spec_NextOf, List.replicate, w0, w1, nextOf, c1]
    grind
  by_cases c2 : inN x j
  case neg =>
    have c2' := c2
    have c1' := c1
    unfold inN at c1' c2'
    simp [code_spec_NextOf, List.replicate, w0, w1, nextOf, c2, c1'.1, c1'.2]
    grind
  by_cases c3 : (x.next.length : Int) = (x.nodes.length : Int) * x.nodes.length
  case neg =>
    have c2' := c2
    have c1' := c1
    unfold inN at c1' c2'
    simp [code_spec_NextOf, List.replicate, w0, w1, nextOf, c3, c1'.1, c1'.2, c2'.1, c2'.2]
  have c2' := c2
  have c1' := c1
  unfold inN at c1' c2'
  have p1 := pair_lt c1'.1 c1'.2 c2'.2
  have p2 := pair_ge c1'.1 c1'.2 c2'.1
  have w2 : IntKind.i64.wrap (i * x.nodes.length) = i * x.nodes.length := by rw [wrap_i64] <;> omega
  have w3 : IntKind.i64.wrap (i * x.nodes.length + j) = i * x.nodes.length + j := by rw [wrap_i64] <;> omega
  have p3 : (i * x.nodes.length + j).toNat < x.next.length := by omega
  simp [code_spec_NextOf, List.replicate, w0, w1, w2, w3, nextOf, c1, c2, c3, c1'.1, c1'.2, c2'.1, c2'.2, p3]
  omega
@[simp] def ct_pNextOf : Ct := ⟨34, Strc × Int × Int, fun x => szStrc x.1 ≤ 1048576, fun x => [encStrc x.1, .int .i64 x.2.1, .int .i64 x.2.2], fun x => .int .i64 (nextOf x.1 x.2.1 x.2.2)⟩
set_option maxHeartbeats 1000000 in
theorem ok_pNextOf : ct_pNextOf.Ok Try.prog := by
  rintro ⟨x, i, j⟩ hx
  change szStrc x ≤ 1048576 at hx
  have hs := strc_le x
  have hsq := sq_le (n := x.nodes.length) (by omega)
  have hn0 : 0 ≤ (x.nodes.length : Int) * x.nodes.length := Int.mul_nonneg (by omega) (by omega)
  have w1 : IntKind.i64.wrap ((x.nodes.length : Int) * x.nodes.length) = (x.nodes.length : Int) * x.nodes.length := by rw [wrap_i64] <;> omega
  refine Ok.of_cw fok_impl_NextOf (go_ok (tab_cons ok_isNode tab_nil) ?_)
  by_cases c1 : inN x i
  case neg =>
    have c1' := c1
    unfold inN at c1'
    simp [code_impl_NextOf, List.replicate, w1, nextOf, c1]
    grind
  by_cases c2 : inN x j
  case neg =>
    have c2' := c2
    have c1' := c1
    unfold inN at c1' c2'
    simp [code_impl_NextOf, List.replicate, w1, nextOf, c2, c1'.1, c1'.2]
    grind
  by_cases c3 : (x.next.length : Int) = (x.nodes.length : Int) * x.nodes.length
  case neg =>
    have c2' := c2
    have c1' := c1
    unfold inN at c1' c2'
    simp [code_impl_NextOf, List.replicate, w1, nextOf, c3, c1'.1, c1'.2, c2'.1, c2'.2]
  have c2' := c2
  have c1' := c1
  unfold inN at c1' c2'
  have p1 := pair_lt c1'.1 c1'.2 c2'.2
  have p2 := pair_ge c1'.1 c1'.2 c2'.1
  have w2 : IntKind.i64.wrap (i * x.nodes.length) = i * x.nodes.length := by rw [wrap_i64] <;> omega
  have w3 : IntKind.i64.wrap (i * x.nodes.length + j) = i * x.nodes.length + j := by rw [wrap_i64] <;> omega
  have p3 : (i * x.nodes.length + j).toNat < x.next.length := by omega
  simp [code_impl_NextOf, List.replicate, w1, w2, w3, nextOf, c1, c2, c3, c1'.1, c1'.2, c2'.1, c2'.2, p3]
  omega
end Go.Vm
namespace Go.Vm
open Go.Proofs
def code_spec_IsTruth : F := ⟨5,[.tmp 2],.seq (.reg [⟨some 2,.mov (.k (.bool false)),none⟩]) (.seq (.reg [⟨some 3,.mov (.t 0),none⟩,⟨some 4,.call 48 [.t 3,(.k (.int .i64 0)),(.k (.int .i64 2))],none⟩,⟨some 2,.mov (.t 4),none⟩]) (.ret))⟩
theorem fok_spec_IsTruth : FOk Try.prog 53 code_spec_IsTruth := fok Try.func53 (by kernel_rfl)
def code_impl_IsTruth : F := ⟨5,[.tmp 2],.seq (.reg [⟨some 2,.mov (.k (.bool false)),none⟩]) (.seq (.reg [⟨some 3,.mov (.t 0),none⟩,⟨some 4,.call 68 [.t 3,(.k (.int .i64 0)),(.k (.int .i64 2))],none⟩,⟨some 2,.mov (.t 4),none⟩]) (.ret))⟩
theorem fok_impl_IsTruth : FOk Try.prog 30 code_impl_IsTruth := fok Try.func30 (by kernel_rfl)
def code_spec_TruthText : F := ⟨10,[.tmp 2],.seq (.reg [⟨some 2,.mov (.k (.str [])),none⟩]) (.seq (.seq (.reg [⟨some 3,.mov (.t 0),none⟩,⟨some 4,.call 53 [.t 3],none⟩,⟨some 5,.not (.t 4),none⟩]) (.cond (.t 5) (.seq (.reg [⟨some 2,.mov (.k (.str [])),none⟩]) (.ret)) (.skip))) (.seq (.reg [⟨some 6,.mov (.t 0),none⟩,⟨some 7,.mov (.t 0),none⟩,⟨some 8,.bin .add (.t 7) (.k (.int .i64 1)),none⟩,⟨some 9,.sslice (.k (.str [48,63,49])) (some (.t 6)) (some (.t 8)),none⟩,⟨some 2,.mov (.t 9),none⟩]) (.ret)))⟩
theorem fok_spec_TruthText : FOk Try.prog 124 code_spec_TruthText := fok Try.func124 (by kernel_rfl)
def isTruth (a : Int) : Bool := decide (0 ≤ a) && decide (a ≤ 2)
@[simp] def ct_sIsTruth : Ct := ⟨53, Int, fun _ => True, fun x => [.int .i64 x], fun x => .bool (isTruth x)⟩
theorem ok_sIsTruth : ct_sIsTruth.Ok Try.prog := by
  rintro a -
  change Int at a
  refine Ok.of_cw fok_spec_IsTruth (go_ok (tab_cons ok_l1In tab_nil) ?_)
  simp [code_spec_IsTruth, List.replicate, isTruth]
@[simp] def ct_pIsTruth : Ct := ⟨30, Int, fun _ => True, fun x => [.int .i64 x], fun x => .bool (isTruth x)⟩
theorem ok_pIsTruth : ct_pIsTruth.Ok Try.prog := by
  rintro a -
  change Int at a
  refine Ok.of_cw fok_impl_IsTruth (go_ok (tab_cons ok_within tab_nil) ?_)
  simp [code_impl_IsTruth, List.replicate, isTruth]
def truthText (a : Int) : List UInt8 := if a = 0 then [48] else if a = 1 then [63] else if a = 2 then [49] else []
theorem truthText_len (a : Int) : (truthText a).length ≤ 1 := by unfold truthText; (repeat' split) <;> simp
@[simp] def ct_sTruthText : Ct := ⟨124, Int, fun _ => True, fun x => [.int .i64 x], fun x => .str (truthText x)⟩
theorem ok_sTruthText : ct_sTruthText.Ok Try.prog := by
  rintro a -
  change Int at a
  refine Ok.of_cw fok_spec_TruthText (go_ok (tab_cons ok_sIsTruth tab_nil) ?_)
  by_cases h : 0 ≤ a ∧ a ≤ 2
  · have : a = 0 ∨ a = 1 ∨ a = 2 := by omega
    rcases this with rfl | rfl | rfl <;> simp [code_spec_TruthText, List.replicate, isTruth, truthText]
  · have h2 : isTruth a = false := by simp [isTruth]; omega
    have h3 : truthText a = [] := by unfold truthText; rw [if_neg (by omega), if_neg (by omega), if_neg (by omega)]
    simp [code_spec_TruthText, List.replicate, h2, h3]
end Go.Vm

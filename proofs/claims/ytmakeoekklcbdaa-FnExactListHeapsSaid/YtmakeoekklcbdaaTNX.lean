/- Structures: next pointers and targets. No condition. -/
import Derived.Test.YtmakeoekklcbdaaTPB
import Derived.Test.YtmakeoekklcbdaaTSL
set_option linter.unusedSimpArgs false
set_option linter.unusedVariables false
namespace Go.Vm
open Go.Proofs
def code_spec_NextOf : F := ⟨41, [.tmp 6],
 .seq (.reg [⟨some 3, .box (.t 0), none⟩,
    ⟨some 6, .mov (.k (.int .i64 0)), none⟩])
 (.seq (.reg [⟨some 8, .faddr 0 (.t 3), none⟩,
     ⟨some 9, .load 1 false (.t 8), none⟩,
     ⟨some 10, .len (.t 9), none⟩,
     ⟨some 7, .mov (.t 10), none⟩])
  (.seq (.seq (.reg [⟨some 11, .mov (.t 1), none⟩,
       ⟨some 12, .mov (.t 7), none⟩,
       ⟨some 13, .bin .sub (.t 12) (.k (.int .i64 1)), none⟩,
       ⟨some 14, .call 76 [(.t 11), (.k (.int .i64 0)), (.t 13)], none⟩,
       ⟨some 15, .not (.t 14), none⟩,
       ⟨some 16, .mov (.t 15), none⟩,
       ⟨some 17, .mov (.t 2), some (16, false)⟩,
       ⟨some 18, .mov (.t 7), some (16, false)⟩,
       ⟨some 19, .bin .sub (.t 18) (.k (.int .i64 1)), some (16, false)⟩,
       ⟨some 20, .call 76 [(.t 17), (.k (.int .i64 0)), (.t 19)], some (16, false)⟩,
       ⟨some 21, .not (.t 20), some (16, false)⟩,
       ⟨some 22, .pick (.t 16) (.k (.bool true)) (.t 21), none⟩,
       ⟨some 23, .mov (.t 22), none⟩,
       ⟨some 24, .faddr 1 (.t 3), some (23, false)⟩,
       ⟨some 25, .load 1 false (.t 24), some (23, false)⟩,
       ⟨some 26, .len (.t 25), some (23, false)⟩,
       ⟨some 27, .mov (.t 7), some (23, false)⟩,
       ⟨some 28, .mov (.t 7), some (23, false)⟩,
       ⟨some 29, .bin .mul (.t 27) (.t 28), some (23, false)⟩,
       ⟨some 30, .bin .neq (.t 26) (.t 29), some (23, false)⟩,
       ⟨some 31, .pick (.t 23) (.k (.bool true)) (.t 30), none⟩])
    (.cond (.t 31)
     (.seq (.reg [⟨some 6, .mov (.k (.int .i64 1)), none⟩])
      (.ret))
     (.skip)))
   (.seq (.reg [⟨some 32, .faddr 1 (.t 3), none⟩,
       ⟨some 33, .load 1 false (.t 32), none⟩,
       ⟨some 34, .mov (.t 1), none⟩,
       ⟨some 35, .mov (.t 7), none⟩,
       ⟨some 36, .bin .mul (.t 34) (.t 35), none⟩,
       ⟨some 37, .mov (.t 2), none⟩,
       ⟨some 38, .bin .add (.t 36) (.t 37), none⟩,
       ⟨some 39, .iaddr 1 (.t 33) (.t 38), none⟩,
       ⟨some 40, .load 1 false (.t 39), none⟩,
       ⟨some 6, .mov (.t 40), none⟩])
    (.ret))))⟩
theorem fok_spec_NextOf : FOk Try.prog 191 code_spec_NextOf := fok Try.func191 (by kernel_rfl)
def code_impl_NextOf : F := ⟨41, [.tmp 6],
 .seq (.reg [⟨some 3, .box (.t 0), none⟩,
    ⟨some 6, .mov (.k (.int .i64 0)), none⟩])
 (.seq (.seq (.reg [⟨some 7, .load 2 true (.t 3), none⟩,
      ⟨some 8, .mov (.t 1), none⟩,
      ⟨some 9, .call 197 [(.t 7), (.t 8)], none⟩,
      ⟨some 10, .not (.t 9), none⟩,
      ⟨some 11, .mov (.t 10), none⟩,
      ⟨some 12, .load 2 true (.t 3), some (11, false)⟩,
      ⟨some 13, .mov (.t 2), some (11, false)⟩,
      ⟨some 14, .call 197 [(.t 12), (.t 13)], some (11, false)⟩,
      ⟨some 15, .not (.t 14), some (11, false)⟩,
      ⟨some 16, .pick (.t 11) (.k (.bool true)) (.t 15), none⟩,
      ⟨some 17, .mov (.t 16), none⟩,
      ⟨some 18, .faddr 1 (.t 3), some (17, false)⟩,
      ⟨some 19, .load 1 false (.t 18), some (17, false)⟩,
      ⟨some 20, .len (.t 19), some (17, false)⟩,
      ⟨some 21, .faddr 0 (.t 3), some (17, false)⟩,
      ⟨some 22, .load 1 false (.t 21), some (17, false)⟩,
      ⟨some 23, .len (.t 22), some (17, false)⟩,
      ⟨some 24, .faddr 0 (.t 3), some (17, false)⟩,
      ⟨some 25, .load 1 false (.t 24), some (17, false)⟩,
      ⟨some 26, .len (.t 25), some (17, false)⟩,
      ⟨some 27, .bin .mul (.t 23) (.t 26), some (17, false)⟩,
      ⟨some 28, .bin .neq (.t 20) (.t 27), some (17, false)⟩,
      ⟨some 29, .pick (.t 17) (.k (.bool true)) (.t 28), none⟩])
   (.cond (.t 29)
    (.seq (.reg [⟨some 6, .mov (.k (.int .i64 1)), none⟩])
     (.ret))
    (.skip)))
  (.seq (.reg [⟨some 30, .faddr 1 (.t 3), none⟩,
      ⟨some 31, .load 1 false (.t 30), none⟩,
      ⟨some 32, .mov (.t 1), none⟩,
      ⟨some 33, .faddr 0 (.t 3), none⟩,
      ⟨some 34, .load 1 false (.t 33), none⟩,
      ⟨some 35, .len (.t 34), none⟩,
      ⟨some 36, .bin .mul (.t 32) (.t 35), none⟩,
      ⟨some 37, .mov (.t 2), none⟩,
      ⟨some 38, .bin .add (.t 36) (.t 37), none⟩,
      ⟨some 39, .iaddr 1 (.t 31) (.t 38), none⟩,
      ⟨some 40, .load 1 false (.t 39), none⟩,
      ⟨some 6, .mov (.t 40), none⟩])
   (.ret)))⟩
theorem fok_impl_NextOf : FOk Try.prog 122 code_impl_NextOf := fok Try.func122 (by kernel_rfl)
/-- Where a pair stands. -/
theorem pair_lt {i j n : Int} (h0 : 0 ≤ i) (h1 : i ≤ n - 1) (h3 : j ≤ n - 1) : i * n + j < n * n := by
  have := Int.mul_le_mul_of_nonneg_right (show i + 1 ≤ n by omega) (show 0 ≤ n by omega)
  rw [Int.add_mul] at this
  omega
theorem pair_ge {i j n : Int} (h0 : 0 ≤ i) (h1 : i ≤ n - 1) (h2 : 0 ≤ j) : 0 ≤ i * n ∧ i * n ≤ i * n + j := by
  have := Int.mul_nonneg h0 (show 0 ≤ n by omega)
  omega
theorem sq_le {n : Nat} (h : n ≤ 1048576) : (n : Int) * n ≤ 1099511627776 := by
  have := Nat.mul_le_mul h h
  omega
def inN (x : Strc) (i : Int) : Prop := 0 ≤ i ∧ i ≤ (x.nodes.length : Int) - 1
instance (x : Strc) (i : Int) : Decidable (inN x i) := by unfold inN; infer_instance
def nextOf (x : Strc) (i j : Int) : Int :=
  if inN x i ∧ inN x j ∧ (x.next.length : Int) = (x.nodes.length : Int) * x.nodes.length then x.next.getD (i * x.nodes.length + j).toNat 0 else 1
@[simp] def ct_sNextOf : Ct := ⟨191, Strc × Int × Int, fun x => szStrc x.1 ≤ 1048576, fun x => [encStrc x.1, .int .i64 x.2.1, .int .i64 x.2.2], fun x => .int .i64 (nextOf x.1 x.2.1 x.2.2)⟩
set_option maxHeartbeats 1000000 in
theorem ok_sNextOf : ct_sNextOf.Ok Try.prog := by
  rintro ⟨x, i, j⟩ hx
  change szStrc x ≤ 1048576 at hx
  have hs := strc_le x
  have hsq := sq_le (n := x.nodes.length) (by omega)
  have hn0 : 0 ≤ (x.nodes.length : Int) * x.nodes.length := Int.mul_nonneg (by omega) (by omega)
  have w0 : IntKind.i64.wrap ((x.nodes.length : Int) - 1) = (x.nodes.length : Int) - 1 := by rw [wrap_i64] <;> omega
  have w1 : IntKind.i64.wrap ((x.nodes.length : Int) * x.nodes.length) = (x.nodes.length : Int) * x.nodes.length := by rw [wrap_i64] <;> omega
  refine Ok.of_cw fok_spec_NextOf (go_ok (tab_cons ok_l1In tab_nil) ?_)
  by_cases c1 : inN x i
  case neg =>
    have c1' := c1
    unfold inN at c1'
    simp [code_spec_NextOf, List.replicate, w0, w1, nextOf, c1]
    grind
  by_cases c2 : inN x j
  case neg =>
    have c2' := c2
    have c1' := c1
    unfold inN at c1' c2'
    simp [code_spec_NextOf, List.replicate, w0, w1, nextOf, c2, c1'.1, c1'.2]
    grind
  by_cases c3 : (x.next.length : Int) = (x.nodes.length : Int) * x.nodes.length
  case neg =>
    have c2' := c2
    have c1' := c1
    unfold inN at c1' c2'
    simp [code_spec_NextOf, List.replicate, w0, w1, nextOf, c3, c1'.1, c1'.2, c2'.1, c2'.2]
  have c2' := c2
  have c1' := c1
  unfold inN at c1' c2'
  have p1 := pair_lt c1'.1 c1'.2 c2'.2
  have p2 := pair_ge c1'.1 c1'.2 c2'.1
  have w2 : IntKind.i64.wrap (i * x.nodes.length) = i * x.nodes.length := by rw [wrap_i64] <;> omega
  have w3 : IntKind.i64.wrap (i * x.nodes.length + j) = i * x.nodes.length + j := by rw [wrap_i64] <;> omega
  have p3 : (i * x.nodes.length + j).toNat < x.next.length := by omega
  simp [code_spec_NextOf, List.replicate, w0, w1, w2, w3, nextOf, c1, c2, c3, c1'.1, c1'.2, c2'.1, c2'.2, p3]
  omega
@[simp] def ct_pNextOf : Ct := ⟨122, Strc × Int × Int, fun x => szStrc x.1 ≤ 1048576, fun x => [encStrc x.1, .int .i64 x.2.1, .int .i64 x.2.2], fun x => .int .i64 (nextOf x.1 x.2.1 x.2.2)⟩
set_option maxHeartbeats 1000000 in
theorem ok_pNextOf : ct_pNextOf.Ok Try.prog := by
  rintro ⟨x, i, j⟩ hx
  change szStrc x ≤ 1048576 at hx
  have hs := strc_le x
  have hsq := sq_le (n := x.nodes.length) (by omega)
  have hn0 : 0 ≤ (x.nodes.length : Int) * x.nodes.length := Int.mul_nonneg (by omega) (by omega)
  have w1 : IntKind.i64.wrap ((x.nodes.length : Int) * x.nodes.length) = (x.nodes.length : Int) * x.nodes.length := by rw [wrap_i64] <;> omega
  refine Ok.of_cw fok_impl_NextOf (go_ok (tab_cons ok_isNode tab_nil) ?_)
  by_cases c1 : inN x i
  case neg =>
    have c1' := c1
    unfold inN at c1'
    simp [code_impl_NextOf, List.replicate, w1, nextOf, c1]
    grind
  by_cases c2 : inN x j
  case neg =>
    have c2' := c2
    have c1' := c1
    unfold inN at c1' c2'
    simp [code_impl_NextOf, List.replicate, w1, nextOf, c2, c1'.1, c1'.2]
    grind
  by_cases c3 : (x.next.length : Int) = (x.nodes.length : Int) * x.nodes.length
  case neg =>
    have c2' := c2
    have c1' := c1
    unfold inN at c1' c2'
    simp [code_impl_NextOf, List.replicate, w1, nextOf, c3, c1'.1, c1'.2, c2'.1, c2'.2]
  have c2' := c2
  have c1' := c1
  unfold inN at c1' c2'
  have p1 := pair_lt c1'.1 c1'.2 c2'.2
  have p2 := pair_ge c1'.1 c1'.2 c2'.1
  have w2 : IntKind.i64.wrap (i * x.nodes.length) = i * x.nodes.length := by rw [wrap_i64] <;> omega
  have w3 : IntKind.i64.wrap (i * x.nodes.length + j) = i * x.nodes.length + j := by rw [wrap_i64] <;> omega
  have p3 : (i * x.nodes.length + j).toNat < x.next.length := by omega
  simp [code_impl_NextOf, List.replicate, w1, w2, w3, nextOf, c1, c2, c3, c1'.1, c1'.2, c2'.1, c2'.2, p3]
  omega
end Go.Vm

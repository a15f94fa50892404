/- CountPredicates. No condition. -/
import Derived.Test.YtokcpkncagdlpaaTU
set_option linter.unusedSimpArgs false
set_option linter.unusedVariables false
namespace Go.Vm
open Go.Proofs
def code_spec_l15Vars : F := ⟨13, [.tmp 2],
 .seq (.reg [⟨some 1, .box (.t 0), none⟩,
    ⟨some 2, .mov (.k (.int .i64 0)), none⟩])
 (.seq (.seq (.reg [⟨some 3, .faddr 0 (.t 1), none⟩,
      ⟨some 4, .load 1 false (.t 3), none⟩,
      ⟨some 5, .len (.t 4), none⟩,
      ⟨some 6, .bin .eql (.t 5) (.k (.int .i64 0)), none⟩])
   (.cond (.t 6)
    (.seq (.reg [⟨some 2, .mov (.k (.int .i64 0)), none⟩])
     (.ret))
    (.skip)))
  (.seq (.reg [⟨some 7, .faddr 0 (.t 1), none⟩,
      ⟨some 8, .load 1 false (.t 7), none⟩,
      ⟨some 9, .iaddr 4 (.t 8) (.k (.int .i64 0)), none⟩,
      ⟨some 10, .faddr 0 (.t 9), none⟩,
      ⟨some 11, .load 1 false (.t 10), none⟩,
      ⟨some 12, .len (.t 11), none⟩,
      ⟨some 2, .mov (.t 12), none⟩])
   (.ret)))⟩
theorem fok_spec_l15Vars : FOk Try.prog 139 code_spec_l15Vars := fok Try.func139 (by kernel_rfl)
def code_impl_variables : F := ⟨13, [.tmp 2],
 .seq (.reg [⟨some 1, .box (.t 0), none⟩,
    ⟨some 2, .mov (.k (.int .i64 0)), none⟩])
 (.seq (.seq (.reg [⟨some 3, .faddr 0 (.t 1), none⟩,
      ⟨some 4, .load 1 false (.t 3), none⟩,
      ⟨some 5, .len (.t 4), none⟩,
      ⟨some 6, .bin .eql (.t 5) (.k (.int .i64 0)), none⟩])
   (.cond (.t 6)
    (.seq (.reg [⟨some 2, .mov (.k (.int .i64 0)), none⟩])
     (.ret))
    (.skip)))
  (.seq (.reg [⟨some 7, .faddr 0 (.t 1), none⟩,
      ⟨some 8, .load 1 false (.t 7), none⟩,
      ⟨some 9, .iaddr 4 (.t 8) (.k (.int .i64 0)), none⟩,
      ⟨some 10, .faddr 0 (.t 9), none⟩,
      ⟨some 11, .load 1 false (.t 10), none⟩,
      ⟨some 12, .len (.t 11), none⟩,
      ⟨some 2, .mov (.t 12), none⟩])
   (.ret)))⟩
theorem fok_impl_variables : FOk Try.prog 143 code_impl_variables := fok Try.func143 (by kernel_rfl)
def code_spec_CountPredicates : F := ⟨11, [.tmp 2],
 .seq (.reg [⟨some 1, .box (.t 0), none⟩,
    ⟨some 2, .mov (.k (.int .i64 0)), none⟩])
 (.seq (.seq (.reg [⟨some 3, .faddr 0 (.t 1), none⟩,
      ⟨some 4, .load 1 false (.t 3), none⟩,
      ⟨some 5, .len (.t 4), none⟩,
      ⟨some 6, .bin .eql (.t 5) (.k (.int .i64 0)), none⟩])
   (.cond (.t 6)
    (.seq (.reg [⟨some 2, .mov (.k (.int .i64 0)), none⟩])
     (.ret))
    (.skip)))
  (.seq (.reg [⟨some 7, .load 2 true (.t 1), none⟩,
      ⟨some 8, .call 139 [(.t 7)], none⟩,
      ⟨some 9, .bin .mul (.k (.int .i64 2)) (.t 8), none⟩,
      ⟨some 10, .bin .add (.t 9) (.k (.int .i64 1)), none⟩,
      ⟨some 2, .mov (.t 10), none⟩])
   (.ret)))⟩
theorem fok_spec_CountPredicates : FOk Try.prog 72 code_spec_CountPredicates := fok Try.func72 (by kernel_rfl)
def code_impl_CountPredicates : F := ⟨11, [.tmp 2],
 .seq (.reg [⟨some 1, .box (.t 0), none⟩,
    ⟨some 2, .mov (.k (.int .i64 0)), none⟩])
 (.seq (.seq (.reg [⟨some 3, .faddr 0 (.t 1), none⟩,
      ⟨some 4, .load 1 false (.t 3), none⟩,
      ⟨some 5, .len (.t 4), none⟩,
      ⟨some 6, .bin .eql (.t 5) (.k (.int .i64 0)), none⟩])
   (.cond (.t 6)
    (.seq (.reg [⟨some 2, .mov (.k (.int .i64 0)), none⟩])
     (.ret))
    (.skip)))
  (.seq (.reg [⟨some 7, .load 2 true (.t 1), none⟩,
      ⟨some 8, .call 143 [(.t 7)], none⟩,
      ⟨some 9, .bin .mul (.k (.int .i64 2)) (.t 8), none⟩,
      ⟨some 10, .bin .add (.t 9) (.k (.int .i64 1)), none⟩,
      ⟨some 2, .mov (.t 10), none⟩])
   (.ret)))⟩
theorem fok_impl_CountPredicates : FOk Try.prog 77 code_impl_CountPredicates := fok Try.func77 (by kernel_rfl)
/-- The number of variables. -/
def nvars (x : Strc) : Nat := match x.nodes with | [] => 0 | n :: _ => n.vars.length
@[simp] def ct_l15Vars : Ct := ⟨139, Strc, fun _ => True, fun x => [encStrc x], fun x => .int .i64 (nvars x)⟩
theorem ok_l15Vars : ct_l15Vars.Ok Try.prog := by
  rintro ⟨a, b⟩ -
  refine Ok.of_cw fok_spec_l15Vars (go_ok tab_nil ?_)
  cases a with
  | nil => simp [code_spec_l15Vars, List.replicate, nvars]
  | cons n a => simp [code_spec_l15Vars, List.replicate, nvars]; omega
@[simp] def ct_variables : Ct := ⟨143, Strc, fun _ => True, fun x => [encStrc x], fun x => .int .i64 (nvars x)⟩
theorem ok_variables : ct_variables.Ok Try.prog := by
  rintro ⟨a, b⟩ -
  refine Ok.of_cw fok_impl_variables (go_ok tab_nil ?_)
  cases a with
  | nil => simp [code_impl_variables, List.replicate, nvars]
  | cons n a => simp [code_impl_variables, List.replicate, nvars]; omega
def cntP (x : Strc) : Int := if x.nodes = [] then 0 else IntKind.i64.wrap (IntKind.i64.wrap (2 * (nvars x : Int)) + 1)
@[simp] def ct_spec_Count : Ct := ⟨72, Strc, fun _ => True, fun x => [encStrc x], fun x => .int .i64 (cntP x)⟩
theorem ok_spec_Count : ct_spec_Count.Ok Try.prog := by
  rintro ⟨a, b⟩ -
  refine Ok.of_cw fok_spec_CountPredicates (go_ok (tab_cons ok_l15Vars tab_nil) ?_)
  simp [code_spec_CountPredicates, List.replicate, cntP]
  exact ⟨fun h k => absurd h k, fun h k => absurd k h⟩
@[simp] def ct_impl_Count : Ct := ⟨77, Strc, fun _ => True, fun x => [encStrc x], fun x => .int .i64 (cntP x)⟩
theorem ok_impl_Count : ct_impl_Count.Ok Try.prog := by
  rintro ⟨a, b⟩ -
  refine Ok.of_cw fok_impl_CountPredicates (go_ok (tab_cons ok_variables tab_nil) ?_)
  simp [code_impl_CountPredicates, List.replicate, cntP]
  exact ⟨fun h k => absurd h k, fun h k => absurd k h⟩
end Go.Vm

/- CountPredicates. No condition. -/
import Derived.Test.YtmakeoekklcbdaaDoorTU
set_option linter.unusedSimpArgs false
set_option linter.unusedVariables false
namespace Go.Vm
open Go.Proofs
def code_spec_l15Vars : F := ⟨13, [.tmp 2],
 .seq (.reg [⟨some 1, .box (.t 0), none⟩,
    ⟨some 2, .mov (.k (.int .i64 0)), none⟩])
 (.seq (.seq (.reg [⟨some 3, .faddr 0 (.t 1), none⟩,
      ⟨some 4, .load 1 false (.t 3), none⟩,
      ⟨some 5, .len (.t 4), none⟩,
      ⟨some 6, .bin .eql (.t 5) (.k (.int .i64 0)), none⟩])
   (.cond (.t 6)
    (.seq (.reg [⟨some 2, .mov (.k (.int .i64 0)), none⟩])
     (.ret))
    (.skip)))
  (.seq (.reg [⟨some 7, .faddr 0 (.t 1), none⟩,
      ⟨some 8, .load 1 false (.t 7), none⟩,
      ⟨some 9, .iaddr 4 (.t 8) (.k (.int .i64 0)), none⟩,
      ⟨some 10, .faddr 0 (.t 9), none⟩,
      ⟨some 11, .load 1 false (.t 10), none⟩,
      ⟨some 12, .len (.t 11), none⟩,
      ⟨some 2, .mov (.t 12), none⟩])
   (.ret)))⟩
theorem fok_spec_l15Vars : FOk Tryd.prog 17 code_spec_l15Vars := fok Tryd.func17 (by kernel_rfl)
def code_impl_variables : F := ⟨13, [.tmp 2],
 .seq (.reg [⟨some 1, .box (.t 0), none⟩,
    ⟨some 2, .mov (.k (.int .i64 0)), none⟩])
 (.seq (.seq (.reg [⟨some 3, .faddr 0 (.t 1), none⟩,
      ⟨some 4, .load 1 false (.t 3), none⟩,
      ⟨some 5, .len (.t 4), none⟩,
      ⟨some 6, .bin .eql (.t 5) (.k (.int .i64 0)), none⟩])
   (.cond (.t 6)
    (.seq (.reg [⟨some 2, .mov (.k (.int .i64 0)), none⟩])
     (.ret))
    (.skip)))
  (.seq (.reg [⟨some 7, .faddr 0 (.t 1), none⟩,
      ⟨some 8, .load 1 false (.t 7), none⟩,
      ⟨some 9, .iaddr 4 (.t 8) (.k (.int .i64 0)), none⟩,
      ⟨some 10, .faddr 0 (.t 9), none⟩,
      ⟨some 11, .load 1 false (.t 10), none⟩,
      ⟨some 12, .len (.t 11), none⟩,
      ⟨some 2, .mov (.t 12), none⟩])
   (.ret)))⟩
theorem fok_impl_variables : FOk Tryd.prog 21 code_impl_variables := fok Tryd.func21 (by kernel_rfl)
/-- The number of variables. -/
def nvars (x : Strc) : Nat := match x.nodes with | [] => 0 | n :: _ => n.vars.length
@[simp] def ct_l15Vars : Ct := ⟨17, Strc, fun _ => True, fun x => [encStrc x], fun x => .int .i64 (nvars x)⟩
theorem ok_l15Vars : ct_l15Vars.Ok Tryd.prog := by
  rintro ⟨a, b⟩ -
  refine Ok.of_cw fok_spec_l15Vars (go_ok tab_nil ?_)
  cases a with
  | nil => simp [code_spec_l15Vars, List.replicate, nvars]
  | cons n a => simp [code_spec_l15Vars, List.replicate, nvars]; omega
@[simp] def ct_variables : Ct := ⟨21, Strc, fun _ => True, fun x => [encStrc x], fun x => .int .i64 (nvars x)⟩
theorem ok_variables : ct_variables.Ok Tryd.prog := by
  rintro ⟨a, b⟩ -
  refine Ok.of_cw fok_impl_variables (go_ok tab_nil ?_)
  cases a with
  | nil => simp [code_impl_variables, List.replicate, nvars]
  | cons n a => simp [code_impl_variables, List.replicate, nvars]; omega
def cntP (x : Strc) : Int := if x.nodes = [] then 0 else IntKind.i64.wrap (IntKind.i64.wrap (2 * (nvars x : Int)) + 1)
end Go.Vm

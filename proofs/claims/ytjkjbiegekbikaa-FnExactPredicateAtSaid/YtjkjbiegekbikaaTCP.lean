/- CountPredicates. No condition. -/
import Derived.Test.YtjkjbiegekbikaaTU
set_option linter.unusedSimpArgs false
set_option linter.unusedVariables false
namespace Go.Vm
open Go.Proofs
def code_spec_l15Vars : F := ⟨13, [.tmp 2],
 .seq (.reg [⟨some 1, .box (.t 0), none⟩,
    ⟨some 2, .mov (.k (.int .i64 0)), none⟩])
 (.seq (.seq (.reg [⟨some 3, .faddr 0 (.t 1), none⟩,
      ⟨some 4, .load 1 false (.t 3), none⟩,
      ⟨some 5, .len (.t 4), none⟩,
      ⟨some 6, .bin .eql (.t 5) (.k (.int .i64 0)), none⟩])
   (.cond (.t 6)
    (.seq (.reg [⟨some 2, .mov (.k (.int .i64 0)), none⟩])
     (.ret))
    (.skip)))
  (.seq (.reg [⟨some 7, .faddr 0 (.t 1), none⟩,
      ⟨some 8, .load 1 false (.t 7), none⟩,
      ⟨some 9, .iaddr 4 (.t 8) (.k (.int .i64 0)), none⟩,
      ⟨some 10, .faddr 0 (.t 9), none⟩,
      ⟨some 11, .load 1 false (.t 10), none⟩,
      ⟨some 12, .len (.t 11), none⟩,
      ⟨some 2, .mov (.t 12), none⟩])
   (.ret)))⟩
theorem fok_spec_l15Vars : FOk Try.prog 84 code_spec_l15Vars := fok Try.func84 (by kernel_rfl)
def code_impl_variables : F := ⟨13, [.tmp 2],
 .seq (.reg [⟨some 1, .box (.t 0), none⟩,
    ⟨some 2, .mov (.k (.int .i64 0)), none⟩])
 (.seq (.seq (.reg [⟨some 3, .faddr 0 (.t 1), none⟩,
      ⟨some 4, .load 1 false (.t 3), none⟩,
      ⟨some 5, .len (.t 4), none⟩,
      ⟨some 6, .bin .eql (.t 5) (.k (.int .i64 0)), none⟩])
   (.cond (.t 6)
    (.seq (.reg [⟨some 2, .mov (.k (.int .i64 0)), none⟩])
     (.ret))
    (.skip)))
  (.seq (.reg [⟨some 7, .faddr 0 (.t 1), none⟩,
      ⟨some 8, .load 1 false (.t 7), none⟩,
      ⟨some 9, .iaddr 4 (.t 8) (.k (.int .i64 0)), none⟩,
      ⟨some 10, .faddr 0 (.t 9), none⟩,
      ⟨some 11, .load 1 false (.t 10), none⟩,
      ⟨some 12, .len (.t 11), none⟩,
      ⟨some 2, .mov (.t 12), none⟩])
   (.ret)))⟩
theorem fok_impl_variables : FOk Try.prog 86 code_impl_variables := fok Try.func86 (by kernel_rfl)
def code_spec_CountPredicates : F := ⟨11, [.tmp 2],
 .seq (.reg [⟨some 1, .box (.t 0), none⟩,
    ⟨some 2, .mov (.k (.int .i64 0)), none⟩])
 (.seq (.seq (.reg [⟨some 3, .faddr 0 (.t 1), none⟩,
      ⟨some 4, .load 1 false (.t 3), none⟩,
      ⟨some 5, .len (.t 4), none⟩,
      ⟨some 6, .bin .eql (.t 5) (.k (.int .i64 0)), none⟩])
   (.cond (.t 6)
    (.seq (.reg [⟨some 2, .mov (.k (.int .i64 0)), none⟩])
     (.ret))
    (.skip)))
  (.seq (.reg [⟨some 7, .load 2 true (.t 1), none⟩,
      ⟨some 8, .call 84 [(.t 7)], none⟩,
      ⟨some 9, .bin .mul (.k (.int .i64 2)) (.t 8), none⟩,
      ⟨some 10, .bin .add (.t 9) (.k (.int .i64 1)), none⟩,
      ⟨some 2, .mov (.t 10), none⟩])
   (.ret)))⟩
theorem fok_spec_CountPredicates : FOk Try.prog 41 code_spec_CountPredicates := fok Try.func41 (by kernel_rfl)
def code_impl_CountPredicates : F := ⟨11, [.tmp 2],
 .seq (.reg [⟨some 1, .box (.t 0), none⟩,
    ⟨some 2, .mov (.k (.int .i64 0)), none⟩])
 (.seq (.seq (.reg [⟨some 3, .faddr 0 (.t 1), none⟩,
      ⟨some 4, .load 1 false (.t 3), none⟩,
      ⟨some 5, .len (.t 4), none⟩,
      ⟨some 6, .bin .eql (.t 5) (.k (.int .i64 0)), none⟩])
   (.cond (.t 6)
    (.seq (.reg [⟨some 2, .mov (.k (.int .i64 0)), none⟩])
     (.ret))
    (.skip)))
  (.seq (.reg [⟨some 7, .load 2 true (.t 1), none⟩,
      ⟨some 8, .call 86 [(.t 7)], none⟩,
      ⟨some 9, .bin .mul (.k (.int .i64 2)) (.t 8), none⟩,
      ⟨some 10, .bin .add (.t 9) (.k (.int .i64 1)), none⟩,
      ⟨some 2, .mov (.t 10), none⟩])
   (.ret)))⟩
theorem fok_impl_CountPredicates : FOk Try.prog 43 code_impl_CountPredicates := fok Try.func43 (by kernel_rfl)
/-- The number of variables. -/
def nvars (x : Strc) : Nat := match x.nodes with | [] => 0 | n :: _ => n.vars.length
@[simp] def ct_l15Vars : Ct := ⟨84, Strc, fun _ => True, fun x => [encStrc x], fun x => .int .i64 (nvars x)⟩
theorem ok_l15Vars : ct_l15Vars.Ok Try.prog := by
  rintro ⟨a, b⟩ -
  refine Ok.of_cw fok_spec_l15Vars (go_ok tab_nil ?_)
  cases a with
  | nil => simp [code_spec_l15Vars, List.replicate, nvars]
  | cons n a => simp [code_spec_l15Vars, List.replicate, nvars]; omega
@[simp] def ct_variables : Ct := ⟨86, Strc, fun _ => True, fun x => [encStrc x], fun x => .int .i64 (nvars x)⟩
theorem ok_variables : ct_variables.Ok Try.prog := by
  rintro ⟨a, b⟩ -
  refine Ok.of_cw fok_impl_variables (go_ok tab_nil ?_)
  cases a with
  | nil => simp [code_impl_variables, List.replicate, nvars]
  | cons n a => simp [code_impl_variables, List.replicate, nvars]; omega
def cntP (x : Strc) : Int := if x.nodes = [] then 0 else IntKind.i64.wrap (IntKind.i64.wrap (2 * (nvars x : Int)) + 1)
@[simp] def ct_spec_Count : Ct := ⟨41, Strc, fun _ => True, fun x => [encStrc x], fun x => .int .i64 (cntP x)⟩
theorem ok_spec_Count : ct_spec_Count.Ok Try.prog := by
  rintro ⟨a, b⟩ -
  refine Ok.of_cw fok_spec_CountPredicates (go_ok (tab_cons ok_l15Vars tab_nil) ?_)
  simp [code_spec_CountPredicates, List.replicate, cntP]
  exact ⟨fun h k => absurd h k, fun h k => absurd k h⟩
@[simp] def ct_impl_Count : Ct := ⟨43, Strc, fun _ => True, fun x => [encStrc x], fun x => .int .i64 (cntP x)⟩
theorem ok_impl_Count : ct_impl_Count.Ok Try.prog := by
  rintro ⟨a, b⟩ -
  refine Ok.of_cw fok_impl_CountPredicates (go_ok (tab_cons ok_variables tab_nil) ?_)
  simp [code_impl_CountPredicates, List.replicate, cntP]
  exact ⟨fun h k => absurd h k, fun h k => absurd k h⟩
def code_laws_FnExactCountPredicates : F := ⟨27, [.tmp 2],
 .seq (.reg [⟨some 1, .box (.t 0), none⟩,
    ⟨some 2, .mov (.k (.bool false)), none⟩])
 (.seq (.reg [⟨some 3, .mov (.k (.int .i64 1048576)), none⟩])
  (.seq (.reg [⟨some 7, .load 2 true (.t 1), none⟩,
      ⟨some 8, .mov (.t 3), none⟩,
      ⟨some 9, .call 40 [(.t 7), (.t 8)], none⟩,
      ⟨some 3, .mov (.t 9), none⟩])
   (.seq (.seq (.reg [⟨some 10, .mov (.t 3), none⟩,
        ⟨some 11, .bin .lss (.t 10) (.k (.int .i64 0)), none⟩])
     (.cond (.t 11)
      (.seq (.reg [⟨some 2, .mov (.k (.bool true)), none⟩])
       (.ret))
      (.skip)))
    (.seq (.reg [⟨some 12, .load 2 true (.t 1), none⟩,
        ⟨some 13, .call 42 [(.t 12)], none⟩,
        ⟨some 14, .call 41 [(.t 13)], none⟩,
        ⟨some 4, .mov (.t 14), none⟩])
     (.seq (.reg [⟨some 15, .load 2 true (.t 1), none⟩,
         ⟨some 16, .call 42 [(.t 15)], none⟩,
         ⟨some 5, .alloc [(.sl .nil 0 []), (.sl .nil 0 [])], none⟩,
         ⟨none, .store 2 (.t 5) (.t 16), none⟩])
      (.seq (.reg [⟨some 17, .load 2 true (.t 5), none⟩,
          ⟨some 18, .call 43 [(.t 17)], none⟩,
          ⟨some 6, .mov (.t 18), none⟩])
       (.seq (.seq (.reg [⟨some 19, .mov (.t 6), none⟩,
            ⟨some 20, .mov (.t 4), none⟩,
            ⟨some 21, .bin .neq (.t 19) (.t 20), none⟩])
         (.cond (.t 21)
          (.seq (.reg [⟨some 2, .mov (.k (.bool false)), none⟩])
           (.ret))
          (.skip)))
        (.seq (.seq (.dreg [false, false, false, true, true] [⟨some 22, .load 2 true (.t 5), none⟩,
             ⟨some 23, .load 2 true (.t 1), none⟩,
             ⟨some 24, .call 42 [(.t 23)], none⟩,
             ⟨some 25, .call 44 [(.t 22), (.t 24)], none⟩,
             ⟨some 26, .not (.t 25), none⟩])
          (.cond (.t 26)
           (.seq (.reg [⟨some 2, .mov (.k (.bool false)), none⟩])
            (.ret))
           (.skip)))
         (.seq (.reg [⟨some 2, .mov (.k (.bool true)), none⟩])
          (.ret))))))))))⟩
theorem fok_laws_FnExactCountPredicates : FOk Try.prog 11 code_laws_FnExactCountPredicates := fok Try.func11 (by kernel_rfl)
set_option maxRecDepth 100000 in
theorem ok_lawCount (x : Strc) : Ok Try.prog 11 [encStrc x] (.bool true) := by
  refine Ok.of_cw fok_laws_FnExactCountPredicates (go_ok (tab_cons ok_szStrc (tab_cons ok_toStrc (tab_cons ok_spec_Count (tab_cons ok_impl_Count (tab_cons ok_eqStrc tab_nil))))) ?_)
  simp [code_laws_FnExactCountPredicates, List.replicate]
  intro h
  have := left_ge0.1 h
  omega
end Go.Vm

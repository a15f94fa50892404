/- Formulas: the program's constructors, told without blocks. No condition. -/
import Derived.Test.YtmakeoekklcbdaaGreatTFL
set_option linter.unusedSimpArgs false
set_option linter.unusedVariables false
namespace Go.Vm
open Go.Proofs
@[simp] def ct_onP : Ct := ⟨56, Int × Int, fun _ => True, fun x => [.int .i64 x.1, .int .i64 x.2], fun x => encFm (.mk 2 x.1 x.2 0 [])⟩
theorem ok_onP : ct_onP.Ok Tryz.prog := by
  rintro ⟨k, u⟩ -
  refine Ok.of_cw fok_impl_on (go_ok tab_nil ?_)
  simp [code_impl_on, List.replicate]
@[simp] def ct_fromP : Ct := ⟨57, Int × Int, fun _ => True, fun x => [.int .i64 x.1, .int .i64 x.2], fun x => encFm (.mk 3 x.1 x.2 0 [])⟩
theorem ok_fromP : ct_fromP.Ok Tryz.prog := by
  rintro ⟨k, u⟩ -
  refine Ok.of_cw fok_impl_from (go_ok tab_nil ?_)
  simp [code_impl_from, List.replicate]
@[simp] def ct_nextP : Ct := ⟨58, Int × Int, fun _ => True, fun x => [.int .i64 x.1, .int .i64 x.2], fun x => encFm (.mk 5 0 x.1 x.2 [])⟩
theorem ok_nextP : ct_nextP.Ok Tryz.prog := by
  rintro ⟨k, u⟩ -
  refine Ok.of_cw fok_impl_next (go_ok tab_nil ?_)
  simp [code_impl_next, List.replicate]
@[simp] def ct_fmSomeP : Ct := ⟨54, Int × Fm, fun _ => True, fun x => [.int .i64 x.1, encFm x.2], fun x => encFm (.mk 11 0 x.1 0 [x.2])⟩
theorem ok_fmSomeP : ct_fmSomeP.Ok Tryz.prog := by
  rintro ⟨u, x⟩ -
  refine Ok.of_cw fok_impl_fmSome (go_ok tab_nil ?_)
  simp [code_impl_fmSome, List.replicate, encF1, encF2, mkF1, mkF2]
  exact encFm_eq x
@[simp] def ct_fmAndP : Ct := ⟨55, Fm × Fm, fun _ => True, fun x => [encFm x.1, encFm x.2], fun x => encFm (.mk 9 0 0 0 [x.1, x.2])⟩
theorem ok_fmAndP : ct_fmAndP.Ok Tryz.prog := by
  rintro ⟨x, y⟩ -
  refine Ok.of_cw fok_impl_fmAnd (go_ok tab_nil ?_)
  simp [code_impl_fmAnd, List.replicate, encF1, encF2, mkF1, mkF2]
  exact ⟨encFm_eq x, encFm_eq y⟩
@[simp] def ct_fmOrP : Ct := ⟨59, Fm × Fm, fun _ => True, fun x => [encFm x.1, encFm x.2], fun x => encFm (.mk 10 0 0 0 [x.1, x.2])⟩
theorem ok_fmOrP : ct_fmOrP.Ok Tryz.prog := by
  rintro ⟨x, y⟩ -
  refine Ok.of_cw fok_impl_fmOr (go_ok tab_nil ?_)
  simp [code_impl_fmOr, List.replicate, encF1, encF2, mkF1, mkF2]
  exact ⟨encFm_eq x, encFm_eq y⟩
end Go.Vm

/- Formulas: the program's constructors, told without blocks. No condition. -/
import Derived.Test.YtmakeoekklcbdaaTFL
set_option linter.unusedSimpArgs false
set_option linter.unusedVariables false
namespace Go.Vm
open Go.Proofs
@[simp] def ct_onP : Ct := ⟨102, Int × Int, fun _ => True, fun x => [.int .i64 x.1, .int .i64 x.2], fun x => encFm (.mk 2 x.1 x.2 0 [])⟩
theorem ok_onP : ct_onP.Ok Try.prog := by
  rintro ⟨k, u⟩ -
  refine Ok.of_cw fok_impl_on (go_ok tab_nil ?_)
  simp [code_impl_on, List.replicate]
@[simp] def ct_fromP : Ct := ⟨185, Int × Int, fun _ => True, fun x => [.int .i64 x.1, .int .i64 x.2], fun x => encFm (.mk 3 x.1 x.2 0 [])⟩
theorem ok_fromP : ct_fromP.Ok Try.prog := by
  rintro ⟨k, u⟩ -
  refine Ok.of_cw fok_impl_from (go_ok tab_nil ?_)
  simp [code_impl_from, List.replicate]
@[simp] def ct_nextP : Ct := ⟨100, Int × Int, fun _ => True, fun x => [.int .i64 x.1, .int .i64 x.2], fun x => encFm (.mk 5 0 x.1 x.2 [])⟩
theorem ok_nextP : ct_nextP.Ok Try.prog := by
  rintro ⟨k, u⟩ -
  refine Ok.of_cw fok_impl_next (go_ok tab_nil ?_)
  simp [code_impl_next, List.replicate]
@[simp] def ct_fmSomeP : Ct := ⟨184, Int × Fm, fun _ => True, fun x => [.int .i64 x.1, encFm x.2], fun x => encFm (.mk 11 0 x.1 0 [x.2])⟩
theorem ok_fmSomeP : ct_fmSomeP.Ok Try.prog := by
  rintro ⟨u, x⟩ -
  refine Ok.of_cw fok_impl_fmSome (go_ok tab_nil ?_)
  simp [code_impl_fmSome, List.replicate, encF1, encF2, mkF1, mkF2]
  exact encFm_eq x
@[simp] def ct_fmAllP : Ct := ⟨132, Int × Fm, fun _ => True, fun x => [.int .i64 x.1, encFm x.2], fun x => encFm (.mk 12 0 x.1 0 [x.2])⟩
theorem ok_fmAllP : ct_fmAllP.Ok Try.prog := by
  rintro ⟨u, x⟩ -
  refine Ok.of_cw fok_impl_fmAll (go_ok tab_nil ?_)
  simp [code_impl_fmAll, List.replicate, encF1, encF2, mkF1, mkF2]
  exact encFm_eq x
@[simp] def ct_fmNotP : Ct := ⟨101, Fm, fun _ => True, fun x => [encFm x], fun x => encFm (.mk 8 0 0 0 [x])⟩
theorem ok_fmNotP : ct_fmNotP.Ok Try.prog := by
  rintro x -
  change Fm at x
  refine Ok.of_cw fok_impl_fmNot (go_ok tab_nil ?_)
  simp [code_impl_fmNot, List.replicate, encF1, encF2, mkF1, mkF2]
  exact encFm_eq x
@[simp] def ct_fmAndP : Ct := ⟨99, Fm × Fm, fun _ => True, fun x => [encFm x.1, encFm x.2], fun x => encFm (.mk 9 0 0 0 [x.1, x.2])⟩
theorem ok_fmAndP : ct_fmAndP.Ok Try.prog := by
  rintro ⟨x, y⟩ -
  refine Ok.of_cw fok_impl_fmAnd (go_ok tab_nil ?_)
  simp [code_impl_fmAnd, List.replicate, encF1, encF2, mkF1, mkF2]
  exact ⟨encFm_eq x, encFm_eq y⟩
@[simp] def ct_fmOrP : Ct := ⟨103, Fm × Fm, fun _ => True, fun x => [encFm x.1, encFm x.2], fun x => encFm (.mk 10 0 0 0 [x.1, x.2])⟩
theorem ok_fmOrP : ct_fmOrP.Ok Try.prog := by
  rintro ⟨x, y⟩ -
  refine Ok.of_cw fok_impl_fmOr (go_ok tab_nil ?_)
  simp [code_impl_fmOr, List.replicate, encF1, encF2, mkF1, mkF2]
  exact ⟨encFm_eq x, encFm_eq y⟩
@[simp] def ct_pReachP : Ct := ⟨200, Int, fun _ => True, fun x => [.int .i64 x], fun x => encFm (reachFm x)⟩
theorem ok_pReachP : ct_pReachP.Ok Try.prog := by
  rintro k -
  change Int at k
  refine Ok.of_cw fok_impl_ReachFormula (go_ok (tab_cons ok_fmSomeP (tab_cons ok_fmAndP (tab_cons ok_onP tab_nil))) ?_)
  simp [code_impl_ReachFormula, List.replicate, reachFm, -encFm_mk, encF0]
  exact encFm_eq _
@[simp] def ct_pSharedP : Ct := ⟨201, Unit, fun _ => True, fun x => [], fun x => encFm sharedFm⟩
theorem ok_pSharedP : ct_pSharedP.Ok Try.prog := by
  rintro k -
  refine Ok.of_cw fok_impl_SharedFormula (go_ok (tab_cons ok_fmSomeP (tab_cons ok_fmAndP (tab_cons ok_fmNotP (tab_cons ok_nextP tab_nil)))) ?_)
  simp [code_impl_SharedFormula, List.replicate, sharedFm, -encFm_mk, encF0]
  exact encFm_eq _
end Go.Vm

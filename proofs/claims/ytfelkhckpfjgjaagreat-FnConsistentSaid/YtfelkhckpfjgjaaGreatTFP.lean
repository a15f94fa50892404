/- Formulas: the reference's copies and constructors. No condition. -/
import Derived.Test.YtfelkhckpfjgjaaGreatTFC
set_option linter.unusedSimpArgs false
set_option linter.unusedVariables false
namespace Go.Vm
open Go.Proofs
theorem encF1 (x : Fm) : encL 5 encFm [x] = .sl .any 5 [encFm x] := (rfl)
theorem encF2 (x y : Fm) : encL 5 encFm [x, y] = .sl .any 5 [encFm x, encFm y] := (rfl)
theorem mkF1 (x : AV) : mksl 5 [x] = .sl .any 5 [x] := (rfl)
theorem mkF2 (x y : AV) : mksl 5 [x, y] = .sl .any 5 [x, y] := (rfl)
theorem encF0 (a b c d : Int) (x : Fm) : (.agg [.int .i64 a, .int .i64 b, .int .i64 c, .int .i64 d, .sl .any 0 []] = encFm x) = (Fm.mk a b c d [] = x) := encFm_agg (l := [])
theorem size_mk (a b c d : Int) (l : List Fm) : (Fm.mk a b c d l).size = 1 + sizes l := by simp [Fm.size]
theorem sizes_cons (x : Fm) (l : List Fm) : sizes (x :: l) = x.size + sizes l := by simp [sizes]
theorem sizes_nil : sizes [] = 0 := by simp [sizes]
theorem size_pos (x : Fm) : 1 ≤ x.size := by rw [size_eq]; omega
@[simp] def ct_copyn (n : Nat) : Ct := ⟨110, Fm, fun x => x.size ≤ n ∧ x.size ≤ 1048576, fun x => [encFm x], fun x => encFm x⟩
set_option maxHeartbeats 1000000 in
set_option maxRecDepth 100000 in
theorem ok_copyn (n : Nat) (ih : (ct_copyn n).Ok Tryz.prog) : (ct_copyn (n + 1)).Ok Tryz.prog := by
  rintro ⟨a, b, c, d, xs⟩ ⟨hx, hx2⟩
  change (Fm.mk a b c d xs).size ≤ n + 1 at hx
  change (Fm.mk a b c d xs).size ≤ 1048576 at hx2
  rw [size_eq] at hx hx2
  change 1 + sizes xs ≤ n + 1 at hx
  change 1 + sizes xs ≤ 1048576 at hx2
  have hl := sizes_len xs
  refine Ok.of_cw fok_spec_l10Copy (go_ok tab_nil ?_)
  simp [code_spec_l10Copy, List.replicate]
  refine cw_round (fun (i : Nat) => ⟨slots 33 [(1, .pbox 0 0), (2, .pbox 2 0), (3, .pbox 4 0), (4, .int .i64 i)],
      [.cells [.int .i64 a, .int .i64 b, .int .i64 c, .int .i64 d, encL 5 encFm xs], .nrow, .cells [.int .i64 0, .int .i64 0, .int .i64 0, .int .i64 0, .slref 1 0 0 0], .nrow, .cells [.int .i64 a, .int .i64 b, .int .i64 c, .int .i64 d, .slref 5 0 i i], .row true 42 5 ((xs.take i).map encFm)]⟩)
    (fun i => i ≤ xs.length) (fun i => xs.length - i) 0 (by omega) ?_ ?_
  · refine (weak_row 5 42 5 (by simp)).trans (weak_seal 6 (by omega) (by simp) (by simp [List.replicate]))
  · rintro N hN i hi
    by_cases g : i < xs.length
    · have hw : IntKind.i64.wrap ((i : Int) + 1) = ((i + 1 : Nat) : Int) := by rw [wrap_i64] <;> omega
      have g2 : ¬ xs.length ≤ i := by omega
      have hs := size_mem g
      have hb : (i + 1) * 56 ≤ 140737488355328 := by omega
      have hm : min i xs.length = i := by omega
      refine go_ok (tab_cons ih tab_nil) ?_
      simp [List.replicate, hw, g, g2, hb, hm, app1, take_map3, -List.map_take]
      refine ⟨by omega, by omega, ?_⟩
      refine hN _ (i + 1) _ (by omega) (by omega) (weak_seal 6 (by omega) ?_ ?_)
      · simp [take_map2 encFm g, -List.map_take]
      · simp [List.replicate]
    · have e : i = xs.length := by omega
      subst e
      refine go_ok tab_nil ?_
      simp [List.replicate]
theorem ok_copys : ∀ n, (ct_copyn n).Ok Tryz.prog
  | 0 => by rintro x ⟨hx, -⟩; have := size_pos x; have hx : x.size ≤ 0 := hx; omega
  | n + 1 => ok_copyn n (ok_copys n)
@[simp] def ct_copy : Ct := ⟨110, Fm, fun x => x.size ≤ 1048576, fun x => [encFm x], fun x => encFm x⟩
theorem ok_copy : ct_copy.Ok Tryz.prog := fun x h => ok_copys 1048576 x ⟨h, h⟩
def code_spec_l14Some : F := ⟨10,[.cell 5 true 4],.seq (.reg [⟨some 3,.box (.t 1),none⟩,⟨some 4,.alloc [(.int .i64 0),(.int .i64 0),(.int .i64 0),(.int .i64 0),(.sl .nil 0 [])],none⟩]) (.seq (.reg [⟨some 5,.mov (.t 0),none⟩,⟨some 6,.load 5 true (.t 3),none⟩,⟨some 7,.call 110 [.t 6],none⟩,⟨some 8,.bsl 42 5 1 (.agg [(.int .i64 0),(.int .i64 0),(.int .i64 0),(.int .i64 0),(.sl .nil 0 [])]) [(0,.t 7)],none⟩,⟨some 9,.build [(.int .i64 0),(.int .i64 0),(.int .i64 0),(.int .i64 0),(.sl .nil 0 [])] [(0,1,(.k (.int .i64 11))),(2,1,.t 5),(4,1,.t 8)],none⟩,⟨none,.store 5 (.t 4) (.t 9),none⟩]) (.ret))⟩
theorem fok_spec_l14Some : FOk Tryz.prog 67 code_spec_l14Some := fok Tryz.func67 (by kernel_rfl)
def code_spec_l14And : F := ⟨11,[.cell 5 true 4],.seq (.reg [⟨some 2,.box (.t 0),none⟩,⟨some 3,.box (.t 1),none⟩,⟨some 4,.alloc [(.int .i64 0),(.int .i64 0),(.int .i64 0),(.int .i64 0),(.sl .nil 0 [])],none⟩]) (.seq (.dreg [false,false,false,true,true,true,true] [false,true,false,true,false,false,false] [⟨some 5,.load 5 true (.t 2),none⟩,⟨some 6,.call 110 [.t 5],none⟩,⟨some 7,.load 5 true (.t 3),none⟩,⟨some 8,.call 110 [.t 7],none⟩,⟨some 9,.bsl 42 5 2 (.agg [(.int .i64 0),(.int .i64 0),(.int .i64 0),(.int .i64 0),(.sl .nil 0 [])]) [(0,.t 6),(1,.t 8)],none⟩,⟨some 10,.build [(.int .i64 0),(.int .i64 0),(.int .i64 0),(.int .i64 0),(.sl .nil 0 [])] [(0,1,(.k (.int .i64 9))),(4,1,.t 9)],none⟩,⟨none,.store 5 (.t 4) (.t 10),none⟩]) (.ret))⟩
theorem fok_spec_l14And : FOk Tryz.prog 68 code_spec_l14And := fok Tryz.func68 (by kernel_rfl)
def code_spec_l14Not : F := ⟨7,[.cell 5 true 2],.seq (.reg [⟨some 1,.box (.t 0),none⟩,⟨some 2,.alloc [(.int .i64 0),(.int .i64 0),(.int .i64 0),(.int .i64 0),(.sl .nil 0 [])],none⟩]) (.seq (.reg [⟨some 3,.load 5 true (.t 1),none⟩,⟨some 4,.call 110 [.t 3],none⟩,⟨some 5,.bsl 42 5 1 (.agg [(.int .i64 0),(.int .i64 0),(.int .i64 0),(.int .i64 0),(.sl .nil 0 [])]) [(0,.t 4)],none⟩,⟨some 6,.build [(.int .i64 0),(.int .i64 0),(.int .i64 0),(.int .i64 0),(.sl .nil 0 [])] [(0,1,(.k (.int .i64 8))),(4,1,.t 5)],none⟩,⟨none,.store 5 (.t 2) (.t 6),none⟩]) (.ret))⟩
theorem fok_spec_l14Not : FOk Tryz.prog 72 code_spec_l14Not := fok Tryz.func72 (by kernel_rfl)
def code_spec_l14Var : F := ⟨8,[.cell 5 true 4],.seq (.reg [⟨some 4,.alloc [(.int .i64 0),(.int .i64 0),(.int .i64 0),(.int .i64 0),(.sl .nil 0 [])],none⟩]) (.seq (.reg [⟨some 5,.mov (.t 0),none⟩,⟨some 6,.mov (.t 1),none⟩,⟨some 7,.build [(.int .i64 0),(.int .i64 0),(.int .i64 0),(.int .i64 0),(.sl .nil 0 [])] [(0,1,(.k (.int .i64 2))),(1,1,.t 5),(2,1,.t 6)],none⟩,⟨none,.store 5 (.t 4) (.t 7),none⟩]) (.ret))⟩
theorem fok_spec_l14Var : FOk Tryz.prog 69 code_spec_l14Var := fok Tryz.func69 (by kernel_rfl)
def code_spec_l14Next : F := ⟨8,[.cell 5 true 4],.seq (.reg [⟨some 4,.alloc [(.int .i64 0),(.int .i64 0),(.int .i64 0),(.int .i64 0),(.sl .nil 0 [])],none⟩]) (.seq (.reg [⟨some 5,.mov (.t 0),none⟩,⟨some 6,.mov (.t 1),none⟩,⟨some 7,.build [(.int .i64 0),(.int .i64 0),(.int .i64 0),(.int .i64 0),(.sl .nil 0 [])] [(0,1,(.k (.int .i64 5))),(2,1,.t 5),(3,1,.t 6)],none⟩,⟨none,.store 5 (.t 4) (.t 7),none⟩]) (.ret))⟩
theorem fok_spec_l14Next : FOk Tryz.prog 73 code_spec_l14Next := fok Tryz.func73 (by kernel_rfl)
@[simp] def ct_l14Var : Ct := ⟨69, Int × Int, fun _ => True, fun x => [.int .i64 x.1, .int .i64 x.2], fun x => encFm (.mk 2 x.1 x.2 0 [])⟩
theorem ok_l14Var : ct_l14Var.Ok Tryz.prog := by
  rintro ⟨k, u⟩ -
  refine Ok.of_cw fok_spec_l14Var (go_ok tab_nil ?_)
  simp [code_spec_l14Var, List.replicate]
@[simp] def ct_l14Next : Ct := ⟨73, Int × Int, fun _ => True, fun x => [.int .i64 x.1, .int .i64 x.2], fun x => encFm (.mk 5 0 x.1 x.2 [])⟩
theorem ok_l14Next : ct_l14Next.Ok Tryz.prog := by
  rintro ⟨k, u⟩ -
  refine Ok.of_cw fok_spec_l14Next (go_ok tab_nil ?_)
  simp [code_spec_l14Next, List.replicate]
@[simp] def ct_l14Some : Ct := ⟨67, Int × Fm, fun x => x.2.size ≤ 1048576, fun x => [.int .i64 x.1, encFm x.2], fun x => encFm (.mk 11 0 x.1 0 [x.2])⟩
theorem ok_l14Some : ct_l14Some.Ok Tryz.prog := by
  rintro ⟨u, x⟩ h
  change x.size ≤ 1048576 at h
  refine Ok.of_cw fok_spec_l14Some (go_ok (tab_cons ok_copy tab_nil) ?_)
  simp [code_spec_l14Some, List.replicate, h, encF1, encF2, mkF1, mkF2]
@[simp] def ct_l14Not : Ct := ⟨72, Fm, fun x => x.size ≤ 1048576, fun x => [encFm x], fun x => encFm (.mk 8 0 0 0 [x])⟩
theorem ok_l14Not : ct_l14Not.Ok Tryz.prog := by
  rintro x h
  change Fm at x
  change x.size ≤ 1048576 at h
  refine Ok.of_cw fok_spec_l14Not (go_ok (tab_cons ok_copy tab_nil) ?_)
  simp [code_spec_l14Not, List.replicate, h, encF1, encF2, mkF1, mkF2]
@[simp] def ct_l14And : Ct := ⟨68, Fm × Fm, fun x => x.1.size ≤ 1048576 ∧ x.2.size ≤ 1048576, fun x => [encFm x.1, encFm x.2], fun x => encFm (.mk 9 0 0 0 [x.1, x.2])⟩
theorem ok_l14And : ct_l14And.Ok Tryz.prog := by
  rintro ⟨x, y⟩ ⟨h, h'⟩
  change x.size ≤ 1048576 at h
  change y.size ≤ 1048576 at h'
  refine Ok.of_cw fok_spec_l14And (go_ok (tab_cons ok_copy tab_nil) ?_)
  simp [code_spec_l14And, List.replicate, h, h', encF1, encF2, mkF1, mkF2]
def code_spec_ReachFormula : F := ⟨8,[.cell 5 true 2],.seq (.reg [⟨some 2,.alloc [(.int .i64 0),(.int .i64 0),(.int .i64 0),(.int .i64 0),(.sl .nil 0 [])],none⟩]) (.seq (.reg [⟨some 3,.mov (.t 0),none⟩,⟨some 4,.call 69 [.t 3,(.k (.int .i64 1))],none⟩,⟨some 5,.build [(.int .i64 0),(.int .i64 0),(.int .i64 0),(.int .i64 0),(.sl .nil 0 [])] [(0,1,(.k (.int .i64 7))),(2,1,(.k (.int .i64 1)))],none⟩,⟨some 6,.call 68 [.t 4,.t 5],none⟩,⟨some 7,.call 67 [(.k (.int .i64 1)),.t 6],none⟩,⟨none,.store 5 (.t 2) (.t 7),none⟩]) (.ret))⟩
theorem fok_spec_ReachFormula : FOk Tryz.prog 17 code_spec_ReachFormula := fok Tryz.func17 (by kernel_rfl)
def code_spec_SharedFormula : F := ⟨11,[.cell 5 true 0],.seq (.reg [⟨some 0,.alloc [(.int .i64 0),(.int .i64 0),(.int .i64 0),(.int .i64 0),(.sl .nil 0 [])],none⟩]) (.seq (.reg [⟨some 2,.build [(.int .i64 0),(.int .i64 0),(.int .i64 0),(.int .i64 0),(.sl .nil 0 [])] [(0,1,(.k (.int .i64 6))),(2,1,(.k (.int .i64 1))),(3,1,(.k (.int .i64 2)))],none⟩,⟨some 3,.call 72 [.t 2],none⟩,⟨some 1,.alloc [(.int .i64 0),(.int .i64 0),(.int .i64 0),(.int .i64 0),(.sl .nil 0 [])],none⟩,⟨none,.store 5 (.t 1) (.t 3),none⟩]) (.seq (.dreg [false,false,false,false,true,true,true,true] [true,true,true,false,true,true,true,false] [⟨some 4,.call 73 [(.k (.int .i64 1)),(.k (.int .i64 0))],none⟩,⟨some 5,.call 73 [(.k (.int .i64 2)),(.k (.int .i64 0))],none⟩,⟨some 6,.call 68 [.t 4,.t 5],none⟩,⟨some 7,.load 5 true (.t 1),none⟩,⟨some 8,.call 68 [.t 6,.t 7],none⟩,⟨some 9,.call 67 [(.k (.int .i64 2)),.t 8],none⟩,⟨some 10,.call 67 [(.k (.int .i64 1)),.t 9],none⟩,⟨none,.store 5 (.t 0) (.t 10),none⟩]) (.ret)))⟩
theorem fok_spec_SharedFormula : FOk Tryz.prog 19 code_spec_SharedFormula := fok Tryz.func19 (by kernel_rfl)
def reachFm (k : Int) : Fm := .mk 11 0 1 0 [.mk 9 0 0 0 [.mk 2 k 1 0 [], .mk 7 0 1 0 []]]
@[simp] def ct_sReach : Ct := ⟨17, Int, fun _ => True, fun x => [.int .i64 x], fun x => encFm (reachFm x)⟩
theorem ok_sReach : ct_sReach.Ok Tryz.prog := by
  rintro k -
  change Int at k
  refine Ok.of_cw fok_spec_ReachFormula (go_ok (tab_cons ok_l14Var (tab_cons ok_l14And (tab_cons ok_l14Some tab_nil))) ?_)
  simp [code_spec_ReachFormula, List.replicate, reachFm, encF0, size_mk, sizes_cons, sizes_nil]
def sharedFm : Fm := .mk 11 0 1 0 [.mk 11 0 2 0 [.mk 9 0 0 0 [.mk 9 0 0 0 [.mk 5 0 1 0 [], .mk 5 0 2 0 []], .mk 8 0 0 0 [.mk 6 0 1 2 []]]]]
@[simp] def ct_sShared : Ct := ⟨19, Unit, fun _ => True, fun x => [], fun x => encFm sharedFm⟩
theorem ok_sShared : ct_sShared.Ok Tryz.prog := by
  rintro a -
  refine Ok.of_cw fok_spec_SharedFormula (go_ok (tab_cons ok_l14Next (tab_cons ok_l14Some (tab_cons ok_l14And (tab_cons ok_l14Not tab_nil)))) ?_)
  simp [code_spec_SharedFormula, List.replicate, sharedFm, encF0, size_mk, sizes_cons, sizes_nil]
def fin (n : Nat) (x : FV) (H : List Blk) : List Blk := H.set (n + 1) (.cells [.int .i64 x.kind, .int .i64 x.k, .int .i64 x.u, .int .i64 x.v, x.s.av])
def v1 (kind u : Int) (x : FV) (H : List Blk) : FV := ⟨kind, 0, u, 0, .row (H.length + ((boxF H.length x).length + 2)) 0 1 1⟩
def v2 (kind : Int) (x y : FV) (H : List Blk) : FV := ⟨kind, 0, 0, 0, .row (H.length + ((boxF H.length x).length + ((boxF 0 y).length + 2))) 0 2 2⟩
def code_impl_ReachFormula : F := ⟨8,[.cell 5 true 2],.seq (.reg [⟨some 2,.alloc [(.int .i64 0),(.int .i64 0),(.int .i64 0),(.int .i64 0),(.sl .nil 0 [])],none⟩]) (.seq (.reg [⟨some 3,.mov (.t 0),none⟩,⟨some 4,.call 66 [.t 3,(.k (.int .i64 1))],none⟩,⟨some 5,.build [(.int .i64 0),(.int .i64 0),(.int .i64 0),(.int .i64 0),(.sl .nil 0 [])] [(0,1,(.k (.int .i64 7))),(2,1,(.k (.int .i64 1)))],none⟩,⟨some 6,.call 65 [.t 4,.t 5],none⟩,⟨some 7,.call 64 [(.k (.int .i64 1)),.t 6],none⟩,⟨none,.store 5 (.t 2) (.t 7),none⟩]) (.ret))⟩
theorem fok_impl_ReachFormula : FOk Tryz.prog 16 code_impl_ReachFormula := fok Tryz.func16 (by kernel_rfl)
def code_impl_SharedFormula : F := ⟨11,[.cell 5 true 0],.seq (.reg [⟨some 0,.alloc [(.int .i64 0),(.int .i64 0),(.int .i64 0),(.int .i64 0),(.sl .nil 0 [])],none⟩]) (.seq (.reg [⟨some 2,.call 70 [(.k (.int .i64 1)),(.k (.int .i64 0))],none⟩,⟨some 3,.call 70 [(.k (.int .i64 2)),(.k (.int .i64 0))],none⟩,⟨some 4,.call 65 [.t 2,.t 3],none⟩,⟨some 1,.alloc [(.int .i64 0),(.int .i64 0),(.int .i64 0),(.int .i64 0),(.sl .nil 0 [])],none⟩,⟨none,.store 5 (.t 1) (.t 4),none⟩]) (.seq (.dreg [false,false,false,true,true,true,true] [false,false,true,true,true,true,false] [⟨some 5,.load 5 true (.t 1),none⟩,⟨some 6,.build [(.int .i64 0),(.int .i64 0),(.int .i64 0),(.int .i64 0),(.sl .nil 0 [])] [(0,1,(.k (.int .i64 6))),(2,1,(.k (.int .i64 1))),(3,1,(.k (.int .i64 2)))],none⟩,⟨some 7,.call 71 [.t 6],none⟩,⟨some 8,.call 65 [.t 5,.t 7],none⟩,⟨some 9,.call 64 [(.k (.int .i64 2)),.t 8],none⟩,⟨some 10,.call 64 [(.k (.int .i64 1)),.t 9],none⟩,⟨none,.store 5 (.t 0) (.t 10),none⟩]) (.ret)))⟩
theorem fok_impl_SharedFormula : FOk Tryz.prog 18 code_impl_SharedFormula := fok Tryz.func18 (by kernel_rfl)
end Go.Vm
namespace Go.Vm
open Go.Proofs
@[simp] def ct_onP : Ct := ⟨66, Int × Int, fun _ => True, fun x => [.int .i64 x.1, .int .i64 x.2], fun x => encFm (.mk 2 x.1 x.2 0 [])⟩
theorem ok_onP : ct_onP.Ok Tryz.prog := by
  rintro ⟨k, u⟩ -
  refine Ok.of_cw fok_impl_on (go_ok tab_nil ?_)
  simp [code_impl_on, List.replicate]
@[simp] def ct_nextP : Ct := ⟨70, Int × Int, fun _ => True, fun x => [.int .i64 x.1, .int .i64 x.2], fun x => encFm (.mk 5 0 x.1 x.2 [])⟩
theorem ok_nextP : ct_nextP.Ok Tryz.prog := by
  rintro ⟨k, u⟩ -
  refine Ok.of_cw fok_impl_next (go_ok tab_nil ?_)
  simp [code_impl_next, List.replicate]
@[simp] def ct_fmSomeP : Ct := ⟨64, Int × Fm, fun _ => True, fun x => [.int .i64 x.1, encFm x.2], fun x => encFm (.mk 11 0 x.1 0 [x.2])⟩
theorem ok_fmSomeP : ct_fmSomeP.Ok Tryz.prog := by
  rintro ⟨u, x⟩ -
  refine Ok.of_cw fok_impl_fmSome (go_ok tab_nil ?_)
  simp [code_impl_fmSome, List.replicate, encF1, encF2, mkF1, mkF2]
  exact encFm_eq x
@[simp] def ct_fmNotP : Ct := ⟨71, Fm, fun _ => True, fun x => [encFm x], fun x => encFm (.mk 8 0 0 0 [x])⟩
theorem ok_fmNotP : ct_fmNotP.Ok Tryz.prog := by
  rintro x -
  change Fm at x
  refine Ok.of_cw fok_impl_fmNot (go_ok tab_nil ?_)
  simp [code_impl_fmNot, List.replicate, encF1, encF2, mkF1, mkF2]
  exact encFm_eq x
@[simp] def ct_fmAndP : Ct := ⟨65, Fm × Fm, fun _ => True, fun x => [encFm x.1, encFm x.2], fun x => encFm (.mk 9 0 0 0 [x.1, x.2])⟩
theorem ok_fmAndP : ct_fmAndP.Ok Tryz.prog := by
  rintro ⟨x, y⟩ -
  refine Ok.of_cw fok_impl_fmAnd (go_ok tab_nil ?_)
  simp [code_impl_fmAnd, List.replicate, encF1, encF2, mkF1, mkF2]
  exact ⟨encFm_eq x, encFm_eq y⟩
@[simp] def ct_pReachP : Ct := ⟨16, Int, fun _ => True, fun x => [.int .i64 x], fun x => encFm (reachFm x)⟩
theorem ok_pReachP : ct_pReachP.Ok Tryz.prog := by
  rintro k -
  change Int at k
  refine Ok.of_cw fok_impl_ReachFormula (go_ok (tab_cons ok_fmSomeP (tab_cons ok_fmAndP (tab_cons ok_onP tab_nil))) ?_)
  simp [code_impl_ReachFormula, List.replicate, reachFm, -encFm_mk, encF0]
  exact encFm_eq _
@[simp] def ct_pSharedP : Ct := ⟨18, Unit, fun _ => True, fun x => [], fun x => encFm sharedFm⟩
theorem ok_pSharedP : ct_pSharedP.Ok Tryz.prog := by
  rintro k -
  refine Ok.of_cw fok_impl_SharedFormula (go_ok (tab_cons ok_fmSomeP (tab_cons ok_fmAndP (tab_cons ok_fmNotP (tab_cons ok_nextP tab_nil)))) ?_)
  simp [code_impl_SharedFormula, List.replicate, sharedFm, -encFm_mk, encF0]
  exact encFm_eq _
end Go.Vm

/- Formulas: the reference's copies and constructors. No condition. -/
import Derived.Test.YtmakeoekklcbdaaTFC
set_option linter.unusedSimpArgs false
set_option linter.unusedVariables false
namespace Go.Vm
open Go.Proofs
theorem encF1 (x : Fm) : encL 5 encFm [x] = .sl .any 5 [encFm x] := (rfl)
theorem encF2 (x y : Fm) : encL 5 encFm [x, y] = .sl .any 5 [encFm x, encFm y] := (rfl)
theorem mkF1 (x : AV) : mksl 5 [x] = .sl .any 5 [x] := (rfl)
theorem mkF2 (x y : AV) : mksl 5 [x, y] = .sl .any 5 [x, y] := (rfl)
theorem encF0 (a b c d : Int) (x : Fm) : (.agg [.int .i64 a, .int .i64 b, .int .i64 c, .int .i64 d, .sl .any 0 []] = encFm x) = (Fm.mk a b c d [] = x) := encFm_agg (l := [])
theorem size_mk (a b c d : Int) (l : List Fm) : (Fm.mk a b c d l).size = 1 + sizes l := by simp [Fm.size]
theorem sizes_cons (x : Fm) (l : List Fm) : sizes (x :: l) = x.size + sizes l := by simp [sizes]
theorem sizes_nil : sizes [] = 0 := by simp [sizes]
theorem size_pos (x : Fm) : 1 ≤ x.size := by rw [size_eq]; omega
@[simp] def ct_copyn (n : Nat) : Ct := ⟨171, Fm, fun x => x.size ≤ n ∧ x.size ≤ 1048576, fun x => [encFm x], fun x => encFm x⟩
set_option maxHeartbeats 1000000 in
set_option maxRecDepth 100000 in
theorem ok_copyn (n : Nat) (ih : (ct_copyn n).Ok Try.prog) : (ct_copyn (n + 1)).Ok Try.prog := by
  rintro ⟨a, b, c, d, xs⟩ ⟨hx, hx2⟩
  change (Fm.mk a b c d xs).size ≤ n + 1 at hx
  change (Fm.mk a b c d xs).size ≤ 1048576 at hx2
  rw [size_eq] at hx hx2
  change 1 + sizes xs ≤ n + 1 at hx
  change 1 + sizes xs ≤ 1048576 at hx2
  have hl := sizes_len xs
  refine Ok.of_cw fok_spec_l10Copy (go_ok tab_nil ?_)
  simp [code_spec_l10Copy, List.replicate]
  refine cw_round (fun (i : Nat) => ⟨slots 33 [(1, .pbox 0 0), (2, .pbox 2 0), (3, .pbox 4 0), (4, .int .i64 i)],
      [.cells [.int .i64 a, .int .i64 b, .int .i64 c, .int .i64 d, encL 5 encFm xs], .nrow, .cells [.int .i64 0, .int .i64 0, .int .i64 0, .int .i64 0, .slref 1 0 0 0], .nrow, .cells [.int .i64 a, .int .i64 b, .int .i64 c, .int .i64 d, .slref 5 0 i i], .row true 57 5 ((xs.take i).map encFm)]⟩)
    (fun i => i ≤ xs.length) (fun i => xs.length - i) 0 (by omega) ?_ ?_
  · refine (weak_row 5 57 5 (by simp)).trans (weak_seal 6 (by omega) (by simp) (by simp [List.replicate]))
  · rintro N hN i hi
    by_cases g : i < xs.length
    · have hw : IntKind.i64.wrap ((i : Int) + 1) = ((i + 1 : Nat) : Int) := by rw [wrap_i64] <;> omega
      have g2 : ¬ xs.length ≤ i := by omega
      have hs := size_mem g
      have hb : (i + 1) * 56 ≤ 140737488355328 := by omega
      have hm : min i xs.length = i := by omega
      refine go_ok (tab_cons ih tab_nil) ?_
      simp [List.replicate, hw, g, g2, hb, hm, app1, take_map3, -List.map_take]
      refine ⟨by omega, by omega, ?_⟩
      refine hN _ (i + 1) _ (by omega) (by omega) (weak_seal 6 (by omega) ?_ ?_)
      · simp [take_map2 encFm g, -List.map_take]
      · simp [List.replicate]
    · have e : i = xs.length := by omega
      subst e
      refine go_ok tab_nil ?_
      simp [List.replicate]
theorem ok_copys : ∀ n, (ct_copyn n).Ok Try.prog
  | 0 => by rintro x ⟨hx, -⟩; have := size_pos x; have hx : x.size ≤ 0 := hx; omega
  | n + 1 => ok_copyn n (ok_copys n)
@[simp] def ct_copy : Ct := ⟨171, Fm, fun x => x.size ≤ 1048576, fun x => [encFm x], fun x => encFm x⟩
theorem ok_copy : ct_copy.Ok Try.prog := fun x h => ok_copys 1048576 x ⟨h, h⟩
def code_spec_l14Some : F := ⟨10, [.cell 5 true 4],
 .seq (.reg [⟨some 3, .box (.t 1), none⟩,
    ⟨some 4, .alloc [(.int .i64 0), (.int .i64 0), (.int .i64 0), (.int .i64 0), (.sl .nil 0 [])], none⟩])
 (.seq (.reg [⟨some 5, .mov (.t 0), none⟩,
     ⟨some 6, .load 5 true (.t 3), none⟩,
     ⟨some 7, .call 171 [(.t 6)], none⟩,
     ⟨some 8, .bsl 57 5 1 (.agg [(.int .i64 0), (.int .i64 0), (.int .i64 0), (.int .i64 0), (.sl .nil 0 [])]) [(0, (.t 7))], none⟩,
     ⟨some 9, .build [(.int .i64 0), (.int .i64 0), (.int .i64 0), (.int .i64 0), (.sl .nil 0 [])] [(0, 1, (.k (.int .i64 11))), (2, 1, (.t 5)), (4, 1, (.t 8))], none⟩,
     ⟨none, .store 5 (.t 4) (.t 9), none⟩])
  (.ret))⟩
theorem fok_spec_l14Some : FOk Try.prog 179 code_spec_l14Some := fok Try.func179 (by kernel_rfl)
def code_spec_l14And : F := ⟨11, [.cell 5 true 4],
 .seq (.reg [⟨some 2, .box (.t 0), none⟩,
    ⟨some 3, .box (.t 1), none⟩,
    ⟨some 4, .alloc [(.int .i64 0), (.int .i64 0), (.int .i64 0), (.int .i64 0), (.sl .nil 0 [])], none⟩])
 (.seq (.dreg [false, false, false, true, true, true, true] [false, true, false, true, false, false, false] [⟨some 5, .load 5 true (.t 2), none⟩,
     ⟨some 6, .call 171 [(.t 5)], none⟩,
     ⟨some 7, .load 5 true (.t 3), none⟩,
     ⟨some 8, .call 171 [(.t 7)], none⟩,
     ⟨some 9, .bsl 57 5 2 (.agg [(.int .i64 0), (.int .i64 0), (.int .i64 0), (.int .i64 0), (.sl .nil 0 [])]) [(0, (.t 6)), (1, (.t 8))], none⟩,
     ⟨some 10, .build [(.int .i64 0), (.int .i64 0), (.int .i64 0), (.int .i64 0), (.sl .nil 0 [])] [(0, 1, (.k (.int .i64 9))), (4, 1, (.t 9))], none⟩,
     ⟨none, .store 5 (.t 4) (.t 10), none⟩])
  (.ret))⟩
theorem fok_spec_l14And : FOk Try.prog 92 code_spec_l14And := fok Try.func92 (by kernel_rfl)
def code_spec_l14Or : F := ⟨11, [.cell 5 true 4],
 .seq (.reg [⟨some 2, .box (.t 0), none⟩,
    ⟨some 3, .box (.t 1), none⟩,
    ⟨some 4, .alloc [(.int .i64 0), (.int .i64 0), (.int .i64 0), (.int .i64 0), (.sl .nil 0 [])], none⟩])
 (.seq (.dreg [false, false, false, true, true, true, true] [false, true, false, true, false, false, false] [⟨some 5, .load 5 true (.t 2), none⟩,
     ⟨some 6, .call 171 [(.t 5)], none⟩,
     ⟨some 7, .load 5 true (.t 3), none⟩,
     ⟨some 8, .call 171 [(.t 7)], none⟩,
     ⟨some 9, .bsl 57 5 2 (.agg [(.int .i64 0), (.int .i64 0), (.int .i64 0), (.int .i64 0), (.sl .nil 0 [])]) [(0, (.t 6)), (1, (.t 8))], none⟩,
     ⟨some 10, .build [(.int .i64 0), (.int .i64 0), (.int .i64 0), (.int .i64 0), (.sl .nil 0 [])] [(0, 1, (.k (.int .i64 10))), (4, 1, (.t 9))], none⟩,
     ⟨none, .store 5 (.t 4) (.t 10), none⟩])
  (.ret))⟩
theorem fok_spec_l14Or : FOk Try.prog 96 code_spec_l14Or := fok Try.func96 (by kernel_rfl)
def code_spec_l14Not : F := ⟨7, [.cell 5 true 2],
 .seq (.reg [⟨some 1, .box (.t 0), none⟩,
    ⟨some 2, .alloc [(.int .i64 0), (.int .i64 0), (.int .i64 0), (.int .i64 0), (.sl .nil 0 [])], none⟩])
 (.seq (.reg [⟨some 3, .load 5 true (.t 1), none⟩,
     ⟨some 4, .call 171 [(.t 3)], none⟩,
     ⟨some 5, .bsl 57 5 1 (.agg [(.int .i64 0), (.int .i64 0), (.int .i64 0), (.int .i64 0), (.sl .nil 0 [])]) [(0, (.t 4))], none⟩,
     ⟨some 6, .build [(.int .i64 0), (.int .i64 0), (.int .i64 0), (.int .i64 0), (.sl .nil 0 [])] [(0, 1, (.k (.int .i64 8))), (4, 1, (.t 5))], none⟩,
     ⟨none, .store 5 (.t 2) (.t 6), none⟩])
  (.ret))⟩
theorem fok_spec_l14Not : FOk Try.prog 94 code_spec_l14Not := fok Try.func94 (by kernel_rfl)
def code_spec_l14Var : F := ⟨8, [.cell 5 true 4],
 .seq (.reg [⟨some 4, .alloc [(.int .i64 0), (.int .i64 0), (.int .i64 0), (.int .i64 0), (.sl .nil 0 [])], none⟩])
 (.seq (.reg [⟨some 5, .mov (.t 0), none⟩,
     ⟨some 6, .mov (.t 1), none⟩,
     ⟨some 7, .build [(.int .i64 0), (.int .i64 0), (.int .i64 0), (.int .i64 0), (.sl .nil 0 [])] [(0, 1, (.k (.int .i64 2))), (1, 1, (.t 5)), (2, 1, (.t 6))], none⟩,
     ⟨none, .store 5 (.t 4) (.t 7), none⟩])
  (.ret))⟩
theorem fok_spec_l14Var : FOk Try.prog 95 code_spec_l14Var := fok Try.func95 (by kernel_rfl)
def code_spec_l14Reach : F := ⟨8, [.cell 5 true 4],
 .seq (.reg [⟨some 4, .alloc [(.int .i64 0), (.int .i64 0), (.int .i64 0), (.int .i64 0), (.sl .nil 0 [])], none⟩])
 (.seq (.reg [⟨some 5, .mov (.t 0), none⟩,
     ⟨some 6, .mov (.t 1), none⟩,
     ⟨some 7, .build [(.int .i64 0), (.int .i64 0), (.int .i64 0), (.int .i64 0), (.sl .nil 0 [])] [(0, 1, (.k (.int .i64 3))), (1, 1, (.t 5)), (2, 1, (.t 6))], none⟩,
     ⟨none, .store 5 (.t 4) (.t 7), none⟩])
  (.ret))⟩
theorem fok_spec_l14Reach : FOk Try.prog 178 code_spec_l14Reach := fok Try.func178 (by kernel_rfl)
def code_spec_l14Next : F := ⟨8, [.cell 5 true 4],
 .seq (.reg [⟨some 4, .alloc [(.int .i64 0), (.int .i64 0), (.int .i64 0), (.int .i64 0), (.sl .nil 0 [])], none⟩])
 (.seq (.reg [⟨some 5, .mov (.t 0), none⟩,
     ⟨some 6, .mov (.t 1), none⟩,
     ⟨some 7, .build [(.int .i64 0), (.int .i64 0), (.int .i64 0), (.int .i64 0), (.sl .nil 0 [])] [(0, 1, (.k (.int .i64 5))), (2, 1, (.t 5)), (3, 1, (.t 6))], none⟩,
     ⟨none, .store 5 (.t 4) (.t 7), none⟩])
  (.ret))⟩
theorem fok_spec_l14Next : FOk Try.prog 93 code_spec_l14Next := fok Try.func93 (by kernel_rfl)
def code_spec_l21Shared : F := ⟨5, [.cell 5 true 2],
 .seq (.reg [⟨some 2, .alloc [(.int .i64 0), (.int .i64 0), (.int .i64 0), (.int .i64 0), (.sl .nil 0 [])], none⟩])
 (.seq (.reg [⟨some 3, .mov (.t 0), none⟩,
     ⟨some 4, .build [(.int .i64 0), (.int .i64 0), (.int .i64 0), (.int .i64 0), (.sl .nil 0 [])] [(0, 1, (.k (.int .i64 4))), (2, 1, (.t 3))], none⟩,
     ⟨none, .store 5 (.t 2) (.t 4), none⟩])
  (.ret))⟩
theorem fok_spec_l21Shared : FOk Try.prog 182 code_spec_l21Shared := fok Try.func182 (by kernel_rfl)
@[simp] def ct_l14Var : Ct := ⟨95, Int × Int, fun _ => True, fun x => [.int .i64 x.1, .int .i64 x.2], fun x => encFm (.mk 2 x.1 x.2 0 [])⟩
theorem ok_l14Var : ct_l14Var.Ok Try.prog := by
  rintro ⟨k, u⟩ -
  refine Ok.of_cw fok_spec_l14Var (go_ok tab_nil ?_)
  simp [code_spec_l14Var, List.replicate]
@[simp] def ct_l14Reach : Ct := ⟨178, Int × Int, fun _ => True, fun x => [.int .i64 x.1, .int .i64 x.2], fun x => encFm (.mk 3 x.1 x.2 0 [])⟩
theorem ok_l14Reach : ct_l14Reach.Ok Try.prog := by
  rintro ⟨k, u⟩ -
  refine Ok.of_cw fok_spec_l14Reach (go_ok tab_nil ?_)
  simp [code_spec_l14Reach, List.replicate]
@[simp] def ct_l14Next : Ct := ⟨93, Int × Int, fun _ => True, fun x => [.int .i64 x.1, .int .i64 x.2], fun x => encFm (.mk 5 0 x.1 x.2 [])⟩
theorem ok_l14Next : ct_l14Next.Ok Try.prog := by
  rintro ⟨k, u⟩ -
  refine Ok.of_cw fok_spec_l14Next (go_ok tab_nil ?_)
  simp [code_spec_l14Next, List.replicate]
@[simp] def ct_l21Shared : Ct := ⟨182, Int, fun _ => True, fun x => [.int .i64 x], fun x => encFm (.mk 4 0 x 0 [])⟩
theorem ok_l21Shared : ct_l21Shared.Ok Try.prog := by
  rintro u -
  change Int at u
  refine Ok.of_cw fok_spec_l21Shared (go_ok tab_nil ?_)
  simp [code_spec_l21Shared, List.replicate]
@[simp] def ct_l14Some : Ct := ⟨179, Int × Fm, fun x => x.2.size ≤ 1048576, fun x => [.int .i64 x.1, encFm x.2], fun x => encFm (.mk 11 0 x.1 0 [x.2])⟩
theorem ok_l14Some : ct_l14Some.Ok Try.prog := by
  rintro ⟨u, x⟩ h
  change x.size ≤ 1048576 at h
  refine Ok.of_cw fok_spec_l14Some (go_ok (tab_cons ok_copy tab_nil) ?_)
  simp [code_spec_l14Some, List.replicate, h, encF1, encF2, mkF1, mkF2]
@[simp] def ct_l14Not : Ct := ⟨94, Fm, fun x => x.size ≤ 1048576, fun x => [encFm x], fun x => encFm (.mk 8 0 0 0 [x])⟩
theorem ok_l14Not : ct_l14Not.Ok Try.prog := by
  rintro x h
  change Fm at x
  change x.size ≤ 1048576 at h
  refine Ok.of_cw fok_spec_l14Not (go_ok (tab_cons ok_copy tab_nil) ?_)
  simp [code_spec_l14Not, List.replicate, h, encF1, encF2, mkF1, mkF2]
@[simp] def ct_l14And : Ct := ⟨92, Fm × Fm, fun x => x.1.size ≤ 1048576 ∧ x.2.size ≤ 1048576, fun x => [encFm x.1, encFm x.2], fun x => encFm (.mk 9 0 0 0 [x.1, x.2])⟩
theorem ok_l14And : ct_l14And.Ok Try.prog := by
  rintro ⟨x, y⟩ ⟨h, h'⟩
  change x.size ≤ 1048576 at h
  change y.size ≤ 1048576 at h'
  refine Ok.of_cw fok_spec_l14And (go_ok (tab_cons ok_copy tab_nil) ?_)
  simp [code_spec_l14And, List.replicate, h, h', encF1, encF2, mkF1, mkF2]
@[simp] def ct_l14Or : Ct := ⟨96, Fm × Fm, fun x => x.1.size ≤ 1048576 ∧ x.2.size ≤ 1048576, fun x => [encFm x.1, encFm x.2], fun x => encFm (.mk 10 0 0 0 [x.1, x.2])⟩
theorem ok_l14Or : ct_l14Or.Ok Try.prog := by
  rintro ⟨x, y⟩ ⟨h, h'⟩
  change x.size ≤ 1048576 at h
  change y.size ≤ 1048576 at h'
  refine Ok.of_cw fok_spec_l14Or (go_ok (tab_cons ok_copy tab_nil) ?_)
  simp [code_spec_l14Or, List.replicate, h, h', encF1, encF2, mkF1, mkF2]
def code_spec_ReachFormula : F := ⟨8, [.cell 5 true 2],
 .seq (.reg [⟨some 2, .alloc [(.int .i64 0), (.int .i64 0), (.int .i64 0), (.int .i64 0), (.sl .nil 0 [])], none⟩])
 (.seq (.reg [⟨some 3, .mov (.t 0), none⟩,
     ⟨some 4, .call 95 [(.t 3), (.k (.int .i64 1))], none⟩,
     ⟨some 5, .build [(.int .i64 0), (.int .i64 0), (.int .i64 0), (.int .i64 0), (.sl .nil 0 [])] [(0, 1, (.k (.int .i64 7))), (2, 1, (.k (.int .i64 1)))], none⟩,
     ⟨some 6, .call 92 [(.t 4), (.t 5)], none⟩,
     ⟨some 7, .call 179 [(.k (.int .i64 1)), (.t 6)], none⟩,
     ⟨none, .store 5 (.t 2) (.t 7), none⟩])
  (.ret))⟩
theorem fok_spec_ReachFormula : FOk Try.prog 195 code_spec_ReachFormula := fok Try.func195 (by kernel_rfl)
def code_spec_SharedFormula : F := ⟨11, [.cell 5 true 0],
 .seq (.reg [⟨some 0, .alloc [(.int .i64 0), (.int .i64 0), (.int .i64 0), (.int .i64 0), (.sl .nil 0 [])], none⟩])
 (.seq (.reg [⟨some 2, .build [(.int .i64 0), (.int .i64 0), (.int .i64 0), (.int .i64 0), (.sl .nil 0 [])] [(0, 1, (.k (.int .i64 6))), (2, 1, (.k (.int .i64 1))), (3, 1, (.k (.int .i64 2)))], none⟩,
     ⟨some 3, .call 94 [(.t 2)], none⟩,
     ⟨some 1, .alloc [(.int .i64 0), (.int .i64 0), (.int .i64 0), (.int .i64 0), (.sl .nil 0 [])], none⟩,
     ⟨none, .store 5 (.t 1) (.t 3), none⟩])
  (.seq (.dreg [false, false, false, false, true, true, true, true] [true, true, true, false, true, true, true, false] [⟨some 4, .call 93 [(.k (.int .i64 1)), (.k (.int .i64 0))], none⟩,
      ⟨some 5, .call 93 [(.k (.int .i64 2)), (.k (.int .i64 0))], none⟩,
      ⟨some 6, .call 92 [(.t 4), (.t 5)], none⟩,
      ⟨some 7, .load 5 true (.t 1), none⟩,
      ⟨some 8, .call 92 [(.t 6), (.t 7)], none⟩,
      ⟨some 9, .call 179 [(.k (.int .i64 2)), (.t 8)], none⟩,
      ⟨some 10, .call 179 [(.k (.int .i64 1)), (.t 9)], none⟩,
      ⟨none, .store 5 (.t 0) (.t 10), none⟩])
   (.ret)))⟩
theorem fok_spec_SharedFormula : FOk Try.prog 196 code_spec_SharedFormula := fok Try.func196 (by kernel_rfl)
def reachFm (k : Int) : Fm := .mk 11 0 1 0 [.mk 9 0 0 0 [.mk 2 k 1 0 [], .mk 7 0 1 0 []]]
@[simp] def ct_sReach : Ct := ⟨195, Int, fun _ => True, fun x => [.int .i64 x], fun x => encFm (reachFm x)⟩
theorem ok_sReach : ct_sReach.Ok Try.prog := by
  rintro k -
  change Int at k
  refine Ok.of_cw fok_spec_ReachFormula (go_ok (tab_cons ok_l14Var (tab_cons ok_l14And (tab_cons ok_l14Some tab_nil))) ?_)
  simp [code_spec_ReachFormula, List.replicate, reachFm, encF0, size_mk, sizes_cons, sizes_nil]
def unsharedT : Fm := .mk 12 0 0 0 [.mk 8 0 0 0 [.mk 4 0 0 0 []]]
def separateT (a b : Int) : Fm := .mk 12 0 0 0 [.mk 8 0 0 0 [.mk 9 0 0 0 [.mk 3 a 0 0 [], .mk 3 b 0 0 []]]]
def listT (a : Int) : Fm := .mk 12 0 0 0 [.mk 10 0 0 0 [.mk 8 0 0 0 [.mk 3 a 0 0 []], .mk 8 0 0 0 [.mk 4 0 0 0 []]]]
def sharedFm : Fm := .mk 11 0 1 0 [.mk 11 0 2 0 [.mk 9 0 0 0 [.mk 9 0 0 0 [.mk 5 0 1 0 [], .mk 5 0 2 0 []], .mk 8 0 0 0 [.mk 6 0 1 2 []]]]]
@[simp] def ct_sShared : Ct := ⟨196, Unit, fun _ => True, fun x => [], fun x => encFm sharedFm⟩
theorem ok_sShared : ct_sShared.Ok Try.prog := by
  rintro a -
  refine Ok.of_cw fok_spec_SharedFormula (go_ok (tab_cons ok_l14Next (tab_cons ok_l14Some (tab_cons ok_l14And (tab_cons ok_l14Not tab_nil)))) ?_)
  simp [code_spec_SharedFormula, List.replicate, sharedFm, encF0, size_mk, sizes_cons, sizes_nil]
/-! ### the program's -/
def fA (H : List Blk) : List Blk := H ++ [.nrow, .cells [.int .i64 0, .int .i64 0, .int .i64 0, .int .i64 0, .slref H.length 0 0 0]]
def fin (n : Nat) (x : FV) (H : List Blk) : List Blk := H.set (n + 1) (.cells [.int .i64 x.kind, .int .i64 x.k, .int .i64 x.u, .int .i64 x.v, x.s.av])
def v1 (kind u : Int) (x : FV) (H : List Blk) : FV := ⟨kind, 0, u, 0, .row (H.length + ((boxF H.length x).length + 2)) 0 1 1⟩
def v2 (kind : Int) (x y : FV) (H : List Blk) : FV := ⟨kind, 0, 0, 0, .row (H.length + ((boxF H.length x).length + ((boxF 0 y).length + 2))) 0 2 2⟩
def done1 (n : Nat) (x : FV) (H : List Blk) : AV × List Blk := (x.av, fin n x H)
def pReach (k : Int) (H : List Blk) : AV × List Blk :=
  let H1 := fA H
  let x := v2 9 ⟨2, k, 1, 0, .any⟩ ⟨7, 0, 1, 0, .nil⟩ H1
  let H2 := mk2 9 ⟨2, k, 1, 0, .any⟩ ⟨7, 0, 1, 0, .nil⟩ H1
  done1 H.length (v1 11 1 x H2) (mk1 11 1 x H2)
def code_impl_ReachFormula : F := ⟨8, [.cell 5 true 2],
 .seq (.reg [⟨some 2, .alloc [(.int .i64 0), (.int .i64 0), (.int .i64 0), (.int .i64 0), (.sl .nil 0 [])], none⟩])
 (.seq (.reg [⟨some 3, .mov (.t 0), none⟩,
     ⟨some 4, .call 102 [(.t 3), (.k (.int .i64 1))], none⟩,
     ⟨some 5, .build [(.int .i64 0), (.int .i64 0), (.int .i64 0), (.int .i64 0), (.sl .nil 0 [])] [(0, 1, (.k (.int .i64 7))), (2, 1, (.k (.int .i64 1)))], none⟩,
     ⟨some 6, .call 99 [(.t 4), (.t 5)], none⟩,
     ⟨some 7, .call 184 [(.k (.int .i64 1)), (.t 6)], none⟩,
     ⟨none, .store 5 (.t 2) (.t 7), none⟩])
  (.ret))⟩
theorem fok_impl_ReachFormula : FOk Try.prog 200 code_impl_ReachFormula := fok Try.func200 (by kernel_rfl)
def code_impl_SharedFormula : F := ⟨11, [.cell 5 true 0],
 .seq (.reg [⟨some 0, .alloc [(.int .i64 0), (.int .i64 0), (.int .i64 0), (.int .i64 0), (.sl .nil 0 [])], none⟩])
 (.seq (.reg [⟨some 2, .call 100 [(.k (.int .i64 1)), (.k (.int .i64 0))], none⟩,
     ⟨some 3, .call 100 [(.k (.int .i64 2)), (.k (.int .i64 0))], none⟩,
     ⟨some 4, .call 99 [(.t 2), (.t 3)], none⟩,
     ⟨some 1, .alloc [(.int .i64 0), (.int .i64 0), (.int .i64 0), (.int .i64 0), (.sl .nil 0 [])], none⟩,
     ⟨none, .store 5 (.t 1) (.t 4), none⟩])
  (.seq (.dreg [false, false, false, true, true, true, true] [false, false, true, true, true, true, false] [⟨some 5, .load 5 true (.t 1), none⟩,
      ⟨some 6, .build [(.int .i64 0), (.int .i64 0), (.int .i64 0), (.int .i64 0), (.sl .nil 0 [])] [(0, 1, (.k (.int .i64 6))), (2, 1, (.k (.int .i64 1))), (3, 1, (.k (.int .i64 2)))], none⟩,
      ⟨some 7, .call 101 [(.t 6)], none⟩,
      ⟨some 8, .call 99 [(.t 5), (.t 7)], none⟩,
      ⟨some 9, .call 184 [(.k (.int .i64 2)), (.t 8)], none⟩,
      ⟨some 10, .call 184 [(.k (.int .i64 1)), (.t 9)], none⟩,
      ⟨none, .store 5 (.t 0) (.t 10), none⟩])
   (.ret)))⟩
theorem fok_impl_SharedFormula : FOk Try.prog 201 code_impl_SharedFormula := fok Try.func201 (by kernel_rfl)
@[simp] def ct_pReach : CtH := ⟨200, Int, fun _ _ => True, fun x => [.int .i64 x], fun x H => (pReach x H).1, fun x H => (pReach x H).2⟩
set_option maxHeartbeats 1000000 in
set_option maxRecDepth 100000 in
theorem ok_pReach : ct_pReach.Ok Try.prog := by
  rintro k H -
  change Int at k
  refine OkH.of_cw' fok_impl_ReachFormula (go_ok (tab_h ok_fmSome (tab_h ok_fmAnd (tab_cons ok_on tab_nil))) ?_)
  simp [code_impl_ReachFormula, List.replicate, retH, r1, r2, mk1, mk2, v1, v2, fA, fin, done1, pReach, av_nil, av_any, av_row, FV.av_mk, boxF_nil, boxF_any, boxF_row, inF_nil, inF_any, inF_row, getHk, getH0, setHk, setH0, Nat.add_assoc]
def pUnshared (H : List Blk) : AV × List Blk :=
  let H1 := fA H
  let x := v1 8 0 ⟨4, 0, 0, 0, .any⟩ H1
  let H2 := mk1 8 0 ⟨4, 0, 0, 0, .any⟩ H1
  done1 H.length (v1 12 0 x H2) (mk1 12 0 x H2)
def pSeparate (a b : Int) (H : List Blk) : AV × List Blk :=
  let H1 := fA H
  let x := v2 9 ⟨3, a, 0, 0, .any⟩ ⟨3, b, 0, 0, .any⟩ H1
  let H2 := mk2 9 ⟨3, a, 0, 0, .any⟩ ⟨3, b, 0, 0, .any⟩ H1
  let y := v1 8 0 x H2
  let H3 := mk1 8 0 x H2
  done1 H.length (v1 12 0 y H3) (mk1 12 0 y H3)
def pList (a : Int) (H : List Blk) : AV × List Blk :=
  let H1 := fA H
  let x := v1 8 0 ⟨3, a, 0, 0, .any⟩ H1
  let H2 := mk1 8 0 ⟨3, a, 0, 0, .any⟩ H1
  let y := v1 8 0 ⟨4, 0, 0, 0, .any⟩ H2
  let H3 := mk1 8 0 ⟨4, 0, 0, 0, .any⟩ H2
  let z := v2 10 x y H3
  let H4 := mk2 10 x y H3
  done1 H.length (v1 12 0 z H4) (mk1 12 0 z H4)
def pShared (H : List Blk) : AV × List Blk :=
  let H1 := fA H
  let b := v2 9 ⟨5, 0, 1, 0, .any⟩ ⟨5, 0, 2, 0, .any⟩ H1
  let H2 := mk2 9 ⟨5, 0, 1, 0, .any⟩ ⟨5, 0, 2, 0, .any⟩ H1
  let H4 := fin H2.length b (fA H2)
  let n := v1 8 0 ⟨6, 0, 1, 2, .nil⟩ H4
  let H5 := mk1 8 0 ⟨6, 0, 1, 2, .nil⟩ H4
  let a := v2 9 b n H5
  let H6 := mk2 9 b n H5
  let c := v1 11 2 a H6
  let H7 := mk1 11 2 a H6
  done1 H.length (v1 11 1 c H7) (mk1 11 1 c H7)
@[simp] def ct_pShared : CtH := ⟨201, Unit, fun _ _ => True, fun _ => [], fun _ H => (pShared H).1, fun _ H => (pShared H).2⟩
set_option maxHeartbeats 4000000 in
set_option maxRecDepth 100000 in
theorem ok_pShared : ct_pShared.Ok Try.prog := by
  rintro k H -
  refine OkH.of_cw' fok_impl_SharedFormula (go_ok (tab_h ok_fmNot (tab_h ok_fmAnd (tab_h ok_fmSome (tab_cons ok_next tab_nil)))) ?_)
  simp [code_impl_SharedFormula, List.replicate, retH, r1, r2, mk1, mk2, v1, v2, fA, fin, done1, pShared, av_nil, av_any, av_row, FV.av_mk, boxF_nil, boxF_any, boxF_row, inF_nil, inF_any, inF_row, getHk, getH0, setHk, setH0, Nat.add_assoc, needs1, isH]
end Go.Vm

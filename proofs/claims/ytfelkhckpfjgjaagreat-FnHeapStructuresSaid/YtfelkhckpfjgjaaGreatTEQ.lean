/- Formulas: the program's constructors, told without blocks. No condition. -/
import Derived.Test.YtfelkhckpfjgjaaGreatTFL
import Derived.Test.YtfelkhckpfjgjaaGreatTSL
set_option linter.unusedSimpArgs false
set_option linter.unusedVariables false
namespace Go.Vm
open Go.Proofs
@[simp] def ct_onP : Ct := ⟨66, Int × Int, fun _ => True, fun x => [.int .i64 x.1, .int .i64 x.2], fun x => encFm (.mk 2 x.1 x.2 0 [])⟩
theorem ok_onP : ct_onP.Ok Tryz.prog := by
  rintro ⟨k, u⟩ -
  refine Ok.of_cw fok_impl_on (go_ok tab_nil ?_)
  simp [code_impl_on, List.replicate]
@[simp] def ct_nextP : Ct := ⟨70, Int × Int, fun _ => True, fun x => [.int .i64 x.1, .int .i64 x.2], fun x => encFm (.mk 5 0 x.1 x.2 [])⟩
theorem ok_nextP : ct_nextP.Ok Tryz.prog := by
  rintro ⟨k, u⟩ -
  refine Ok.of_cw fok_impl_next (go_ok tab_nil ?_)
  simp [code_impl_next, List.replicate]
@[simp] def ct_fmSomeP : Ct := ⟨64, Int × Fm, fun _ => True, fun x => [.int .i64 x.1, encFm x.2], fun x => encFm (.mk 11 0 x.1 0 [x.2])⟩
theorem ok_fmSomeP : ct_fmSomeP.Ok Tryz.prog := by
  rintro ⟨u, x⟩ -
  refine Ok.of_cw fok_impl_fmSome (go_ok tab_nil ?_)
  simp [code_impl_fmSome, List.replicate, encF1, encF2, mkF1, mkF2]
  exact encFm_eq x
@[simp] def ct_fmNotP : Ct := ⟨71, Fm, fun _ => True, fun x => [encFm x], fun x => encFm (.mk 8 0 0 0 [x])⟩
theorem ok_fmNotP : ct_fmNotP.Ok Tryz.prog := by
  rintro x -
  change Fm at x
  refine Ok.of_cw fok_impl_fmNot (go_ok tab_nil ?_)
  simp [code_impl_fmNot, List.replicate, encF1, encF2, mkF1, mkF2]
  exact encFm_eq x
@[simp] def ct_fmAndP : Ct := ⟨65, Fm × Fm, fun _ => True, fun x => [encFm x.1, encFm x.2], fun x => encFm (.mk 9 0 0 0 [x.1, x.2])⟩
theorem ok_fmAndP : ct_fmAndP.Ok Tryz.prog := by
  rintro ⟨x, y⟩ -
  refine Ok.of_cw fok_impl_fmAnd (go_ok tab_nil ?_)
  simp [code_impl_fmAnd, List.replicate, encF1, encF2, mkF1, mkF2]
  exact ⟨encFm_eq x, encFm_eq y⟩
@[simp] def ct_pReachP : Ct := ⟨16, Int, fun _ => True, fun x => [.int .i64 x], fun x => encFm (reachFm x)⟩
theorem ok_pReachP : ct_pReachP.Ok Tryz.prog := by
  rintro k -
  change Int at k
  refine Ok.of_cw fok_impl_ReachFormula (go_ok (tab_cons ok_fmSomeP (tab_cons ok_fmAndP (tab_cons ok_onP tab_nil))) ?_)
  simp [code_impl_ReachFormula, List.replicate, reachFm, -encFm_mk, encF0]
  exact encFm_eq _
@[simp] def ct_pSharedP : Ct := ⟨18, Unit, fun _ => True, fun x => [], fun x => encFm sharedFm⟩
theorem ok_pSharedP : ct_pSharedP.Ok Tryz.prog := by
  rintro k -
  refine Ok.of_cw fok_impl_SharedFormula (go_ok (tab_cons ok_fmSomeP (tab_cons ok_fmAndP (tab_cons ok_fmNotP (tab_cons ok_nextP tab_nil)))) ?_)
  simp [code_impl_SharedFormula, List.replicate, sharedFm, -encFm_mk, encF0]
  exact encFm_eq _
end Go.Vm

namespace Go.Vm
open Go.Proofs
def code_spec_l7Same : F := ⟨26, [.tmp 4],
 .seq (.reg [⟨some 4, .mov (.k (.bool false)), none⟩])
 (.seq (.seq (.reg [⟨some 6, .mov (.t 0), none⟩,
      ⟨some 7, .len (.t 6), none⟩,
      ⟨some 8, .mov (.t 1), none⟩,
      ⟨some 9, .len (.t 8), none⟩,
      ⟨some 10, .bin .neq (.t 7) (.t 9), none⟩])
   (.cond (.t 10)
    (.seq (.reg [⟨some 4, .mov (.k (.bool false)), none⟩])
     (.ret))
    (.skip)))
  (.seq (.seq (.reg [⟨some 5, .mov (.k (.int .i64 0)), none⟩])
    (.block 0 (.loop (.seq (.seq (.reg [⟨some 11, .mov (.t 5), none⟩,
           ⟨some 12, .mov (.t 0), none⟩,
           ⟨some 13, .len (.t 12), none⟩,
           ⟨some 14, .bin .lss (.t 11) (.t 13), none⟩])
        (.cond (.t 14)
         (.skip)
         (.exit 0)))
       (.seq (.block 1 (.seq (.dreg [false, false, false, false, false, false, false, false, true] [false, false, false, false, false, false, false, false, false] [⟨some 17, .mov (.t 0), none⟩,
             ⟨some 18, .mov (.t 5), none⟩,
             ⟨some 19, .iaddr 1 (.t 17) (.t 18), none⟩,
             ⟨some 20, .load 1 false (.t 19), none⟩,
             ⟨some 21, .mov (.t 1), none⟩,
             ⟨some 22, .mov (.t 5), none⟩,
             ⟨some 23, .iaddr 1 (.t 21) (.t 22), none⟩,
             ⟨some 24, .load 1 false (.t 23), none⟩,
             ⟨some 25, .bin .neq (.t 20) (.t 24), none⟩])
          (.cond (.t 25)
           (.seq (.reg [⟨some 4, .mov (.k (.bool false)), none⟩])
            (.ret))
           (.skip))))
        (.reg [⟨some 15, .mov (.t 5), none⟩,
           ⟨some 16, .bin .add (.t 15) (.k (.int .i64 1)), none⟩,
           ⟨some 5, .mov (.t 16), none⟩]))))))
   (.seq (.reg [⟨some 4, .mov (.k (.bool true)), none⟩])
    (.ret))))⟩
theorem fok_spec_l7Same : FOk Tryz.prog 56 code_spec_l7Same := fok Tryz.func56 (by kernel_rfl)
def code_spec_l12SameNode : F := ⟨31, [.tmp 4],
 .seq (.reg [⟨some 2, .box (.t 0), none⟩,
    ⟨some 3, .box (.t 1), none⟩,
    ⟨some 4, .mov (.k (.bool false)), none⟩])
 (.seq (.reg [⟨some 5, .faddr 0 (.t 2), none⟩,
     ⟨some 6, .load 1 false (.t 5), none⟩,
     ⟨some 7, .faddr 0 (.t 3), none⟩,
     ⟨some 8, .load 1 false (.t 7), none⟩,
     ⟨some 9, .call 56 [(.t 6), (.t 8)], none⟩,
     ⟨some 10, .mov (.t 9), none⟩,
     ⟨some 11, .faddr 1 (.t 2), some (10, true)⟩,
     ⟨some 12, .load 1 false (.t 11), some (10, true)⟩,
     ⟨some 13, .faddr 1 (.t 3), some (10, true)⟩,
     ⟨some 14, .load 1 false (.t 13), some (10, true)⟩,
     ⟨some 15, .call 56 [(.t 12), (.t 14)], some (10, true)⟩,
     ⟨some 16, .pick (.t 10) (.t 15) (.k (.bool false)), none⟩,
     ⟨some 17, .mov (.t 16), none⟩,
     ⟨some 18, .faddr 2 (.t 2), some (17, true)⟩,
     ⟨some 19, .load 1 false (.t 18), some (17, true)⟩,
     ⟨some 20, .faddr 2 (.t 3), some (17, true)⟩,
     ⟨some 21, .load 1 false (.t 20), some (17, true)⟩,
     ⟨some 22, .bin .eql (.t 19) (.t 21), some (17, true)⟩,
     ⟨some 23, .pick (.t 17) (.t 22) (.k (.bool false)), none⟩,
     ⟨some 24, .mov (.t 23), none⟩,
     ⟨some 25, .faddr 3 (.t 2), some (24, true)⟩,
     ⟨some 26, .load 1 false (.t 25), some (24, true)⟩,
     ⟨some 27, .faddr 3 (.t 3), some (24, true)⟩,
     ⟨some 28, .load 1 false (.t 27), some (24, true)⟩,
     ⟨some 29, .bin .eql (.t 26) (.t 28), some (24, true)⟩,
     ⟨some 30, .pick (.t 24) (.t 29) (.k (.bool false)), none⟩,
     ⟨some 4, .mov (.t 30), none⟩])
  (.ret))⟩
theorem fok_spec_l12SameNode : FOk Tryz.prog 57 code_spec_l12SameNode := fok Tryz.func57 (by kernel_rfl)
def code_spec_EqualStructure : F := ⟨40, [.tmp 4],
 .seq (.reg [⟨some 2, .box (.t 0), none⟩,
    ⟨some 3, .box (.t 1), none⟩,
    ⟨some 4, .mov (.k (.bool false)), none⟩])
 (.seq (.seq (.reg [⟨some 6, .faddr 0 (.t 2), none⟩,
      ⟨some 7, .load 1 false (.t 6), none⟩,
      ⟨some 8, .len (.t 7), none⟩,
      ⟨some 9, .faddr 0 (.t 3), none⟩,
      ⟨some 10, .load 1 false (.t 9), none⟩,
      ⟨some 11, .len (.t 10), none⟩,
      ⟨some 12, .bin .neq (.t 8) (.t 11), none⟩,
      ⟨some 13, .mov (.t 12), none⟩,
      ⟨some 14, .faddr 1 (.t 2), some (13, false)⟩,
      ⟨some 15, .load 1 false (.t 14), some (13, false)⟩,
      ⟨some 16, .faddr 1 (.t 3), some (13, false)⟩,
      ⟨some 17, .load 1 false (.t 16), some (13, false)⟩,
      ⟨some 18, .call 56 [(.t 15), (.t 17)], some (13, false)⟩,
      ⟨some 19, .not (.t 18), some (13, false)⟩,
      ⟨some 20, .pick (.t 13) (.k (.bool true)) (.t 19), none⟩])
   (.cond (.t 20)
    (.seq (.reg [⟨some 4, .mov (.k (.bool false)), none⟩])
     (.ret))
    (.skip)))
  (.seq (.seq (.reg [⟨some 5, .mov (.k (.int .i64 0)), none⟩])
    (.block 0 (.loop (.seq (.seq (.reg [⟨some 21, .mov (.t 5), none⟩,
           ⟨some 22, .faddr 0 (.t 2), none⟩,
           ⟨some 23, .load 1 false (.t 22), none⟩,
           ⟨some 24, .len (.t 23), none⟩,
           ⟨some 25, .bin .lss (.t 21) (.t 24), none⟩])
        (.cond (.t 25)
         (.skip)
         (.exit 0)))
       (.seq (.block 1 (.seq (.dreg [false, false, false, false, false, false, false, false, false, false, true, true] [false, false, false, false, false, false, false, false, false, false, true, false] [⟨some 28, .faddr 0 (.t 2), none⟩,
             ⟨some 29, .load 1 false (.t 28), none⟩,
             ⟨some 30, .mov (.t 5), none⟩,
             ⟨some 31, .iaddr 4 (.t 29) (.t 30), none⟩,
             ⟨some 32, .load 4 true (.t 31), none⟩,
             ⟨some 33, .faddr 0 (.t 3), none⟩,
             ⟨some 34, .load 1 false (.t 33), none⟩,
             ⟨some 35, .mov (.t 5), none⟩,
             ⟨some 36, .iaddr 4 (.t 34) (.t 35), none⟩,
             ⟨some 37, .load 4 true (.t 36), none⟩,
             ⟨some 38, .call 57 [(.t 32), (.t 37)], none⟩,
             ⟨some 39, .not (.t 38), none⟩])
          (.cond (.t 39)
           (.seq (.reg [⟨some 4, .mov (.k (.bool false)), none⟩])
            (.ret))
           (.skip))))
        (.reg [⟨some 26, .mov (.t 5), none⟩,
           ⟨some 27, .bin .add (.t 26) (.k (.int .i64 1)), none⟩,
           ⟨some 5, .mov (.t 27), none⟩]))))))
   (.seq (.reg [⟨some 4, .mov (.k (.bool true)), none⟩])
    (.ret))))⟩
theorem fok_spec_EqualStructure : FOk Tryz.prog 12 code_spec_EqualStructure := fok Tryz.func12 (by kernel_rfl)
@[simp] def ct_l7Same : Ct := ⟨56, List Int × List Int, fun _ => True, fun x => [encL 1 encInt x.1, encL 1 encInt x.2], fun x => .bool (decide (x.1 = x.2))⟩
theorem ok_l7Same : ct_l7Same.Ok Tryz.prog := by
  rintro ⟨xs, ys⟩ -
  refine Ok.lens fun hl => Ok.of_cw fok_spec_l7Same (go_ok tab_nil ?_)
  simp [lensOkL_cons, lensOk_encL] at hl
  simp [code_spec_l7Same, List.replicate]
  refine ⟨fun h => ?_, fun h => ?_⟩
  · intro e; exact absurd (by rw [e]) h
  refine cw_round (fun (p : Nat) => ⟨slots 26 [(0, encL 1 encInt xs), (1, encL 1 encInt ys), (5, .int .i64 p)], []⟩)
    (fun p => p ≤ xs.length ∧ xs.take p = ys.take p) (fun p => xs.length - p) 0 ⟨by omega, by simp⟩ ?_ ?_
  · exact weak_seal 0 (by omega) (by simp) (by simp [List.replicate])
  · rintro N hN i ⟨hi, hn⟩
    have hw : i < xs.length → IntKind.i64.wrap ((i : Int) + 1) = ((i + 1 : Nat) : Int) := fun h => by rw [wrap_i64] <;> omega
    refine go_ok tab_nil ?_
    by_cases g : i < xs.length
    · have g' : i < ys.length := by omega
      have g2 : ¬ xs.length ≤ i := by omega
      simp [List.replicate, hw, g, g', g2]
      refine ⟨fun e => ?_, fun e => ?_⟩
      · intro k; subst k; exact e rfl
      · refine hN _ (i + 1) _ ⟨by omega, ?_⟩ (by omega) (weak_seal 0 (by omega) ?_ ?_)
        · rw [List.take_succ_eq_append_getElem g, List.take_succ_eq_append_getElem g', hn, e]
        · simp
        · simp [List.replicate]
    · have g2 : xs.length ≤ i := by omega
      simp [List.replicate, g, g2]
      rw [List.take_of_length_le (by omega), List.take_of_length_le (by omega)] at hn
      exact hn
@[simp] def ct_l12SameNode : Ct := ⟨57, Node × Node, fun _ => True, fun x => [encNode x.1, encNode x.2], fun x => .bool (decide (x.1 = x.2))⟩
theorem ok_l12SameNode : ct_l12SameNode.Ok Tryz.prog := by
  rintro ⟨⟨a, b, c, d⟩, ⟨a', b', c', d'⟩⟩ -
  refine Ok.of_cw fok_spec_l12SameNode (go_ok (tab_cons ok_l7Same tab_nil) ?_)
  simp [code_spec_l12SameNode, List.replicate]
  grind
@[simp] def ct_spec_EqualStructure : Ct := ⟨12, Strc × Strc, fun _ => True, fun x => [encStrc x.1, encStrc x.2], fun x => .bool (decide (x.1 = x.2))⟩
theorem ok_spec_EqualStructure : ct_spec_EqualStructure.Ok Tryz.prog := by
  rintro ⟨x, y⟩ -
  refine Ok.lens fun hl => Ok.of_cw fok_spec_EqualStructure (go_ok (tab_cons ok_l7Same tab_nil) ?_)
  have hl : lensOkL [encStrc x, encStrc y] := hl
  simp [lensOkL_cons, lensOk_encL, encStrc_eq, lens_agg, lens_int, lens_nil] at hl
  simp [code_spec_EqualStructure, List.replicate]
  refine ⟨fun h => ⟨fun h3 e => h3 (by rw [e]), fun h3 => ?_⟩, fun h e => h (by rw [e])⟩
  have h : x.nodes.length = y.nodes.length := by omega
  refine cw_round (fun (p : Nat) => ⟨slots 40 [(2, .pbox 0 0), (3, .pbox 1 0), (5, .int .i64 p)], [.cells [encL 4 encNode x.nodes, encL 1 encInt x.next], .cells [encL 4 encNode y.nodes, encL 1 encInt y.next]]⟩)
    (fun p => p ≤ x.nodes.length ∧ x.nodes.take p = y.nodes.take p) (fun p => x.nodes.length - p) 0 ⟨by omega, by simp⟩ ?_ ?_
  · exact weak_seal 2 (by omega) (by simp) (by simp [List.replicate])
  · rintro N hN i ⟨hi, hn⟩
    have hw : i < y.nodes.length → IntKind.i64.wrap ((i : Int) + 1) = ((i + 1 : Nat) : Int) := fun h => by rw [wrap_i64] <;> omega
    refine go_ok (tab_cons ok_l12SameNode tab_nil) ?_
    by_cases g : i < x.nodes.length
    · have g' : i < y.nodes.length := by omega
      have g2 : ¬ x.nodes.length ≤ i := by omega
      have g3 : ¬ y.nodes.length ≤ i := by omega
      simp [List.replicate, hw, g, g', g2, g3, h]
      refine ⟨fun e => ?_, fun e => ?_⟩
      · intro k; subst k; exact e rfl
      · refine hN _ (i + 1) _ ⟨by omega, ?_⟩ (by omega) (weak_seal 2 (by omega) ?_ ?_)
        · rw [List.take_succ_eq_append_getElem g, List.take_succ_eq_append_getElem g', hn, e]
        · simp
        · simp [List.replicate, e]
    · have g2 : x.nodes.length ≤ i := by omega
      have g3 : y.nodes.length ≤ i := by omega
      have g4 : ¬ i < y.nodes.length := by omega
      simp [List.replicate, g, g2, g3, g4, h]
      rw [List.take_of_length_le (by omega), List.take_of_length_le (by omega)] at hn
      cases x; cases y
      simp_all
end Go.Vm

/- EqualStructure. No condition. -/
import Derived.Test.YtkclkieeapdeiaaDoorTSL
set_option linter.unusedSimpArgs false
set_option linter.unusedVariables false
namespace Go.Vm
open Go.Proofs
def code_spec_l7Same : F := ⟨26, [.tmp 4],
 .seq (.reg [⟨some 4, .mov (.k (.bool false)), none⟩])
 (.seq (.seq (.reg [⟨some 6, .mov (.t 0), none⟩,
      ⟨some 7, .len (.t 6), none⟩,
      ⟨some 8, .mov (.t 1), none⟩,
      ⟨some 9, .len (.t 8), none⟩,
      ⟨some 10, .bin .neq (.t 7) (.t 9), none⟩])
   (.cond (.t 10)
    (.seq (.reg [⟨some 4, .mov (.k (.bool false)), none⟩])
     (.ret))
    (.skip)))
  (.seq (.seq (.reg [⟨some 5, .mov (.k (.int .i64 0)), none⟩])
    (.block 0 (.loop (.seq (.seq (.reg [⟨some 11, .mov (.t 5), none⟩,
           ⟨some 12, .mov (.t 0), none⟩,
           ⟨some 13, .len (.t 12), none⟩,
           ⟨some 14, .bin .lss (.t 11) (.t 13), none⟩])
        (.cond (.t 14)
         (.skip)
         (.exit 0)))
       (.seq (.block 1 (.seq (.dreg [false, false, false, false, false, false, false, false, true] [false, false, false, false, false, false, false, false, false] [⟨some 17, .mov (.t 0), none⟩,
             ⟨some 18, .mov (.t 5), none⟩,
             ⟨some 19, .iaddr 1 (.t 17) (.t 18), none⟩,
             ⟨some 20, .load 1 false (.t 19), none⟩,
             ⟨some 21, .mov (.t 1), none⟩,
             ⟨some 22, .mov (.t 5), none⟩,
             ⟨some 23, .iaddr 1 (.t 21) (.t 22), none⟩,
             ⟨some 24, .load 1 false (.t 23), none⟩,
             ⟨some 25, .bin .neq (.t 20) (.t 24), none⟩])
          (.cond (.t 25)
           (.seq (.reg [⟨some 4, .mov (.k (.bool false)), none⟩])
            (.ret))
           (.skip))))
        (.reg [⟨some 15, .mov (.t 5), none⟩,
           ⟨some 16, .bin .add (.t 15) (.k (.int .i64 1)), none⟩,
           ⟨some 5, .mov (.t 16), none⟩]))))))
   (.seq (.reg [⟨some 4, .mov (.k (.bool true)), none⟩])
    (.ret))))⟩
theorem fok_spec_l7Same : FOk Tryd.prog 52 code_spec_l7Same := fok Tryd.func52 (by kernel_rfl)
@[simp] def ct_l7Same : Ct := ⟨52, List Int × List Int, fun _ => True, fun x => [encL 1 encInt x.1, encL 1 encInt x.2], fun x => .bool (decide (x.1 = x.2))⟩
theorem ok_l7Same : ct_l7Same.Ok Tryd.prog := by
  rintro ⟨xs, ys⟩ -
  refine Ok.lens fun hl => Ok.of_cw fok_spec_l7Same (go_ok tab_nil ?_)
  simp [lensOkL_cons, lensOk_encL] at hl
  simp [code_spec_l7Same, List.replicate]
  refine ⟨fun h => ?_, fun h => ?_⟩
  · intro e; exact absurd (by rw [e]) h
  refine cw_round (fun (p : Nat) => ⟨slots 26 [(0, encL 1 encInt xs), (1, encL 1 encInt ys), (5, .int .i64 p)], []⟩)
    (fun p => p ≤ xs.length ∧ xs.take p = ys.take p) (fun p => xs.length - p) 0 ⟨by omega, by simp⟩ ?_ ?_
  · exact weak_seal 0 (by omega) (by simp) (by simp [List.replicate])
  · rintro N hN i ⟨hi, hn⟩
    have hw : i < xs.length → IntKind.i64.wrap ((i : Int) + 1) = ((i + 1 : Nat) : Int) := fun h => by rw [wrap_i64] <;> omega
    refine go_ok tab_nil ?_
    by_cases g : i < xs.length
    · have g' : i < ys.length := by omega
      have g2 : ¬ xs.length ≤ i := by omega
      simp [List.replicate, hw, g, g', g2]
      refine ⟨fun e => ?_, fun e => ?_⟩
      · intro k; subst k; exact e rfl
      · refine hN _ (i + 1) _ ⟨by omega, ?_⟩ (by omega) (weak_seal 0 (by omega) ?_ ?_)
        · rw [List.take_succ_eq_append_getElem g, List.take_succ_eq_append_getElem g', hn, e]
        · simp
        · simp [List.replicate]
    · have g2 : xs.length ≤ i := by omega
      simp [List.replicate, g, g2]
      rw [List.take_of_length_le (by omega), List.take_of_length_le (by omega)] at hn
      exact hn
end Go.Vm

/- Truth values and their texts. No condition. -/
import Derived.Test.YtekiceofgkcpfaaDoorTPB
set_option linter.unusedSimpArgs false
set_option linter.unusedVariables false
namespace Go.Vm
open Go.Proofs
def code_spec_IsTruth : F := ⟨5, [.tmp 2],
 .seq (.reg [⟨some 2, .mov (.k (.bool false)), none⟩])
 (.seq (.reg [⟨some 3, .mov (.t 0), none⟩,
     ⟨some 4, .call 70 [(.t 3), (.k (.int .i64 0)), (.k (.int .i64 2))], none⟩,
     ⟨some 2, .mov (.t 4), none⟩])
  (.ret))⟩
theorem fok_spec_IsTruth : FOk Tryd.prog 102 code_spec_IsTruth := fok Tryd.func102 (by kernel_rfl)
def code_impl_IsTruth : F := ⟨5, [.tmp 2],
 .seq (.reg [⟨some 2, .mov (.k (.bool false)), none⟩])
 (.seq (.reg [⟨some 3, .mov (.t 0), none⟩,
     ⟨some 4, .call 68 [(.t 3), (.k (.int .i64 0)), (.k (.int .i64 2))], none⟩,
     ⟨some 2, .mov (.t 4), none⟩])
  (.ret))⟩
theorem fok_impl_IsTruth : FOk Tryd.prog 110 code_impl_IsTruth := fok Tryd.func110 (by kernel_rfl)
def code_spec_TruthText : F := ⟨10, [.tmp 2],
 .seq (.reg [⟨some 2, .mov (.k (.str [])), none⟩])
 (.seq (.seq (.reg [⟨some 3, .mov (.t 0), none⟩,
      ⟨some 4, .call 102 [(.t 3)], none⟩,
      ⟨some 5, .not (.t 4), none⟩])
   (.cond (.t 5)
    (.seq (.reg [⟨some 2, .mov (.k (.str [])), none⟩])
     (.ret))
    (.skip)))
  (.seq (.reg [⟨some 6, .mov (.t 0), none⟩,
      ⟨some 7, .mov (.t 0), none⟩,
      ⟨some 8, .bin .add (.t 7) (.k (.int .i64 1)), none⟩,
      ⟨some 9, .sslice (.k (.str [48, 63, 49])) (some (.t 6)) (some (.t 8)), none⟩,
      ⟨some 2, .mov (.t 9), none⟩])
   (.ret)))⟩
theorem fok_spec_TruthText : FOk Tryd.prog 104 code_spec_TruthText := fok Tryd.func104 (by kernel_rfl)
def code_impl_TruthText : F := ⟨10, [.tmp 2],
 .seq (.reg [⟨some 2, .mov (.k (.str [])), none⟩])
 (.seq (.seq (.reg [⟨some 3, .mov (.t 0), none⟩,
      ⟨some 4, .call 110 [(.t 3)], none⟩,
      ⟨some 5, .not (.t 4), none⟩])
   (.cond (.t 5)
    (.seq (.reg [⟨some 2, .mov (.k (.str [])), none⟩])
     (.ret))
    (.skip)))
  (.seq (.reg [⟨some 6, .mov (.t 0), none⟩,
      ⟨some 7, .mov (.t 0), none⟩,
      ⟨some 8, .bin .add (.t 7) (.k (.int .i64 1)), none⟩,
      ⟨some 9, .sslice (.k (.str [48, 63, 49])) (some (.t 6)) (some (.t 8)), none⟩,
      ⟨some 2, .mov (.t 9), none⟩])
   (.ret)))⟩
theorem fok_impl_TruthText : FOk Tryd.prog 111 code_impl_TruthText := fok Tryd.func111 (by kernel_rfl)
def isTruth (a : Int) : Bool := decide (0 ≤ a) && decide (a ≤ 2)
@[simp] def ct_sIsTruth : Ct := ⟨102, Int, fun _ => True, fun x => [.int .i64 x], fun x => .bool (isTruth x)⟩
theorem ok_sIsTruth : ct_sIsTruth.Ok Tryd.prog := by
  rintro a -
  change Int at a
  refine Ok.of_cw fok_spec_IsTruth (go_ok (tab_cons ok_l1In tab_nil) ?_)
  simp [code_spec_IsTruth, List.replicate, isTruth]
@[simp] def ct_pIsTruth : Ct := ⟨110, Int, fun _ => True, fun x => [.int .i64 x], fun x => .bool (isTruth x)⟩
theorem ok_pIsTruth : ct_pIsTruth.Ok Tryd.prog := by
  rintro a -
  change Int at a
  refine Ok.of_cw fok_impl_IsTruth (go_ok (tab_cons ok_within tab_nil) ?_)
  simp [code_impl_IsTruth, List.replicate, isTruth]
def truthText (a : Int) : List UInt8 := if a = 0 then [48] else if a = 1 then [63] else if a = 2 then [49] else []
theorem truthText_len (a : Int) : (truthText a).length ≤ 1 := by unfold truthText; (repeat' split) <;> simp
@[simp] def ct_sTruthText : Ct := ⟨104, Int, fun _ => True, fun x => [.int .i64 x], fun x => .str (truthText x)⟩
theorem ok_sTruthText : ct_sTruthText.Ok Tryd.prog := by
  rintro a -
  change Int at a
  refine Ok.of_cw fok_spec_TruthText (go_ok (tab_cons ok_sIsTruth tab_nil) ?_)
  by_cases h : 0 ≤ a ∧ a ≤ 2
  · have : a = 0 ∨ a = 1 ∨ a = 2 := by omega
    rcases this with rfl | rfl | rfl <;> simp [code_spec_TruthText, List.replicate, isTruth, truthText]
  · have h2 : isTruth a = false := by simp [isTruth]; omega
    have h3 : truthText a = [] := by unfold truthText; rw [if_neg (by omega), if_neg (by omega), if_neg (by omega)]
    simp [code_spec_TruthText, List.replicate, h2, h3]
@[simp] def ct_pTruthText : Ct := ⟨111, Int, fun _ => True, fun x => [.int .i64 x], fun x => .str (truthText x)⟩
theorem ok_pTruthText : ct_pTruthText.Ok Tryd.prog := by
  rintro a -
  change Int at a
  refine Ok.of_cw fok_impl_TruthText (go_ok (tab_cons ok_pIsTruth tab_nil) ?_)
  by_cases h : 0 ≤ a ∧ a ≤ 2
  · have : a = 0 ∨ a = 1 ∨ a = 2 := by omega
    rcases this with rfl | rfl | rfl <;> simp [code_impl_TruthText, List.replicate, isTruth, truthText]
  · have h2 : isTruth a = false := by simp [isTruth]; omega
    have h3 : truthText a = [] := by unfold truthText; rw [if_neg (by omega), if_neg (by omega), if_neg (by omega)]
    simp [code_impl_TruthText, List.replicate, h2, h3]
end Go.Vm

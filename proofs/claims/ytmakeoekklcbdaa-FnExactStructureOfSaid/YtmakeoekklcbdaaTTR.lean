/- Truth values and their texts. No condition. -/
import Derived.Test.YtmakeoekklcbdaaTPB
set_option linter.unusedSimpArgs false
set_option linter.unusedVariables false
namespace Go.Vm
open Go.Proofs
def code_spec_IsTruth : F := ⟨5, [.tmp 2],
 .seq (.reg [⟨some 2, .mov (.k (.bool false)), none⟩])
 (.seq (.reg [⟨some 3, .mov (.t 0), none⟩,
     ⟨some 4, .call 76 [(.t 3), (.k (.int .i64 0)), (.k (.int .i64 2))], none⟩,
     ⟨some 2, .mov (.t 4), none⟩])
  (.ret))⟩
theorem fok_spec_IsTruth : FOk Try.prog 149 code_spec_IsTruth := fok Try.func149 (by kernel_rfl)
def code_impl_IsTruth : F := ⟨5, [.tmp 2],
 .seq (.reg [⟨some 2, .mov (.k (.bool false)), none⟩])
 (.seq (.reg [⟨some 3, .mov (.t 0), none⟩,
     ⟨some 4, .call 82 [(.t 3), (.k (.int .i64 0)), (.k (.int .i64 2))], none⟩,
     ⟨some 2, .mov (.t 4), none⟩])
  (.ret))⟩
theorem fok_impl_IsTruth : FOk Try.prog 157 code_impl_IsTruth := fok Try.func157 (by kernel_rfl)
def isTruth (a : Int) : Bool := decide (0 ≤ a) && decide (a ≤ 2)
@[simp] def ct_sIsTruth : Ct := ⟨149, Int, fun _ => True, fun x => [.int .i64 x], fun x => .bool (isTruth x)⟩
theorem ok_sIsTruth : ct_sIsTruth.Ok Try.prog := by
  rintro a -
  change Int at a
  refine Ok.of_cw fok_spec_IsTruth (go_ok (tab_cons ok_l1In tab_nil) ?_)
  simp [code_spec_IsTruth, List.replicate, isTruth]
@[simp] def ct_pIsTruth : Ct := ⟨157, Int, fun _ => True, fun x => [.int .i64 x], fun x => .bool (isTruth x)⟩
theorem ok_pIsTruth : ct_pIsTruth.Ok Try.prog := by
  rintro a -
  change Int at a
  refine Ok.of_cw fok_impl_IsTruth (go_ok (tab_cons ok_within tab_nil) ?_)
  simp [code_impl_IsTruth, List.replicate, isTruth]
def truthText (a : Int) : List UInt8 := if a = 0 then [48] else if a = 1 then [63] else if a = 2 then [49] else []
theorem truthText_len (a : Int) : (truthText a).length ≤ 1 := by unfold truthText; (repeat' split) <;> simp
end Go.Vm

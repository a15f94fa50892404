/- What the bounds' tests answer. No condition. -/
import Derived.Test.YtkclkieeapdeiaaTG
set_option linter.unusedSimpArgs false
set_option linter.unusedVariables false
namespace Go.Vm
open Go.Proofs
def code_impl_within : F := ⟨15, [.tmp 6],
 .seq (.reg [⟨some 6, .mov (.k (.bool false)), none⟩])
 (.seq (.reg [⟨some 7, .mov (.t 1), none⟩,
     ⟨some 8, .mov (.t 0), none⟩,
     ⟨some 9, .bin .leq (.t 7) (.t 8), none⟩,
     ⟨some 10, .mov (.t 9), none⟩,
     ⟨some 11, .mov (.t 0), some (10, true)⟩,
     ⟨some 12, .mov (.t 2), some (10, true)⟩,
     ⟨some 13, .bin .leq (.t 11) (.t 12), some (10, true)⟩,
     ⟨some 14, .pick (.t 10) (.t 13) (.k (.bool false)), none⟩,
     ⟨some 6, .mov (.t 14), none⟩])
  (.ret))⟩
theorem fok_impl_within : FOk Try.prog 60 code_impl_within := fok Try.func60 (by kernel_rfl)
def code_spec_l1In : F := ⟨15, [.tmp 6],
 .seq (.reg [⟨some 6, .mov (.k (.bool false)), none⟩])
 (.seq (.reg [⟨some 7, .mov (.t 0), none⟩,
     ⟨some 8, .mov (.t 1), none⟩,
     ⟨some 9, .bin .geq (.t 7) (.t 8), none⟩,
     ⟨some 10, .mov (.t 9), none⟩,
     ⟨some 11, .mov (.t 0), some (10, true)⟩,
     ⟨some 12, .mov (.t 2), some (10, true)⟩,
     ⟨some 13, .bin .leq (.t 11) (.t 12), some (10, true)⟩,
     ⟨some 14, .pick (.t 10) (.t 13) (.k (.bool false)), none⟩,
     ⟨some 6, .mov (.t 14), none⟩])
  (.ret))⟩
theorem fok_spec_l1In : FOk Try.prog 61 code_spec_l1In := fok Try.func61 (by kernel_rfl)
@[simp] def ct_within : Ct := ⟨60, Int × Int × Int, fun _ => True, fun x => [.int .i64 x.1, .int .i64 x.2.1, .int .i64 x.2.2], fun x => .bool (decide (x.2.1 ≤ x.1) && decide (x.1 ≤ x.2.2))⟩
theorem ok_within : ct_within.Ok Try.prog := by
  rintro ⟨a, b, c⟩ -
  refine Ok.of_cw fok_impl_within (go_ok tab_nil ?_)
  simp [code_impl_within, List.replicate]
  grind
@[simp] def ct_l1In : Ct := ⟨61, Int × Int × Int, fun _ => True, fun x => [.int .i64 x.1, .int .i64 x.2.1, .int .i64 x.2.2], fun x => .bool (decide (x.2.1 ≤ x.1) && decide (x.1 ≤ x.2.2))⟩
theorem ok_l1In : ct_l1In.Ok Try.prog := by
  rintro ⟨a, b, c⟩ -
  refine Ok.of_cw fok_spec_l1In (go_ok tab_nil ?_)
  simp [code_spec_l1In, List.replicate]
  grind
def at1 (l : List Int) (k : Int) : Int := if 0 ≤ k ∧ k < l.length then l.getD k.toNat 0 else 1
end Go.Vm

/- What the laws' size functions answer. No condition. -/
import Derived.Test.YtkclkieeapdeiaaTD
set_option linter.unusedSimpArgs false
set_option linter.unusedVariables false
namespace Go.Vm
open Go.Proofs
def code_laws_szIntS : F := ⟨12, [.tmp 4],
 .seq (.reg [⟨some 4, .mov (.k (.int .i64 0)), none⟩])
 (.seq (.reg [⟨some 5, .mov (.t 1), none⟩,
     ⟨some 6, .mov (.t 0), none⟩,
     ⟨some 7, .len (.t 6), none⟩,
     ⟨some 8, .bin .sub (.t 5) (.t 7), none⟩,
     ⟨some 1, .mov (.t 8), none⟩])
  (.seq (.seq (.reg [⟨some 9, .mov (.t 1), none⟩,
       ⟨some 10, .bin .lss (.t 9) (.k (.int .i64 0)), none⟩])
    (.cond (.t 10)
     (.seq (.reg [⟨some 4, .mov (.k (.int .i64 (-1))), none⟩])
      (.ret))
     (.skip)))
   (.seq (.reg [⟨some 11, .mov (.t 1), none⟩,
       ⟨some 4, .mov (.t 11), none⟩])
    (.ret))))⟩
theorem fok_laws_szIntS : FOk Try.prog 65 code_laws_szIntS := fok Try.func65 (by kernel_rfl)

@[simp] def ct_szIntS : Ct := ⟨65, List Int × Int, fun x => 0 ≤ x.2 ∧ x.2 ≤ 1048576, fun x => [encL 1 encInt x.1, .int .i64 x.2], fun x => .int .i64 (left x.1.length x.2)⟩
theorem ok_szIntS : ct_szIntS.Ok Try.prog := by
  rintro ⟨xs, l⟩ ⟨h1, h2⟩
  change 0 ≤ l at h1
  change l ≤ 1048576 at h2
  refine Ok.lens fun hl => Ok.of_cw fok_laws_szIntS (go_ok tab_nil ?_)
  simp [lensOkL_cons, lensOk_encL] at hl
  have hw : IntKind.i64.wrap (l - xs.length) = l - xs.length := by rw [wrap_i64] <;> omega
  simp [code_laws_szIntS, List.replicate, hw, left]
  omega
end Go.Vm

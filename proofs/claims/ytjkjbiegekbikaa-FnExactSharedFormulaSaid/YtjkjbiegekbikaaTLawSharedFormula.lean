/- The program's SharedFormula and the reference's agree for all arguments. No condition. -/
import Derived.Test.YtjkjbiegekbikaaTFX
set_option linter.unusedSimpArgs false
set_option linter.unusedVariables false
namespace Go.Vm
open Go.Proofs

end Go.Vm
namespace Go.Proofs.Ytjkjbiegekbikaa.fnExactSharedFormula
open Go.RowKit Go.ChangeShapes Go.WideShapes Go.ChangeAt Go.Vm
theorem own : ownKnob Try.prog.godebug = none := by kernel_rfl
set_option maxRecDepth 100000 in
theorem lifted (os : Os) (started : os.Started) (H : Type) (enc : TypeId × Value → H) :
    ReturnsInHanded {} Try.checked os 8 .any (Rows.fnExactSharedFormulaSpec.pre6 enc Try.prog Try.f8 Rows.fnExactSharedFormulaRow.domain false) (Rows.fnExactSharedFormulaSpec.post enc Try.prog Try.f8 false true false false) := by
  refine law_lift (C := Try.checked) (T := []) (tb := 4) own started (by kernel_rfl) Try.func8
    (ChangeSpec.witness6 (enc := enc) (C := Try.checked) false ⟨#[], #[], []⟩ 8 (by kernel_rfl) (by kernel_rfl) (by kernel_rfl) (by kernel_rfl)) rfl ?_ (by kernel_rfl) Try.underlying4 (by kernel_rfl) ?_ (by kernel_rfl) ?_ ?_
  · intro ds h
    rw [Try.params8] at h
    match ds, h with
    | [], _ => rfl
  · rw [Try.params8]; simp
  · rw [Try.params8]
    intro t ht
    have ht : t ∈ [] := ht
    cases ht
  · rw [Try.params8]
    intro ass h
    cases h
    exact ok_lawSharedFormula
theorem over : Rows.fnExactSharedFormulaRow.holds Try.pinned (OpenSpec.ofChange Rows.fnExactSharedFormulaSpec) :=
  OpenClaim.holds_of_wide 8 Try.f8 rfl rfl rfl rfl rfl rfl rfl ⟨rfl, rfl, rfl, rfl, rfl⟩ rfl rfl rfl rfl rfl (by kernel_rfl) Try.func8 (by kernel_rfl)
    (of_decide_eq_true (by kernel_rfl)) (by unfold Func.isWrapper; first | (rw [if_pos (by decide +kernel)]; kernel_rfl) | (rw [if_neg (by decide +kernel)]; exact ⟨rfl, rfl⟩))
    (fun os started H enc _ => lifted os started H enc)
end Go.Proofs.Ytjkjbiegekbikaa.fnExactSharedFormula
namespace Go.Proofs.Ytjkjbiegekbikaa
theorem fnExactSharedFormula_holds : Rows.FnExactSharedFormulaSaid := fnExactSharedFormula.over
#print axioms fnExactSharedFormula_holds
end Go.Proofs.Ytjkjbiegekbikaa


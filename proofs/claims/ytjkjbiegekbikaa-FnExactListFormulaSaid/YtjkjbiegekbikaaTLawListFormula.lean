/- The program's ListFormula and the reference's agree for all arguments. No condition. -/
import Derived.Test.YtjkjbiegekbikaaTFX
set_option linter.unusedSimpArgs false
set_option linter.unusedVariables false
namespace Go.Vm
open Go.Proofs
theorem dec_3 : ∀ (n : Nat) (c : List AV), TyN Try.prog n 3 c → ∃ x : Int, mkE false c = encInt x := by
  intro n c h
  obtain ⟨i, rfl, _⟩ := ty_int Try.underlying3 h
  exact ⟨i, rfl⟩
end Go.Vm
namespace Go.Proofs.Ytjkjbiegekbikaa.fnExactListFormula
open Go.RowKit Go.ChangeShapes Go.WideShapes Go.ChangeAt Go.Vm
theorem own : ownKnob Try.prog.godebug = none := by kernel_rfl
set_option maxRecDepth 100000 in
theorem lifted (os : Os) (started : os.Started) (H : Type) (enc : TypeId × Value → H) :
    ReturnsInHanded {} Try.checked os 7 .any (Rows.fnExactListFormulaSpec.pre6 enc Try.prog Try.f7 Rows.fnExactListFormulaRow.domain false) (Rows.fnExactListFormulaSpec.post enc Try.prog Try.f7 false true false false) := by
  refine law_lift (C := Try.checked) (T := [3]) (tb := 4) own started (by kernel_rfl) Try.func7
    (ChangeSpec.witness6 (enc := enc) (C := Try.checked) false ⟨#[], #[.int .i64 0], []⟩ 8 (by kernel_rfl) (by kernel_rfl) (by kernel_rfl) (by kernel_rfl)) rfl ?_ (by kernel_rfl) Try.underlying4 (by kernel_rfl) ?_ (by kernel_rfl) ?_ ?_
  · intro ds h
    rw [Try.params7] at h
    match ds, h with
    | [d0], _ => rfl
  · rw [Try.params7]; simp
  · rw [Try.params7]
    intro t ht
    have ht : t ∈ [3] := ht
    rcases List.mem_cons.1 ht with rfl | ht
    · exact ⟨by kernel_rfl, of_decide_eq_true (by kernel_rfl)⟩
    cases ht
  · rw [Try.params7]
    intro ass h
    rcases h with _ | ⟨h0, _ | _⟩
    obtain ⟨n0, h0⟩ := h0
    obtain ⟨x0, e0⟩ := dec_3 _ _ h0
    change Ok Try.prog 7 (argE Try.prog _ _) _
    simp only [argE, isAgg_eq Try.underlying3, TypeDesc.isStruct, e0]
    exact ok_lawListFormula x0
theorem over : Rows.fnExactListFormulaRow.holds Try.pinned (OpenSpec.ofChange Rows.fnExactListFormulaSpec) :=
  OpenClaim.holds_of_wide 7 Try.f7 rfl rfl rfl rfl rfl rfl rfl ⟨rfl, rfl, rfl, rfl, rfl⟩ rfl rfl rfl rfl rfl (by kernel_rfl) Try.func7 (by kernel_rfl)
    (of_decide_eq_true (by kernel_rfl)) (by unfold Func.isWrapper; first | (rw [if_pos (by decide +kernel)]; kernel_rfl) | (rw [if_neg (by decide +kernel)]; exact ⟨rfl, rfl⟩))
    (fun os started H enc _ => lifted os started H enc)
end Go.Proofs.Ytjkjbiegekbikaa.fnExactListFormula
namespace Go.Proofs.Ytjkjbiegekbikaa
theorem fnExactListFormula_holds : Rows.FnExactListFormulaSaid := fnExactListFormula.over
#print axioms fnExactListFormula_holds
end Go.Proofs.Ytjkjbiegekbikaa


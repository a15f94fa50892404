/- The program's SeparateFormula and the reference's agree for all arguments. No condition. -/
import Derived.Test.YtjkjbiegekbikaaTFX
set_option linter.unusedSimpArgs false
set_option linter.unusedVariables false
namespace Go.Vm
open Go.Proofs
theorem dec_3 : ∀ (n : Nat) (c : List AV), TyN Try.prog n 3 c → ∃ x : Int, mkE false c = encInt x := by
  intro n c h
  obtain ⟨i, rfl, _⟩ := ty_int Try.underlying3 h
  exact ⟨i, rfl⟩
end Go.Vm
namespace Go.Proofs.Ytjkjbiegekbikaa.fnExactSeparateFormula
open Go.RowKit Go.ChangeShapes Go.WideShapes Go.ChangeAt Go.Vm
theorem own : ownKnob Try.prog.godebug = none := by kernel_rfl
set_option maxRecDepth 100000 in
theorem lifted (os : Os) (started : os.Started) (H : Type) (enc : TypeId × Value → H) :
    ReturnsInHanded {} Try.checked os 6 .any (Rows.fnExactSeparateFormulaSpec.pre6 enc Try.prog Try.f6 Rows.fnExactSeparateFormulaRow.domain false) (Rows.fnExactSeparateFormulaSpec.post enc Try.prog Try.f6 false true false false) := by
  refine law_lift (C := Try.checked) (T := [3]) (tb := 4) own started (by kernel_rfl) Try.func6
    (ChangeSpec.witness6 (enc := enc) (C := Try.checked) false ⟨#[], #[.int .i64 0, .int .i64 0], []⟩ 8 (by kernel_rfl) (by kernel_rfl) (by kernel_rfl) (by kernel_rfl)) rfl ?_ (by kernel_rfl) Try.underlying4 (by kernel_rfl) ?_ (by kernel_rfl) ?_ ?_
  · intro ds h
    rw [Try.params6] at h
    match ds, h with
    | [d0, d1], _ => rfl
  · rw [Try.params6]; simp
  · rw [Try.params6]
    intro t ht
    have ht : t ∈ [3, 3] := ht
    rcases List.mem_cons.1 ht with rfl | ht
    · exact ⟨by kernel_rfl, of_decide_eq_true (by kernel_rfl)⟩
    rcases List.mem_cons.1 ht with rfl | ht
    · exact ⟨by kernel_rfl, of_decide_eq_true (by kernel_rfl)⟩
    cases ht
  · rw [Try.params6]
    intro ass h
    rcases h with _ | ⟨h0, _ | ⟨h1, _ | _⟩⟩
    obtain ⟨n0, h0⟩ := h0
    obtain ⟨x0, e0⟩ := dec_3 _ _ h0
    obtain ⟨n1, h1⟩ := h1
    obtain ⟨x1, e1⟩ := dec_3 _ _ h1
    change Ok Try.prog 6 (argE Try.prog _ _) _
    simp only [argE, isAgg_eq Try.underlying3, TypeDesc.isStruct, e0, e1]
    exact ok_lawSeparateFormula x0 x1
theorem over : Rows.fnExactSeparateFormulaRow.holds Try.pinned (OpenSpec.ofChange Rows.fnExactSeparateFormulaSpec) :=
  OpenClaim.holds_of_wide 6 Try.f6 rfl rfl rfl rfl rfl rfl rfl ⟨rfl, rfl, rfl, rfl, rfl⟩ rfl rfl rfl rfl rfl (by kernel_rfl) Try.func6 (by kernel_rfl)
    (of_decide_eq_true (by kernel_rfl)) (by unfold Func.isWrapper; first | (rw [if_pos (by decide +kernel)]; kernel_rfl) | (rw [if_neg (by decide +kernel)]; exact ⟨rfl, rfl⟩))
    (fun os started H enc _ => lifted os started H enc)
end Go.Proofs.Ytjkjbiegekbikaa.fnExactSeparateFormula
namespace Go.Proofs.Ytjkjbiegekbikaa
theorem fnExactSeparateFormula_holds : Rows.FnExactSeparateFormulaSaid := fnExactSeparateFormula.over
#print axioms fnExactSeparateFormula_holds
end Go.Proofs.Ytjkjbiegekbikaa


/- The program's ReachFormula and the reference's agree for all arguments. No condition. -/
import Derived.Test.YtjkjbiegekbikaaTFX
set_option linter.unusedSimpArgs false
set_option linter.unusedVariables false
namespace Go.Vm
open Go.Proofs
theorem dec_3 : ∀ (n : Nat) (c : List AV), TyN Try.prog n 3 c → ∃ x : Int, mkE false c = encInt x := by
  intro n c h
  obtain ⟨i, rfl, _⟩ := ty_int Try.underlying3 h
  exact ⟨i, rfl⟩
end Go.Vm
namespace Go.Proofs.Ytjkjbiegekbikaa.fnExactReachFormula
open Go.RowKit Go.ChangeShapes Go.WideShapes Go.ChangeAt Go.Vm
theorem own : ownKnob Try.prog.godebug = none := by kernel_rfl
set_option maxRecDepth 100000 in
theorem lifted (os : Os) (started : os.Started) (H : Type) (enc : TypeId × Value → H) :
    ReturnsInHanded {} Try.checked os 5 .any (Rows.fnExactReachFormulaSpec.pre6 enc Try.prog Try.f5 Rows.fnExactReachFormulaRow.domain false) (Rows.fnExactReachFormulaSpec.post enc Try.prog Try.f5 false true false false) := by
  refine law_lift (C := Try.checked) (T := [3]) (tb := 4) own started (by kernel_rfl) Try.func5
    (ChangeSpec.witness6 (enc := enc) (C := Try.checked) false ⟨#[], #[.int .i64 0], []⟩ 8 (by kernel_rfl) (by kernel_rfl) (by kernel_rfl) (by kernel_rfl)) rfl ?_ (by kernel_rfl) Try.underlying4 (by kernel_rfl) ?_ (by kernel_rfl) ?_ ?_
  · intro ds h
    rw [Try.params5] at h
    match ds, h with
    | [d0], _ => rfl
  · rw [Try.params5]; simp
  · rw [Try.params5]
    intro t ht
    have ht : t ∈ [3] := ht
    rcases List.mem_cons.1 ht with rfl | ht
    · exact ⟨by kernel_rfl, of_decide_eq_true (by kernel_rfl)⟩
    cases ht
  · rw [Try.params5]
    intro ass h
    rcases h with _ | ⟨h0, _ | _⟩
    obtain ⟨n0, h0⟩ := h0
    obtain ⟨x0, e0⟩ := dec_3 _ _ h0
    change Ok Try.prog 5 (argE Try.prog _ _) _
    simp only [argE, isAgg_eq Try.underlying3, TypeDesc.isStruct, e0]
    exact ok_lawReachFormula x0
theorem over : Rows.fnExactReachFormulaRow.holds Try.pinned (OpenSpec.ofChange Rows.fnExactReachFormulaSpec) :=
  OpenClaim.holds_of_wide 5 Try.f5 rfl rfl rfl rfl rfl rfl rfl ⟨rfl, rfl, rfl, rfl, rfl⟩ rfl rfl rfl rfl rfl (by kernel_rfl) Try.func5 (by kernel_rfl)
    (of_decide_eq_true (by kernel_rfl)) (by unfold Func.isWrapper; first | (rw [if_pos (by decide +kernel)]; kernel_rfl) | (rw [if_neg (by decide +kernel)]; exact ⟨rfl, rfl⟩))
    (fun os started H enc _ => lifted os started H enc)
end Go.Proofs.Ytjkjbiegekbikaa.fnExactReachFormula
namespace Go.Proofs.Ytjkjbiegekbikaa
theorem fnExactReachFormula_holds : Rows.FnExactReachFormulaSaid := fnExactReachFormula.over
#print axioms fnExactReachFormula_holds
end Go.Proofs.Ytjkjbiegekbikaa


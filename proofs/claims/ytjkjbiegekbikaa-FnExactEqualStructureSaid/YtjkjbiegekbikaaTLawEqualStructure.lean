/- The program's EqualStructure and the reference's agree for all arguments. No condition. -/
import Derived.Test.YtjkjbiegekbikaaTEQ
set_option linter.unusedSimpArgs false
set_option linter.unusedVariables false
namespace Go.Vm
open Go.Proofs
theorem dec_3 : ∀ (n : Nat) (c : List AV), TyN Try.prog n 3 c → ∃ x : Int, mkE false c = encInt x := by
  intro n c h
  obtain ⟨i, rfl, _⟩ := ty_int Try.underlying3 h
  exact ⟨i, rfl⟩
theorem dec_34 : ∀ (n : Nat) (c : List AV), TyN Try.prog n 34 c → ∃ x : List (Int), mkE false c = (encL 1 encInt) x := by
  intro n c h
  obtain ⟨xs, rfl⟩ := ty_slice encInt Try.underlying34 (sz := 1) (b := false) (by kernel_rfl) (isAgg_eq Try.underlying3) (fun m cs _ h => dec_3 m cs h) h
  exact ⟨xs, rfl⟩
theorem dec_88 : ∀ (n : Nat) (c : List AV), TyN Try.prog n 88 c → ∃ x : Node, mkE true c = encNode x := by
  intro n c h
  obtain ⟨m, ass, hm, rfl, hh⟩ := ty_struct Try.underlying88 (ts := [34, 34, 3, 3]) (by kernel_rfl) h
  rcases hh with _ | ⟨h0, _ | ⟨h1, _ | ⟨h2, _ | ⟨h3, _ | _⟩⟩⟩⟩
  obtain ⟨x0, rfl⟩ := ty_slice encInt Try.underlying34 (sz := 1) (b := false) (by kernel_rfl) (isAgg_eq Try.underlying3) (fun m cs _ h => dec_3 m cs h) h0
  obtain ⟨x1, rfl⟩ := ty_slice encInt Try.underlying34 (sz := 1) (b := false) (by kernel_rfl) (isAgg_eq Try.underlying3) (fun m cs _ h => dec_3 m cs h) h1
  obtain ⟨x2, rfl, _⟩ := ty_int Try.underlying3 h2
  obtain ⟨x3, rfl, _⟩ := ty_int Try.underlying3 h3
  exact ⟨⟨x0, x1, x2, x3⟩, by simp [mkE]⟩
theorem dec_47 : ∀ (n : Nat) (c : List AV), TyN Try.prog n 47 c → ∃ x : List (Node), mkE false c = (encL 4 encNode) x := by
  intro n c h
  obtain ⟨xs, rfl⟩ := ty_slice encNode Try.underlying47 (sz := 4) (b := true) (by kernel_rfl) (isAgg_eq Try.underlying88) (fun m cs _ h => dec_88 m cs h) h
  exact ⟨xs, rfl⟩
theorem dec_49 : ∀ (n : Nat) (c : List AV), TyN Try.prog n 49 c → ∃ x : Strc, mkE true c = encStrc x := by
  intro n c h
  obtain ⟨m, ass, hm, rfl, hh⟩ := ty_struct Try.underlying49 (ts := [47, 34]) (by kernel_rfl) h
  rcases hh with _ | ⟨h0, _ | ⟨h1, _ | _⟩⟩
  obtain ⟨x0, rfl⟩ := ty_slice encNode Try.underlying47 (sz := 4) (b := true) (by kernel_rfl) (isAgg_eq Try.underlying88) (fun m cs _ h => dec_88 m cs h) h0
  obtain ⟨x1, rfl⟩ := ty_slice encInt Try.underlying34 (sz := 1) (b := false) (by kernel_rfl) (isAgg_eq Try.underlying3) (fun m cs _ h => dec_3 m cs h) h1
  exact ⟨⟨x0, x1⟩, by simp [mkE]⟩
end Go.Vm
namespace Go.Proofs.Ytjkjbiegekbikaa.fnExactEqualStructure
open Go.RowKit Go.ChangeShapes Go.WideShapes Go.ChangeAt Go.Vm
theorem own : ownKnob Try.prog.godebug = none := by kernel_rfl
set_option maxRecDepth 100000 in
theorem lifted (os : Os) (started : os.Started) (H : Type) (enc : TypeId × Value → H) :
    ReturnsInHanded {} Try.checked os 13 .any (Rows.fnExactEqualStructureSpec.pre6 enc Try.prog Try.f13 Rows.fnExactEqualStructureRow.domain false) (Rows.fnExactEqualStructureSpec.post enc Try.prog Try.f13 false true false false) := by
  refine law_lift (C := Try.checked) (T := [49, 47, 88, 34, 3]) (tb := 4) own started (by kernel_rfl) Try.func13
    (ChangeSpec.witness6 (enc := enc) (C := Try.checked) false ⟨#[], #[.agg #[.slice none 0 0, .slice none 0 0], .agg #[.slice none 0 0, .slice none 0 0]], []⟩ 8 (by kernel_rfl) (by kernel_rfl) (by kernel_rfl) (by kernel_rfl)) rfl ?_ (by kernel_rfl) Try.underlying4 (by kernel_rfl) ?_ (by kernel_rfl) ?_ ?_
  · intro ds h
    rw [Try.params13] at h
    match ds, h with
    | [d0, d1], _ => rfl
  · rw [Try.params13]; simp
  · rw [Try.params13]
    intro t ht
    have ht : t ∈ [49, 49] := ht
    rcases List.mem_cons.1 ht with rfl | ht
    · exact ⟨by kernel_rfl, of_decide_eq_true (by kernel_rfl)⟩
    rcases List.mem_cons.1 ht with rfl | ht
    · exact ⟨by kernel_rfl, of_decide_eq_true (by kernel_rfl)⟩
    cases ht
  · rw [Try.params13]
    intro ass h
    rcases h with _ | ⟨h0, _ | ⟨h1, _ | _⟩⟩
    obtain ⟨n0, h0⟩ := h0
    obtain ⟨x0, e0⟩ := dec_49 _ _ h0
    obtain ⟨n1, h1⟩ := h1
    obtain ⟨x1, e1⟩ := dec_49 _ _ h1
    change Ok Try.prog 13 (argE Try.prog _ _) _
    simp only [argE, isAgg_eq Try.underlying49, TypeDesc.isStruct, e0, e1]
    exact ok_lawEqualStructure x0 x1
theorem over : Rows.fnExactEqualStructureRow.holds Try.pinned (OpenSpec.ofChange Rows.fnExactEqualStructureSpec) :=
  OpenClaim.holds_of_wide 13 Try.f13 rfl rfl rfl rfl rfl rfl rfl ⟨rfl, rfl, rfl, rfl, rfl⟩ rfl rfl rfl rfl rfl (by kernel_rfl) Try.func13 (by kernel_rfl)
    (of_decide_eq_true (by kernel_rfl)) (by unfold Func.isWrapper; first | (rw [if_pos (by decide +kernel)]; kernel_rfl) | (rw [if_neg (by decide +kernel)]; exact ⟨rfl, rfl⟩))
    (fun os started H enc _ => lifted os started H enc)
end Go.Proofs.Ytjkjbiegekbikaa.fnExactEqualStructure
namespace Go.Proofs.Ytjkjbiegekbikaa
theorem fnExactEqualStructure_holds : Rows.FnExactEqualStructureSaid := fnExactEqualStructure.over
#print axioms fnExactEqualStructure_holds
end Go.Proofs.Ytjkjbiegekbikaa


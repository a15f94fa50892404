/- The program StructureOf answers what the reference answers, for all arguments. No condition. -/
import Derived.Test.YtmakeoekklcbdaaTSW
set_option linter.unusedSimpArgs false
set_option linter.unusedVariables false
namespace Go.Vm
open Go.Proofs
theorem dec_3 : ∀ (n : Nat) (c : List AV), TyN Try.prog n 3 c → ∃ x : Int, mkE false c = encInt x := by
  intro n c h
  obtain ⟨i, rfl, _⟩ := ty_int Try.underlying3 h
  exact ⟨i, rfl⟩
theorem dec_23 : ∀ (n : Nat) (c : List AV), TyN Try.prog n 23 c → ∃ x : List (Int), mkE false c = (encL 1 encInt) x := by
  intro n c h
  obtain ⟨xs, rfl⟩ := ty_slice encInt Try.underlying23 (sz := 1) (b := false) (by kernel_rfl) (isAgg_eq Try.underlying3) (fun m cs _ h => dec_3 m cs h) h
  exact ⟨xs, rfl⟩
theorem dec_40 : ∀ (n : Nat) (c : List AV), TyN Try.prog n 40 c → ∃ x : Heap, mkE true c = encHeap x := by
  intro n c h
  obtain ⟨m, ass, hm, rfl, hh⟩ := ty_struct Try.underlying40 (ts := [23, 23]) (by kernel_rfl) h
  rcases hh with _ | ⟨h0, _ | ⟨h1, _ | _⟩⟩
  obtain ⟨x0, rfl⟩ := ty_slice encInt Try.underlying23 (sz := 1) (b := false) (by kernel_rfl) (isAgg_eq Try.underlying3) (fun m cs _ h => dec_3 m cs h) h0
  obtain ⟨x1, rfl⟩ := ty_slice encInt Try.underlying23 (sz := 1) (b := false) (by kernel_rfl) (isAgg_eq Try.underlying3) (fun m cs _ h => dec_3 m cs h) h1
  exact ⟨⟨x0, x1⟩, by simp [mkE]⟩
end Go.Vm
namespace Go.Proofs.Ytmakeoekklcbdaa.fnExactStructureOf
open Go.RowKit Go.ChangeShapes Go.WideShapes Go.ChangeAt Go.Vm
theorem own : ownKnob Try.prog.godebug = none := by kernel_rfl
set_option maxRecDepth 100000 in
theorem lifted (os : Os) (started : os.Started) (H : Type) (enc : TypeId × Value → H) :
    ReturnsInHanded {} Try.checked os 4 .any (Rows.fnExactStructureOfSpec.pre6 enc Try.prog Try.f4 Rows.fnExactStructureOfRow.domain false) (Rows.fnExactStructureOfSpec.post enc Try.prog Try.f4 false true false false) := by
  refine law_lift (C := Try.checked) (T := [40, 23, 3]) (tb := 4) own started (by kernel_rfl) Try.func4
    (ChangeSpec.witness6 (enc := enc) (C := Try.checked) false ⟨#[], #[.agg #[.slice none 0 0, .slice none 0 0]], []⟩ 8 (by kernel_rfl) (by kernel_rfl) (by kernel_rfl) (by kernel_rfl)) rfl ?_ (by kernel_rfl) Try.underlying4 (by kernel_rfl) ?_ (by kernel_rfl) ?_ ?_
  · intro ds h
    rw [Try.params4] at h
    match ds, h with
    | [d0], _ => rfl
  · rw [Try.params4]; simp
  · rw [Try.params4]
    intro t ht
    have ht : t ∈ [40] := ht
    rcases List.mem_cons.1 ht with rfl | ht
    · exact ⟨by kernel_rfl, of_decide_eq_true (by kernel_rfl)⟩
    cases ht
  · rw [Try.params4]
    intro ass h
    rcases h with _ | ⟨h0, _ | _⟩
    obtain ⟨n0, h0⟩ := h0
    obtain ⟨x0, e0⟩ := dec_40 _ _ h0
    change Ok Try.prog 4 (argE Try.prog _ _) _
    simp only [argE, isAgg_eq Try.underlying40, TypeDesc.isStruct, e0]
    exact ok_lawStructureOf x0
theorem over : Rows.fnExactStructureOfRow.holds Try.pinned (OpenSpec.ofChange Rows.fnExactStructureOfSpec) :=
  OpenClaim.holds_of_wide 4 Try.f4 rfl rfl rfl rfl rfl rfl rfl ⟨rfl, rfl, rfl, rfl, rfl⟩ rfl rfl rfl rfl rfl (by kernel_rfl) Try.func4 (by kernel_rfl)
    (of_decide_eq_true (by kernel_rfl)) (by unfold Func.isWrapper; first | (rw [if_pos (by decide +kernel)]; kernel_rfl) | (rw [if_neg (by decide +kernel)]; exact ⟨rfl, rfl⟩))
    (fun os started H enc _ => lifted os started H enc)
end Go.Proofs.Ytmakeoekklcbdaa.fnExactStructureOf
namespace Go.Proofs.Ytmakeoekklcbdaa
theorem fnExactStructureOf_holds : Rows.FnExactStructureOfSaid := fnExactStructureOf.over
#print axioms fnExactStructureOf_holds
end Go.Proofs.Ytmakeoekklcbdaa


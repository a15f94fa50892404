/- The law FnExactListHeaps holds: the program and the reference list the same heaps, in memory of their own. No condition. -/
import Derived.Test.YtmakeoekklcbdaaTZE
set_option linter.unusedSimpArgs false
set_option linter.unusedVariables false
namespace Go.Vm
open Go.Proofs
theorem dec_3 : ∀ (n : Nat) (c : List AV), TyN Try.prog n 3 c → ∃ x : Int, mkE false c = encInt x := by
  intro n c h
  obtain ⟨i, rfl, _⟩ := ty_int Try.underlying3 h
  exact ⟨i, rfl⟩
end Go.Vm
namespace Go.Proofs.Ytmakeoekklcbdaa.fnExactListHeaps
open Go.RowKit Go.ChangeShapes Go.WideShapes Go.ChangeAt Go.Vm
theorem own : ownKnob Try.prog.godebug = none := by kernel_rfl
set_option maxRecDepth 100000 in
theorem lifted (os : Os) (started : os.Started) (H : Type) (enc : TypeId × Value → H) :
    ReturnsInHanded {} Try.checked os 5 .any (Rows.fnExactListHeapsSpec.pre6 enc Try.prog Try.f5 Rows.fnExactListHeapsRow.domain false) (Rows.fnExactListHeapsSpec.post enc Try.prog Try.f5 false true false false) := by
  refine law_lift (C := Try.checked) (T := [3]) (tb := 4) own started (by kernel_rfl) Try.func5
    (ChangeSpec.witness6 (enc := enc) (C := Try.checked) false ⟨#[], #[.int .i64 0, .int .i64 0], []⟩ 8 (by kernel_rfl) (by kernel_rfl) (by kernel_rfl) (by kernel_rfl)) rfl ?_ (by kernel_rfl) Try.underlying4 (by kernel_rfl) ?_ (by kernel_rfl) ?_ ?_
  · intro ds h
    rw [Try.params5] at h
    match ds, h with
    | [d0, d1], _ => rfl
  · rw [Try.params5]; simp
  · rw [Try.params5]
    intro t ht
    have ht : t ∈ [3, 3] := ht
    rcases List.mem_cons.1 ht with rfl | ht
    · exact ⟨by kernel_rfl, of_decide_eq_true (by kernel_rfl)⟩
    rcases List.mem_cons.1 ht with rfl | ht
    · exact ⟨by kernel_rfl, of_decide_eq_true (by kernel_rfl)⟩
    cases ht
  · rw [Try.params5]
    intro ass h
    rcases h with _ | ⟨h0, _ | ⟨h1, _ | _⟩⟩
    obtain ⟨n0, h0⟩ := h0
    obtain ⟨x0, e0⟩ := dec_3 _ _ h0
    obtain ⟨n1, h1⟩ := h1
    obtain ⟨x1, e1⟩ := dec_3 _ _ h1
    change Ok Try.prog 5 (argE Try.prog _ _) _
    simp only [argE, isAgg_eq Try.underlying3, TypeDesc.isStruct, e0, e1]
    exact ok_lawListHeaps x0 x1
theorem over : Rows.fnExactListHeapsRow.holds Try.pinned (OpenSpec.ofChange Rows.fnExactListHeapsSpec) :=
  OpenClaim.holds_of_wide 5 Try.f5 rfl rfl rfl rfl rfl rfl rfl ⟨rfl, rfl, rfl, rfl, rfl⟩ rfl rfl rfl rfl rfl (by kernel_rfl) Try.func5 (by kernel_rfl)
    (of_decide_eq_true (by kernel_rfl)) (by unfold Func.isWrapper; first | (rw [if_pos (by decide +kernel)]; kernel_rfl) | (rw [if_neg (by decide +kernel)]; exact ⟨rfl, rfl⟩))
    (fun os started H enc _ => lifted os started H enc)
end Go.Proofs.Ytmakeoekklcbdaa.fnExactListHeaps
namespace Go.Proofs.Ytmakeoekklcbdaa
theorem fnExactListHeaps_holds : Rows.FnExactListHeapsSaid := fnExactListHeaps.over
#print axioms fnExactListHeaps_holds
end Go.Proofs.Ytmakeoekklcbdaa


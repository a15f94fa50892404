/- The law FnExactHeapHolds holds: the program and the reference answer alike whether a formula holds in a heap. No condition. -/
import Derived.Test.YtmakeoekklcbdaaTHZ
set_option linter.unusedSimpArgs false
set_option linter.unusedVariables false
namespace Go.Vm
open Go.Proofs
theorem dec_3 : ∀ (n : Nat) (c : List AV), TyN Try.prog n 3 c → ∃ x : Int, mkE false c = encInt x := by
  intro n c h
  obtain ⟨i, rfl, _⟩ := ty_int Try.underlying3 h
  exact ⟨i, rfl⟩
theorem dec_23 : ∀ (n : Nat) (c : List AV), TyN Try.prog n 23 c → ∃ x : List (Int), mkE false c = (encL 1 encInt) x := by
  intro n c h
  obtain ⟨xs, rfl⟩ := ty_slice encInt Try.underlying23 (sz := 1) (b := false) (by kernel_rfl) (isAgg_eq Try.underlying3) (fun m cs _ h => dec_3 m cs h) h
  exact ⟨xs, rfl⟩
theorem dec_40 : ∀ (n : Nat) (c : List AV), TyN Try.prog n 40 c → ∃ x : Heap, mkE true c = encHeap x := by
  intro n c h
  obtain ⟨m, ass, hm, rfl, hh⟩ := ty_struct Try.underlying40 (ts := [23, 23]) (by kernel_rfl) h
  rcases hh with _ | ⟨h0, _ | ⟨h1, _ | _⟩⟩
  obtain ⟨x0, rfl⟩ := ty_slice encInt Try.underlying23 (sz := 1) (b := false) (by kernel_rfl) (isAgg_eq Try.underlying3) (fun m cs _ h => dec_3 m cs h) h0
  obtain ⟨x1, rfl⟩ := ty_slice encInt Try.underlying23 (sz := 1) (b := false) (by kernel_rfl) (isAgg_eq Try.underlying3) (fun m cs _ h => dec_3 m cs h) h1
  exact ⟨⟨x0, x1⟩, by simp [mkE]⟩
theorem dec_70 : ∀ (n : Nat) (c : List AV), TyN Try.prog n 70 c → ∃ x : Fm, mkE true c = encFm x := by
  intro n
  induction n using Nat.strongRecOn with
  | ind n ih =>
    intro c0 h
    obtain ⟨m, ass, hm, rfl, hh⟩ := ty_struct Try.underlying70 (ts := [3, 3, 3, 3, 68]) (by kernel_rfl) h
    rcases hh with _ | ⟨h0, _ | ⟨h1, _ | ⟨h2, _ | ⟨h3, _ | ⟨h4, _ | _⟩⟩⟩⟩⟩
    obtain ⟨a, rfl, _⟩ := ty_int Try.underlying3 h0
    obtain ⟨b, rfl, _⟩ := ty_int Try.underlying3 h1
    obtain ⟨c, rfl, _⟩ := ty_int Try.underlying3 h2
    obtain ⟨d, rfl, _⟩ := ty_int Try.underlying3 h3
    obtain ⟨xs, rfl⟩ := ty_slice encFm Try.underlying68 (sz := 5) (b := true) (by kernel_rfl) (isAgg_eq Try.underlying70) (fun k cs hk h => ih k (by omega) cs h) h4
    exact ⟨.mk a b c d xs, by simp [mkE]⟩
end Go.Vm
namespace Go.Proofs.Ytmakeoekklcbdaa.fnExactHeapHolds
open Go.RowKit Go.ChangeShapes Go.WideShapes Go.ChangeAt Go.Vm
theorem own : ownKnob Try.prog.godebug = none := by kernel_rfl
set_option maxRecDepth 100000 in
theorem lifted (os : Os) (started : os.Started) (H : Type) (enc : TypeId × Value → H) :
    ReturnsInHanded {} Try.checked os 8 .any (Rows.fnExactHeapHoldsSpec.pre6 enc Try.prog Try.f8 Rows.fnExactHeapHoldsRow.domain false) (Rows.fnExactHeapHoldsSpec.post enc Try.prog Try.f8 false true false false) := by
  refine law_lift (C := Try.checked) (T := [40, 23, 3, 70, 68]) (tb := 4) own started (by kernel_rfl) Try.func8
    (ChangeSpec.witness6 (enc := enc) (C := Try.checked) false ⟨#[], #[.agg #[.slice none 0 0, .slice none 0 0], .agg #[.int .i64 0, .int .i64 0, .int .i64 0, .int .i64 0, .slice none 0 0]], []⟩ 8 (by kernel_rfl) (by kernel_rfl) (by kernel_rfl) (by kernel_rfl)) rfl ?_ (by kernel_rfl) Try.underlying4 (by kernel_rfl) ?_ (by kernel_rfl) ?_ ?_
  · intro ds h
    rw [Try.params8] at h
    match ds, h with
    | [d0, d1], _ => rfl
  · rw [Try.params8]; simp
  · rw [Try.params8]
    intro t ht
    have ht : t ∈ [40, 70] := ht
    rcases List.mem_cons.1 ht with rfl | ht
    · exact ⟨by kernel_rfl, of_decide_eq_true (by kernel_rfl)⟩
    rcases List.mem_cons.1 ht with rfl | ht
    · exact ⟨by kernel_rfl, of_decide_eq_true (by kernel_rfl)⟩
    cases ht
  · rw [Try.params8]
    intro ass h
    rcases h with _ | ⟨h0, _ | ⟨h1, _ | _⟩⟩
    obtain ⟨n0, h0⟩ := h0
    obtain ⟨x0, e0⟩ := dec_40 _ _ h0
    obtain ⟨n1, h1⟩ := h1
    obtain ⟨x1, e1⟩ := dec_70 _ _ h1
    change Ok Try.prog 8 (argE Try.prog _ _) _
    simp only [argE, isAgg_eq Try.underlying40, isAgg_eq Try.underlying70, TypeDesc.isStruct, e0, e1]
    exact ok_lawHeapHolds x0 x1
theorem over : Rows.fnExactHeapHoldsRow.holds Try.pinned (OpenSpec.ofChange Rows.fnExactHeapHoldsSpec) :=
  OpenClaim.holds_of_wide 8 Try.f8 rfl rfl rfl rfl rfl rfl rfl ⟨rfl, rfl, rfl, rfl, rfl⟩ rfl rfl rfl rfl rfl (by kernel_rfl) Try.func8 (by kernel_rfl)
    (of_decide_eq_true (by kernel_rfl)) (by unfold Func.isWrapper; first | (rw [if_pos (by decide +kernel)]; kernel_rfl) | (rw [if_neg (by decide +kernel)]; exact ⟨rfl, rfl⟩))
    (fun os started H enc _ => lifted os started H enc)
end Go.Proofs.Ytmakeoekklcbdaa.fnExactHeapHolds
namespace Go.Proofs.Ytmakeoekklcbdaa
theorem fnExactHeapHolds_holds : Rows.FnExactHeapHoldsSaid := fnExactHeapHolds.over
#print axioms fnExactHeapHolds_holds
end Go.Proofs.Ytmakeoekklcbdaa


/- The law FnExactIsConsistent holds: the program and the reference answer alike whether a structure is consistent. No condition. -/
import Derived.Test.YtmakeoekklcbdaaTMR
set_option linter.unusedSimpArgs false
set_option linter.unusedVariables false
namespace Go.Vm
open Go.Proofs
theorem dec_3 : ∀ (n : Nat) (c : List AV), TyN Try.prog n 3 c → ∃ x : Int, mkE false c = encInt x := by
  intro n c h
  obtain ⟨i, rfl, _⟩ := ty_int Try.underlying3 h
  exact ⟨i, rfl⟩
theorem dec_23 : ∀ (n : Nat) (c : List AV), TyN Try.prog n 23 c → ∃ x : List (Int), mkE false c = (encL 1 encInt) x := by
  intro n c h
  obtain ⟨xs, rfl⟩ := ty_slice encInt Try.underlying23 (sz := 1) (b := false) (by kernel_rfl) (isAgg_eq Try.underlying3) (fun m cs _ h => dec_3 m cs h) h
  exact ⟨xs, rfl⟩
theorem dec_138 : ∀ (n : Nat) (c : List AV), TyN Try.prog n 138 c → ∃ x : Node, mkE true c = encNode x := by
  intro n c h
  obtain ⟨m, ass, hm, rfl, hh⟩ := ty_struct Try.underlying138 (ts := [23, 23, 3, 3]) (by kernel_rfl) h
  rcases hh with _ | ⟨h0, _ | ⟨h1, _ | ⟨h2, _ | ⟨h3, _ | _⟩⟩⟩⟩
  obtain ⟨x0, rfl⟩ := ty_slice encInt Try.underlying23 (sz := 1) (b := false) (by kernel_rfl) (isAgg_eq Try.underlying3) (fun m cs _ h => dec_3 m cs h) h0
  obtain ⟨x1, rfl⟩ := ty_slice encInt Try.underlying23 (sz := 1) (b := false) (by kernel_rfl) (isAgg_eq Try.underlying3) (fun m cs _ h => dec_3 m cs h) h1
  obtain ⟨x2, rfl, _⟩ := ty_int Try.underlying3 h2
  obtain ⟨x3, rfl, _⟩ := ty_int Try.underlying3 h3
  exact ⟨⟨x0, x1, x2, x3⟩, by simp [mkE]⟩
theorem dec_22 : ∀ (n : Nat) (c : List AV), TyN Try.prog n 22 c → ∃ x : List (Node), mkE false c = (encL 4 encNode) x := by
  intro n c h
  obtain ⟨xs, rfl⟩ := ty_slice encNode Try.underlying22 (sz := 4) (b := true) (by kernel_rfl) (isAgg_eq Try.underlying138) (fun m cs _ h => dec_138 m cs h) h
  exact ⟨xs, rfl⟩
theorem dec_25 : ∀ (n : Nat) (c : List AV), TyN Try.prog n 25 c → ∃ x : Strc, mkE true c = encStrc x := by
  intro n c h
  obtain ⟨m, ass, hm, rfl, hh⟩ := ty_struct Try.underlying25 (ts := [22, 23]) (by kernel_rfl) h
  rcases hh with _ | ⟨h0, _ | ⟨h1, _ | _⟩⟩
  obtain ⟨x0, rfl⟩ := ty_slice encNode Try.underlying22 (sz := 4) (b := true) (by kernel_rfl) (isAgg_eq Try.underlying138) (fun m cs _ h => dec_138 m cs h) h0
  obtain ⟨x1, rfl⟩ := ty_slice encInt Try.underlying23 (sz := 1) (b := false) (by kernel_rfl) (isAgg_eq Try.underlying3) (fun m cs _ h => dec_3 m cs h) h1
  exact ⟨⟨x0, x1⟩, by simp [mkE]⟩
end Go.Vm
namespace Go.Proofs.Ytmakeoekklcbdaa.fnExactIsConsistent
open Go.RowKit Go.ChangeShapes Go.WideShapes Go.ChangeAt Go.Vm
theorem own : ownKnob Try.prog.godebug = none := by kernel_rfl
set_option maxRecDepth 100000 in
theorem lifted (os : Os) (started : os.Started) (H : Type) (enc : TypeId × Value → H) :
    ReturnsInHanded {} Try.checked os 9 .any (Rows.fnExactIsConsistentSpec.pre6 enc Try.prog Try.f9 Rows.fnExactIsConsistentRow.domain false) (Rows.fnExactIsConsistentSpec.post enc Try.prog Try.f9 false true false false) := by
  refine law_lift (C := Try.checked) (T := [3, 25, 22, 138, 23]) (tb := 4) own started (by kernel_rfl) Try.func9
    (ChangeSpec.witness6 (enc := enc) (C := Try.checked) false ⟨#[], #[.int .i64 0, .agg #[.slice none 0 0, .slice none 0 0]], []⟩ 8 (by kernel_rfl) (by kernel_rfl) (by kernel_rfl) (by kernel_rfl)) rfl ?_ (by kernel_rfl) Try.underlying4 (by kernel_rfl) ?_ (by kernel_rfl) ?_ ?_
  · intro ds h
    rw [Try.params9] at h
    match ds, h with
    | [d0, d1], _ => rfl
  · rw [Try.params9]; simp
  · rw [Try.params9]
    intro t ht
    have ht : t ∈ [3, 25] := ht
    rcases List.mem_cons.1 ht with rfl | ht
    · exact ⟨by kernel_rfl, of_decide_eq_true (by kernel_rfl)⟩
    rcases List.mem_cons.1 ht with rfl | ht
    · exact ⟨by kernel_rfl, of_decide_eq_true (by kernel_rfl)⟩
    cases ht
  · rw [Try.params9]
    intro ass h
    rcases h with _ | ⟨h0, _ | ⟨h1, _ | _⟩⟩
    obtain ⟨n0, h0⟩ := h0
    obtain ⟨x0, e0⟩ := dec_3 _ _ h0
    obtain ⟨n1, h1⟩ := h1
    obtain ⟨x1, e1⟩ := dec_25 _ _ h1
    change Ok Try.prog 9 (argE Try.prog _ _) _
    simp only [argE, isAgg_eq Try.underlying3, isAgg_eq Try.underlying25, TypeDesc.isStruct, e0, e1]
    exact ok_lawIsCons x0 x1
theorem over : Rows.fnExactIsConsistentRow.holds Try.pinned (OpenSpec.ofChange Rows.fnExactIsConsistentSpec) :=
  OpenClaim.holds_of_wide 9 Try.f9 rfl rfl rfl rfl rfl rfl rfl ⟨rfl, rfl, rfl, rfl, rfl⟩ rfl rfl rfl rfl rfl (by kernel_rfl) Try.func9 (by kernel_rfl)
    (of_decide_eq_true (by kernel_rfl)) (by unfold Func.isWrapper; first | (rw [if_pos (by decide +kernel)]; kernel_rfl) | (rw [if_neg (by decide +kernel)]; exact ⟨rfl, rfl⟩))
    (fun os started H enc _ => lifted os started H enc)
end Go.Proofs.Ytmakeoekklcbdaa.fnExactIsConsistent
namespace Go.Proofs.Ytmakeoekklcbdaa
theorem fnExactIsConsistent_holds : Rows.FnExactIsConsistentSaid := fnExactIsConsistent.over
#print axioms fnExactIsConsistent_holds
end Go.Proofs.Ytmakeoekklcbdaa


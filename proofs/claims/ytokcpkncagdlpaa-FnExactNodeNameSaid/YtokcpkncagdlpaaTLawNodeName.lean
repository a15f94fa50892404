/- The program's NodeName and the reference's agree for all arguments. No condition. -/
import Derived.Test.YtokcpkncagdlpaaTNN
set_option linter.unusedSimpArgs false
set_option linter.unusedVariables false
namespace Go.Vm
open Go.Proofs
theorem dec_3 : ∀ (n : Nat) (c : List AV), TyN Try.prog n 3 c → ∃ x : Int, mkE false c = encInt x := by
  intro n c h
  obtain ⟨i, rfl, _⟩ := ty_int Try.underlying3 h
  exact ⟨i, rfl⟩
theorem dec_28 : ∀ (n : Nat) (c : List AV), TyN Try.prog n 28 c → ∃ x : List (Int), mkE false c = (encL 1 encInt) x := by
  intro n c h
  obtain ⟨xs, rfl⟩ := ty_slice encInt Try.underlying28 (sz := 1) (b := false) (by kernel_rfl) (isAgg_eq Try.underlying3) (fun m cs _ h => dec_3 m cs h) h
  exact ⟨xs, rfl⟩
theorem dec_142 : ∀ (n : Nat) (c : List AV), TyN Try.prog n 142 c → ∃ x : Node, mkE true c = encNode x := by
  intro n c h
  obtain ⟨m, ass, hm, rfl, hh⟩ := ty_struct Try.underlying142 (ts := [28, 28, 3, 3]) (by kernel_rfl) h
  rcases hh with _ | ⟨h0, _ | ⟨h1, _ | ⟨h2, _ | ⟨h3, _ | _⟩⟩⟩⟩
  obtain ⟨x0, rfl⟩ := ty_slice encInt Try.underlying28 (sz := 1) (b := false) (by kernel_rfl) (isAgg_eq Try.underlying3) (fun m cs _ h => dec_3 m cs h) h0
  obtain ⟨x1, rfl⟩ := ty_slice encInt Try.underlying28 (sz := 1) (b := false) (by kernel_rfl) (isAgg_eq Try.underlying3) (fun m cs _ h => dec_3 m cs h) h1
  obtain ⟨x2, rfl, _⟩ := ty_int Try.underlying3 h2
  obtain ⟨x3, rfl, _⟩ := ty_int Try.underlying3 h3
  exact ⟨⟨x0, x1, x2, x3⟩, by simp [mkE]⟩
theorem dec_37 : ∀ (n : Nat) (c : List AV), TyN Try.prog n 37 c → ∃ x : List (Node), mkE false c = (encL 4 encNode) x := by
  intro n c h
  obtain ⟨xs, rfl⟩ := ty_slice encNode Try.underlying37 (sz := 4) (b := true) (by kernel_rfl) (isAgg_eq Try.underlying142) (fun m cs _ h => dec_142 m cs h) h
  exact ⟨xs, rfl⟩
theorem dec_39 : ∀ (n : Nat) (c : List AV), TyN Try.prog n 39 c → ∃ x : Strc, mkE true c = encStrc x := by
  intro n c h
  obtain ⟨m, ass, hm, rfl, hh⟩ := ty_struct Try.underlying39 (ts := [37, 28]) (by kernel_rfl) h
  rcases hh with _ | ⟨h0, _ | ⟨h1, _ | _⟩⟩
  obtain ⟨x0, rfl⟩ := ty_slice encNode Try.underlying37 (sz := 4) (b := true) (by kernel_rfl) (isAgg_eq Try.underlying142) (fun m cs _ h => dec_142 m cs h) h0
  obtain ⟨x1, rfl⟩ := ty_slice encInt Try.underlying28 (sz := 1) (b := false) (by kernel_rfl) (isAgg_eq Try.underlying3) (fun m cs _ h => dec_3 m cs h) h1
  exact ⟨⟨x0, x1⟩, by simp [mkE]⟩
end Go.Vm
namespace Go.Proofs.Ytokcpkncagdlpaa.fnExactNodeName
open Go.RowKit Go.ChangeShapes Go.WideShapes Go.ChangeAt Go.Vm
theorem own : ownKnob Try.prog.godebug = none := by kernel_rfl
set_option maxRecDepth 100000 in
theorem lifted (os : Os) (started : os.Started) (H : Type) (enc : TypeId × Value → H) :
    ReturnsInHanded {} Try.checked os 5 .any (Rows.fnExactNodeNameSpec.pre6 enc Try.prog Try.f5 Rows.fnExactNodeNameRow.domain false) (Rows.fnExactNodeNameSpec.post enc Try.prog Try.f5 false true false false) := by
  refine law_lift (C := Try.checked) (T := [39, 37, 142, 28, 3]) (tb := 4) own started (by kernel_rfl) Try.func5
    (ChangeSpec.witness6 (enc := enc) (C := Try.checked) false ⟨#[], #[.agg #[.slice none 0 0, .slice none 0 0], .int .i64 0], []⟩ 8 (by kernel_rfl) (by kernel_rfl) (by kernel_rfl) (by kernel_rfl)) rfl ?_ (by kernel_rfl) Try.underlying4 (by kernel_rfl) ?_ (by kernel_rfl) ?_ ?_
  · intro ds h
    rw [Try.params5] at h
    match ds, h with
    | [d0, d1], _ => rfl
  · rw [Try.params5]; simp
  · rw [Try.params5]
    intro t ht
    have ht : t ∈ [39, 3] := ht
    rcases List.mem_cons.1 ht with rfl | ht
    · exact ⟨by kernel_rfl, of_decide_eq_true (by kernel_rfl)⟩
    rcases List.mem_cons.1 ht with rfl | ht
    · exact ⟨by kernel_rfl, of_decide_eq_true (by kernel_rfl)⟩
    cases ht
  · rw [Try.params5]
    intro ass h
    rcases h with _ | ⟨h0, _ | ⟨h1, _ | _⟩⟩
    obtain ⟨n0, h0⟩ := h0
    obtain ⟨x0, e0⟩ := dec_39 _ _ h0
    obtain ⟨n1, h1⟩ := h1
    obtain ⟨x1, e1⟩ := dec_3 _ _ h1
    change Ok Try.prog 5 (argE Try.prog _ _) _
    simp only [argE, isAgg_eq Try.underlying3, isAgg_eq Try.underlying39, TypeDesc.isStruct, e0, e1]
    exact ok_lawNodeName x0 x1
theorem over : Rows.fnExactNodeNameRow.holds Try.pinned (OpenSpec.ofChange Rows.fnExactNodeNameSpec) :=
  OpenClaim.holds_of_wide 5 Try.f5 rfl rfl rfl rfl rfl rfl rfl ⟨rfl, rfl, rfl, rfl, rfl⟩ rfl rfl rfl rfl rfl (by kernel_rfl) Try.func5 (by kernel_rfl)
    (of_decide_eq_true (by kernel_rfl)) (by unfold Func.isWrapper; first | (rw [if_pos (by decide +kernel)]; kernel_rfl) | (rw [if_neg (by decide +kernel)]; exact ⟨rfl, rfl⟩))
    (fun os started H enc _ => lifted os started H enc)
end Go.Proofs.Ytokcpkncagdlpaa.fnExactNodeName
namespace Go.Proofs.Ytokcpkncagdlpaa
theorem fnExactNodeName_holds : Rows.FnExactNodeNameSaid := fnExactNodeName.over
#print axioms fnExactNodeName_holds
end Go.Proofs.Ytokcpkncagdlpaa


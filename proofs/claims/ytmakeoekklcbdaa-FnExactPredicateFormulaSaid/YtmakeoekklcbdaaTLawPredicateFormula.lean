/- PredicateFormula: the closing. -/
import Derived.Test.YtmakeoekklcbdaaTGS
set_option linter.unusedSimpArgs false
set_option linter.unusedVariables false
namespace Go.Vm
open Go.Proofs
theorem dec_9 : ∀ (n : Nat) (c : List AV), TyN Try.prog n 9 c → ∃ x : List UInt8, (fun s : List UInt8 => s.length ≤ 9223372036854775807) x ∧ mkE false c = encStr x := by
  intro n c h
  obtain ⟨i, hi, rfl⟩ := ty_strB Try.underlying9 h
  exact ⟨i, hi, rfl⟩
theorem dec_50 : ∀ (n : Nat) (c : List AV), TyN Try.prog n 50 c → ∃ x : List (List UInt8), (fun xs : List (List UInt8) => ∀ x ∈ xs, (fun s : List UInt8 => s.length ≤ 9223372036854775807) x) x ∧ mkE false c = (encL 1 encStr) x := by
  intro n c h
  obtain ⟨xs, hx, rfl⟩ := ty_sliceB encStr (fun s : List UInt8 => s.length ≤ 9223372036854775807) Try.underlying50 (sz := 1) (b := false) (by kernel_rfl) (isAgg_eq Try.underlying9) (fun m cs _ h => dec_9 m cs h) h
  exact ⟨xs, hx, rfl⟩
theorem dec_52 : ∀ (n : Nat) (c : List AV), TyN Try.prog n 52 c → ∃ x : Stmt, (fun x : Stmt => x.a.length ≤ 9223372036854775807 ∧ x.b.length ≤ 9223372036854775807) x ∧ mkE true c = encStmt x := by
  intro n c h
  obtain ⟨m, ass, hm, rfl, hh⟩ := ty_struct Try.underlying52 (ts := [3, 9, 9]) (by kernel_rfl) h
  rcases hh with _ | ⟨h0, _ | ⟨h1, _ | ⟨h2, _ | _⟩⟩⟩
  obtain ⟨x0, rfl, _⟩ := ty_int Try.underlying3 h0
  obtain ⟨x1, q1, rfl⟩ := ty_strB Try.underlying9 h1
  obtain ⟨x2, q2, rfl⟩ := ty_strB Try.underlying9 h2
  exact ⟨⟨x0, x1, x2⟩, ⟨q1, q2⟩, by simp [mkE]⟩
theorem dec_3 : ∀ (n : Nat) (c : List AV), TyN Try.prog n 3 c → ∃ x : Int, mkE false c = encInt x := by
  intro n c h
  obtain ⟨i, rfl, _⟩ := ty_int Try.underlying3 h
  exact ⟨i, rfl⟩
end Go.Vm
namespace Go.Proofs.Ytmakeoekklcbdaa.fnExactPredicateFormula
open Go.RowKit Go.ChangeShapes Go.WideShapes Go.ChangeAt Go.Vm
theorem own : ownKnob Try.prog.godebug = none := by kernel_rfl
set_option maxRecDepth 100000 in
theorem lifted (os : Os) (started : os.Started) (H : Type) (enc : TypeId × Value → H) :
    ReturnsInHanded {} Try.checked os 7 .any (Rows.fnExactPredicateFormulaSpec.pre6 enc Try.prog Try.f7 Rows.fnExactPredicateFormulaRow.domain false) (Rows.fnExactPredicateFormulaSpec.post enc Try.prog Try.f7 false true false false) := by
  refine law_lift (C := Try.checked) (T := [50, 9, 52, 3]) (tb := 4) own started (by kernel_rfl) Try.func7
    (ChangeSpec.witness6 (enc := enc) (C := Try.checked) false ⟨#[], #[.slice none 0 0, .agg #[.int .i64 0, .string .empty, .string .empty], .int .i64 0], []⟩ 8 (by kernel_rfl) (by kernel_rfl) (by kernel_rfl) (by kernel_rfl)) rfl ?_ (by kernel_rfl) Try.underlying4 (by kernel_rfl) ?_ (by kernel_rfl) ?_ ?_
  · intro ds h
    rw [Try.params7] at h
    match ds, h with
    | [d0, d1, d2], _ => rfl
  · rw [Try.params7]; simp
  · rw [Try.params7]
    intro t ht
    have ht : t ∈ [50, 52, 3] := ht
    rcases List.mem_cons.1 ht with rfl | ht
    · exact ⟨by kernel_rfl, of_decide_eq_true (by kernel_rfl)⟩
    rcases List.mem_cons.1 ht with rfl | ht
    · exact ⟨by kernel_rfl, of_decide_eq_true (by kernel_rfl)⟩
    rcases List.mem_cons.1 ht with rfl | ht
    · exact ⟨by kernel_rfl, of_decide_eq_true (by kernel_rfl)⟩
    cases ht
  · rw [Try.params7]
    intro ass h
    rcases h with _ | ⟨h0, _ | ⟨h1, _ | ⟨h2, _ | _⟩⟩⟩
    obtain ⟨n0, h0⟩ := h0
    obtain ⟨x0, q0, e0⟩ := dec_50 _ _ h0
    obtain ⟨n1, h1⟩ := h1
    obtain ⟨x1, q1, e1⟩ := dec_52 _ _ h1
    obtain ⟨n2, h2⟩ := h2
    obtain ⟨x2, e2⟩ := dec_3 _ _ h2
    change Ok Try.prog 7 (argE Try.prog _ _) _
    simp only [argE, isAgg_eq Try.underlying3, isAgg_eq Try.underlying50, isAgg_eq Try.underlying52, TypeDesc.isStruct, e0, e1, e2]
    exact ok_lawPred x0 q0 x1 q1 x2
theorem over : Rows.fnExactPredicateFormulaRow.holds Try.pinned (OpenSpec.ofChange Rows.fnExactPredicateFormulaSpec) :=
  OpenClaim.holds_of_wide 7 Try.f7 rfl rfl rfl rfl rfl rfl rfl ⟨rfl, rfl, rfl, rfl, rfl⟩ rfl rfl rfl rfl rfl (by kernel_rfl) Try.func7 (by kernel_rfl)
    (of_decide_eq_true (by kernel_rfl)) (by unfold Func.isWrapper; first | (rw [if_pos (by decide +kernel)]; kernel_rfl) | (rw [if_neg (by decide +kernel)]; exact ⟨rfl, rfl⟩))
    (fun os started H enc _ => lifted os started H enc)
end Go.Proofs.Ytmakeoekklcbdaa.fnExactPredicateFormula
namespace Go.Proofs.Ytmakeoekklcbdaa
theorem fnExactPredicateFormula_holds : Rows.FnExactPredicateFormulaSaid := fnExactPredicateFormula.over
#print axioms fnExactPredicateFormula_holds
end Go.Proofs.Ytmakeoekklcbdaa


/- Exec of the program and of the reference answer alike, for all arguments. Condition: none. -/
import Derived.Test.YtkclkieeapdeiaaTLG
set_option linter.unusedSimpArgs false
set_option linter.unusedVariables false
namespace Go.Vm
open Go.Proofs
theorem dec_9 : ∀ (n : Nat) (c : List AV), TyN Try.prog n 9 c → ∃ x : List UInt8, (fun s : List UInt8 => s.length ≤ 9223372036854775807) x ∧ mkE false c = encStr x := by
  intro n c h
  obtain ⟨i, hi, rfl⟩ := ty_strB Try.underlying9 h
  exact ⟨i, hi, rfl⟩
theorem dec_24 : ∀ (n : Nat) (c : List AV), TyN Try.prog n 24 c → ∃ x : List (List UInt8), (fun xs : List (List UInt8) => ∀ x ∈ xs, (fun s : List UInt8 => s.length ≤ 9223372036854775807) x) x ∧ mkE false c = (encL 1 encStr) x := by
  intro n c h
  obtain ⟨xs, hx, rfl⟩ := ty_sliceB encStr (fun s : List UInt8 => s.length ≤ 9223372036854775807) Try.underlying24 (sz := 1) (b := false) (by kernel_rfl) (isAgg_eq Try.underlying9) (fun m cs _ h => dec_9 m cs h) h
  exact ⟨xs, hx, rfl⟩
theorem dec_41 : ∀ (n : Nat) (c : List AV), TyN Try.prog n 41 c → ∃ x : Stmt, (fun x : Stmt => x.a.length ≤ 9223372036854775807 ∧ x.b.length ≤ 9223372036854775807) x ∧ mkE true c = encStmt x := by
  intro n c h
  obtain ⟨m, ass, hm, rfl, hh⟩ := ty_struct Try.underlying41 (ts := [3, 9, 9]) (by kernel_rfl) h
  rcases hh with _ | ⟨h0, _ | ⟨h1, _ | ⟨h2, _ | _⟩⟩⟩
  obtain ⟨x0, rfl, _⟩ := ty_int Try.underlying3 h0
  obtain ⟨x1, q1, rfl⟩ := ty_strB Try.underlying9 h1
  obtain ⟨x2, q2, rfl⟩ := ty_strB Try.underlying9 h2
  exact ⟨⟨x0, x1, x2⟩, ⟨q1, q2⟩, by simp [mkE]⟩
theorem dec_3 : ∀ (n : Nat) (c : List AV), TyN Try.prog n 3 c → ∃ x : Int, mkE false c = encInt x := by
  intro n c h
  obtain ⟨i, rfl, _⟩ := ty_int Try.underlying3 h
  exact ⟨i, rfl⟩
theorem dec_27 : ∀ (n : Nat) (c : List AV), TyN Try.prog n 27 c → ∃ x : List (Int), mkE false c = (encL 1 encInt) x := by
  intro n c h
  obtain ⟨xs, rfl⟩ := ty_slice encInt Try.underlying27 (sz := 1) (b := false) (by kernel_rfl) (isAgg_eq Try.underlying3) (fun m cs _ h => dec_3 m cs h) h
  exact ⟨xs, rfl⟩
theorem dec_42 : ∀ (n : Nat) (c : List AV), TyN Try.prog n 42 c → ∃ x : Heap, mkE true c = encHeap x := by
  intro n c h
  obtain ⟨m, ass, hm, rfl, hh⟩ := ty_struct Try.underlying42 (ts := [27, 27]) (by kernel_rfl) h
  rcases hh with _ | ⟨h0, _ | ⟨h1, _ | _⟩⟩
  obtain ⟨x0, rfl⟩ := ty_slice encInt Try.underlying27 (sz := 1) (b := false) (by kernel_rfl) (isAgg_eq Try.underlying3) (fun m cs _ h => dec_3 m cs h) h0
  obtain ⟨x1, rfl⟩ := ty_slice encInt Try.underlying27 (sz := 1) (b := false) (by kernel_rfl) (isAgg_eq Try.underlying3) (fun m cs _ h => dec_3 m cs h) h1
  exact ⟨⟨x0, x1⟩, by simp [mkE]⟩
end Go.Vm
namespace Go.Proofs.Ytkclkieeapdeiaa.fnExactExec
open Go.RowKit Go.ChangeShapes Go.WideShapes Go.ChangeAt Go.Vm
theorem own : ownKnob Try.prog.godebug = none := by kernel_rfl
set_option maxRecDepth 100000 in
theorem lifted (os : Os) (started : os.Started) (H : Type) (enc : TypeId × Value → H) :
    ReturnsInHanded {} Try.checked os 4 .any (Rows.fnExactExecSpec.pre6 enc Try.prog Try.f4 Rows.fnExactExecRow.domain false) (Rows.fnExactExecSpec.post enc Try.prog Try.f4 false true false false) := by
  refine law_lift (C := Try.checked) (T := [24, 9, 41, 3, 42, 27]) (tb := 4) own started (by kernel_rfl) Try.func4
    (ChangeSpec.witness6 (enc := enc) (C := Try.checked) false ⟨#[], #[.slice none 0 0, .agg #[.int .i64 0, .string .empty, .string .empty], .agg #[.slice none 0 0, .slice none 0 0]], []⟩ 8 (by kernel_rfl) (by kernel_rfl) (by kernel_rfl) (by kernel_rfl)) rfl ?_ (by kernel_rfl) Try.underlying4 (by kernel_rfl) ?_ (by kernel_rfl) ?_ ?_
  · intro ds h
    rw [Try.params4] at h
    match ds, h with
    | [d0, d1, d2], _ => rfl
  · rw [Try.params4]; simp
  · rw [Try.params4]
    intro t ht
    have ht : t ∈ [24, 41, 42] := ht
    rcases List.mem_cons.1 ht with rfl | ht
    · exact ⟨by kernel_rfl, of_decide_eq_true (by kernel_rfl)⟩
    rcases List.mem_cons.1 ht with rfl | ht
    · exact ⟨by kernel_rfl, of_decide_eq_true (by kernel_rfl)⟩
    rcases List.mem_cons.1 ht with rfl | ht
    · exact ⟨by kernel_rfl, of_decide_eq_true (by kernel_rfl)⟩
    cases ht
  · rw [Try.params4]
    intro ass h
    rcases h with _ | ⟨h0, _ | ⟨h1, _ | ⟨h2, _ | _⟩⟩⟩
    obtain ⟨n0, h0⟩ := h0
    obtain ⟨x0, q0, e0⟩ := dec_24 _ _ h0
    obtain ⟨n1, h1⟩ := h1
    obtain ⟨x1, q1, e1⟩ := dec_41 _ _ h1
    obtain ⟨n2, h2⟩ := h2
    obtain ⟨x2, e2⟩ := dec_42 _ _ h2
    change Ok Try.prog 4 (argE Try.prog _ _) _
    simp only [argE, isAgg_eq Try.underlying24, isAgg_eq Try.underlying41, isAgg_eq Try.underlying42, TypeDesc.isStruct, e0, e1, e2]
    exact ok_lawExec x0 q0 x1 q1 x2
theorem over : Rows.fnExactExecRow.holds Try.pinned (OpenSpec.ofChange Rows.fnExactExecSpec) :=
  OpenClaim.holds_of_wide 4 Try.f4 rfl rfl rfl rfl rfl rfl rfl ⟨rfl, rfl, rfl, rfl, rfl⟩ rfl rfl rfl rfl rfl (by kernel_rfl) Try.func4 (by kernel_rfl)
    (of_decide_eq_true (by kernel_rfl)) (by unfold Func.isWrapper; first | (rw [if_pos (by decide +kernel)]; kernel_rfl) | (rw [if_neg (by decide +kernel)]; exact ⟨rfl, rfl⟩))
    (fun os started H enc _ => lifted os started H enc)
end Go.Proofs.Ytkclkieeapdeiaa.fnExactExec
namespace Go.Proofs.Ytkclkieeapdeiaa
theorem fnExactExec_holds : Rows.FnExactExecSaid := fnExactExec.over
#print axioms fnExactExec_holds
end Go.Proofs.Ytkclkieeapdeiaa


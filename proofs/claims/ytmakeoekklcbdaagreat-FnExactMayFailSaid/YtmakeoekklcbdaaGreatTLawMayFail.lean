/- The law FnExactMayFail holds: the program and the reference tell the same failures of a statement, and what is told shares no memory. No condition. -/
import Derived.Test.YtmakeoekklcbdaaGreatTMI
set_option linter.unusedSimpArgs false
set_option linter.unusedVariables false
namespace Go.Vm
open Go.Proofs
theorem dec_9 : ∀ (n : Nat) (c : List AV), TyN Tryz.prog n 9 c → ∃ x : List UInt8, (fun s : List UInt8 => s.length ≤ 9223372036854775807) x ∧ mkE false c = encStr x := by
  intro n c h
  obtain ⟨i, hi, rfl⟩ := ty_strB Tryz.underlying9 h
  exact ⟨i, hi, rfl⟩
theorem dec_22 : ∀ (n : Nat) (c : List AV), TyN Tryz.prog n 22 c → ∃ x : List (List UInt8), (fun xs : List (List UInt8) => ∀ x ∈ xs, (fun s : List UInt8 => s.length ≤ 9223372036854775807) x) x ∧ mkE false c = (encL 1 encStr) x := by
  intro n c h
  obtain ⟨xs, hx, rfl⟩ := ty_sliceB encStr (fun s : List UInt8 => s.length ≤ 9223372036854775807) Tryz.underlying22 (sz := 1) (b := false) (by kernel_rfl) (isAgg_eq Tryz.underlying9) (fun m cs _ h => dec_9 m cs h) h
  exact ⟨xs, hx, rfl⟩
theorem dec_24 : ∀ (n : Nat) (c : List AV), TyN Tryz.prog n 24 c → ∃ x : Stmt, (fun x : Stmt => x.a.length ≤ 9223372036854775807 ∧ x.b.length ≤ 9223372036854775807) x ∧ mkE true c = encStmt x := by
  intro n c h
  obtain ⟨m, ass, hm, rfl, hh⟩ := ty_struct Tryz.underlying24 (ts := [3, 9, 9]) (by kernel_rfl) h
  rcases hh with _ | ⟨h0, _ | ⟨h1, _ | ⟨h2, _ | _⟩⟩⟩
  obtain ⟨x0, rfl, _⟩ := ty_int Tryz.underlying3 h0
  obtain ⟨x1, q1, rfl⟩ := ty_strB Tryz.underlying9 h1
  obtain ⟨x2, q2, rfl⟩ := ty_strB Tryz.underlying9 h2
  exact ⟨⟨x0, x1, x2⟩, ⟨q1, q2⟩, by simp [mkE]⟩
theorem dec_3 : ∀ (n : Nat) (c : List AV), TyN Tryz.prog n 3 c → ∃ x : Int, mkE false c = encInt x := by
  intro n c h
  obtain ⟨i, rfl, _⟩ := ty_int Tryz.underlying3 h
  exact ⟨i, rfl⟩
theorem dec_26 : ∀ (n : Nat) (c : List AV), TyN Tryz.prog n 26 c → ∃ x : List (Int), mkE false c = (encL 1 encInt) x := by
  intro n c h
  obtain ⟨xs, rfl⟩ := ty_slice encInt Tryz.underlying26 (sz := 1) (b := false) (by kernel_rfl) (isAgg_eq Tryz.underlying3) (fun m cs _ h => dec_3 m cs h) h
  exact ⟨xs, rfl⟩
theorem dec_67 : ∀ (n : Nat) (c : List AV), TyN Tryz.prog n 67 c → ∃ x : Node, mkE true c = encNode x := by
  intro n c h
  obtain ⟨m, ass, hm, rfl, hh⟩ := ty_struct Tryz.underlying67 (ts := [26, 26, 3, 3]) (by kernel_rfl) h
  rcases hh with _ | ⟨h0, _ | ⟨h1, _ | ⟨h2, _ | ⟨h3, _ | _⟩⟩⟩⟩
  obtain ⟨x0, rfl⟩ := ty_slice encInt Tryz.underlying26 (sz := 1) (b := false) (by kernel_rfl) (isAgg_eq Tryz.underlying3) (fun m cs _ h => dec_3 m cs h) h0
  obtain ⟨x1, rfl⟩ := ty_slice encInt Tryz.underlying26 (sz := 1) (b := false) (by kernel_rfl) (isAgg_eq Tryz.underlying3) (fun m cs _ h => dec_3 m cs h) h1
  obtain ⟨x2, rfl, _⟩ := ty_int Tryz.underlying3 h2
  obtain ⟨x3, rfl, _⟩ := ty_int Tryz.underlying3 h3
  exact ⟨⟨x0, x1, x2, x3⟩, by simp [mkE]⟩
theorem dec_25 : ∀ (n : Nat) (c : List AV), TyN Tryz.prog n 25 c → ∃ x : List (Node), mkE false c = (encL 4 encNode) x := by
  intro n c h
  obtain ⟨xs, rfl⟩ := ty_slice encNode Tryz.underlying25 (sz := 4) (b := true) (by kernel_rfl) (isAgg_eq Tryz.underlying67) (fun m cs _ h => dec_67 m cs h) h
  exact ⟨xs, rfl⟩
theorem dec_28 : ∀ (n : Nat) (c : List AV), TyN Tryz.prog n 28 c → ∃ x : Strc, mkE true c = encStrc x := by
  intro n c h
  obtain ⟨m, ass, hm, rfl, hh⟩ := ty_struct Tryz.underlying28 (ts := [25, 26]) (by kernel_rfl) h
  rcases hh with _ | ⟨h0, _ | ⟨h1, _ | _⟩⟩
  obtain ⟨x0, rfl⟩ := ty_slice encNode Tryz.underlying25 (sz := 4) (b := true) (by kernel_rfl) (isAgg_eq Tryz.underlying67) (fun m cs _ h => dec_67 m cs h) h0
  obtain ⟨x1, rfl⟩ := ty_slice encInt Tryz.underlying26 (sz := 1) (b := false) (by kernel_rfl) (isAgg_eq Tryz.underlying3) (fun m cs _ h => dec_3 m cs h) h1
  exact ⟨⟨x0, x1⟩, by simp [mkE]⟩
end Go.Vm
namespace Go.Proofs.YtmakeoekklcbdaaGreat.fnExactMayFail
open Go.RowKit Go.ChangeShapes Go.WideShapes Go.ChangeAt Go.Vm
theorem own : ownKnob Tryz.prog.godebug = none := by kernel_rfl
set_option maxRecDepth 100000 in
theorem lifted (os : Os) (started : os.Started) (H : Type) (enc : TypeId × Value → H) :
    ReturnsInHanded {} Tryz.checked os 3 .any (Rows.fnExactMayFailSpec.pre6 enc Tryz.prog Tryz.f3 Rows.fnExactMayFailRow.domain false) (Rows.fnExactMayFailSpec.post enc Tryz.prog Tryz.f3 false true false false) := by
  refine law_lift (C := Tryz.checked) (T := [22, 9, 24, 3, 28, 25, 67, 26]) (tb := 4) own started (by kernel_rfl) Tryz.func3
    (ChangeSpec.witness6 (enc := enc) (C := Tryz.checked) false ⟨#[], #[.slice none 0 0, .agg #[.int .i64 0, .string .empty, .string .empty], .agg #[.slice none 0 0, .slice none 0 0]], []⟩ 8 (by kernel_rfl) (by kernel_rfl) (by kernel_rfl) (by kernel_rfl)) rfl ?_ (by kernel_rfl) Tryz.underlying4 (by kernel_rfl) ?_ (by kernel_rfl) ?_ ?_
  · intro ds h
    rw [Tryz.params3] at h
    match ds, h with
    | [d0, d1, d2], _ => rfl
  · rw [Tryz.params3]; simp
  · rw [Tryz.params3]
    intro t ht
    have ht : t ∈ [22, 24, 28] := ht
    rcases List.mem_cons.1 ht with rfl | ht
    · exact ⟨by kernel_rfl, of_decide_eq_true (by kernel_rfl)⟩
    rcases List.mem_cons.1 ht with rfl | ht
    · exact ⟨by kernel_rfl, of_decide_eq_true (by kernel_rfl)⟩
    rcases List.mem_cons.1 ht with rfl | ht
    · exact ⟨by kernel_rfl, of_decide_eq_true (by kernel_rfl)⟩
    cases ht
  · rw [Tryz.params3]
    intro ass h
    rcases h with _ | ⟨h0, _ | ⟨h1, _ | ⟨h2, _ | _⟩⟩⟩
    obtain ⟨n0, h0⟩ := h0
    obtain ⟨x0, q0, e0⟩ := dec_22 _ _ h0
    obtain ⟨n1, h1⟩ := h1
    obtain ⟨x1, q1, e1⟩ := dec_24 _ _ h1
    obtain ⟨n2, h2⟩ := h2
    obtain ⟨x2, e2⟩ := dec_28 _ _ h2
    change Ok Tryz.prog 3 (argE Tryz.prog _ _) _
    simp only [argE, isAgg_eq Tryz.underlying22, isAgg_eq Tryz.underlying24, isAgg_eq Tryz.underlying28, TypeDesc.isStruct, e0, e1, e2]
    exact ok_lawMayFail x0 q0 x1 q1 x2
theorem over : Rows.fnExactMayFailRow.holds Tryz.pinned (OpenSpec.ofChange Rows.fnExactMayFailSpec) :=
  OpenClaim.holds_of_wide 3 Tryz.f3 rfl rfl rfl rfl rfl rfl rfl ⟨rfl, rfl, rfl, rfl, rfl⟩ rfl rfl rfl rfl rfl (by kernel_rfl) Tryz.func3 (by kernel_rfl)
    (of_decide_eq_true (by kernel_rfl)) (by unfold Func.isWrapper; first | (rw [if_pos (by decide +kernel)]; kernel_rfl) | (rw [if_neg (by decide +kernel)]; exact ⟨rfl, rfl⟩))
    (fun os started H enc _ => lifted os started H enc)
end Go.Proofs.YtmakeoekklcbdaaGreat.fnExactMayFail
namespace Go.Proofs.YtmakeoekklcbdaaGreat
theorem fnExactMayFail_holds : Rows.FnExactMayFailSaid := fnExactMayFail.over
#print axioms fnExactMayFail_holds
end Go.Proofs.YtmakeoekklcbdaaGreat


/- Statements of both. No condition. -/
import Derived.Test.YtkclkieeapdeiaaTST
set_option linter.unusedSimpArgs false
set_option linter.unusedVariables false
namespace Go.Vm
open Go.Proofs
theorem names_cases (k : Int) : namesN k = -1 ∨ namesN k = 0 ∨ namesN k = 1 ∨ namesN k = 2 := by
  unfold namesN
  split
  · simp
  · split
    · simp
    · split <;> simp
/-- Has a statement the names of its kind? -/
def namesOkB (p : List UInt8 → Bool) (s : Stmt) : Bool := decide (0 ≤ namesN s.kind) && (if 0 < namesN s.kind then p s.a else decide (s.a = [])) && (if 1 < namesN s.kind then p s.b else decide (s.b = []))
def stmtB (vars : List (List UInt8)) (s : Stmt) : Bool := varsB vars && namesOkB (fun a => decide (0 ≤ ixS vars a)) s
@[simp] def ct_hasNames : Ct := ⟨74, Stmt × Nat × List AV × (List UInt8 → Bool), fun x => callable Try.prog x.2.1 = true ∧ ((∀ m H, lendCs m H 19 x.2.2.1 = some x.2.2.1) ∧ ∀ m H, lendAll m H x.2.2.1 = some x.2.2.1) ∧ ∀ a, Ok Try.prog x.2.1 (.str a :: x.2.2.1) (.bool (x.2.2.2 a)), fun x => [encStmt x.1, .fn x.2.1 x.2.2.1], fun x => .bool (namesOkB x.2.2.2 x.1)⟩
set_option maxHeartbeats 4000000 in
theorem ok_hasNames : ct_hasNames.Ok Try.prog := by
  rintro ⟨⟨k, a, b⟩, f, caps, p⟩ ⟨hc, ⟨hlend, hlendA⟩, hok⟩
  change callable Try.prog f = true at hc
  change ∀ m H, lendCs m H 19 caps = some caps at hlend
  change ∀ m H, lendAll m H caps = some caps at hlendA
  change ∀ a, Ok Try.prog f (.str a :: caps) (.bool (p a)) at hok
  refine Ok.of_cw fok_impl_Stmt_hasNames (go_ok (tab_cons ok_pNamesOf tab_nil) ?_)
  simp [code_impl_Stmt_hasNames, List.replicate]
  generalize hn : namesN k = n
  have hcases := names_cases k
  rw [hn] at hcases
  have hR : namesOkB p ⟨k, a, b⟩ = (decide (0 ≤ n) && (if 0 < n then p a else decide (a = [])) && (if 1 < n then p b else decide (b = []))) := by unfold namesOkB; rw [hn]
  rw [hR]
  refine cw_round (fun (i : Nat) => ⟨slots 43 [(1, .fn f caps), (5, .int .i64 n), (15, .slref 1 0 2 2), (16, .int .i64 2), (17, .int .i64 i)], [.dead, .row true 9 1 [.str a, .str b]]⟩)
    (fun i => i ≤ 2 ∧ (1 ≤ i → (if 0 < n then p a else decide (a = [])) = true) ∧ (2 ≤ i → (if 1 < n then p b else decide (b = [])) = true)) (fun i => 2 - i) 0 ⟨by omega, by omega, by omega⟩ ?_ ?_
  · exact weak_seal 2 (by omega) (by simp) (by simp [List.replicate, hlend])
  · rintro N hN i ⟨hi, h1, h2⟩
    refine go_ok (tab_cons (c := ⟨f, List UInt8, fun _ => True, fun a => .str a :: caps, fun a => .bool (p a)⟩) (fun a _ => hok a) tab_nil) ?_
    obtain rfl | rfl | rfl : i = 0 ∨ i = 1 ∨ i = 2 := by omega
    · rcases hcases with rfl | rfl | rfl | rfl
      · by_cases ha : a = []
        · simp [List.replicate, hc, hlend, hlendA, ha]
          refine hN 0 1 _ ⟨by omega, by simp [ha], by omega⟩ (by omega) (weak_seal 2 (by omega) ?_ ?_)
          · simp [ha]
          · simp [List.replicate, hlend]
        · simp [List.replicate, hc, hlend, hlendA, ha]
      · by_cases ha : a = []
        · simp [List.replicate, hc, hlend, hlendA, ha]
          refine hN 0 1 _ ⟨by omega, by simp [ha], by omega⟩ (by omega) (weak_seal 2 (by omega) ?_ ?_)
          · simp [ha]
          · simp [List.replicate, hlend]
        · simp [List.replicate, hc, hlend, hlendA, ha]
      · cases ha : p a
        · simp [List.replicate, hc, hlend, hlendA, ha]
        · simp [List.replicate, hc, hlend, hlendA, ha]
          refine hN 0 1 _ ⟨by omega, by simp [ha], by omega⟩ (by omega) (weak_seal 2 (by omega) ?_ ?_)
          · simp [ha]
          · simp [List.replicate, hlend]
      · cases ha : p a
        · simp [List.replicate, hc, hlend, hlendA, ha]
        · simp [List.replicate, hc, hlend, hlendA, ha]
          refine hN 0 1 _ ⟨by omega, by simp [ha], by omega⟩ (by omega) (weak_seal 2 (by omega) ?_ ?_)
          · simp [ha]
          · simp [List.replicate, hlend]
    · have q1 := h1 (by omega)
      rcases hcases with rfl | rfl | rfl | rfl
      · by_cases hb : b = []
        · simp [List.replicate, hc, hlend, hlendA, hb]
          refine hN 1 2 _ ⟨by omega, fun _ => q1, by simp [hb]⟩ (by omega) (weak_seal 2 (by omega) ?_ ?_)
          · simp [hb]
          · simp [List.replicate, hlend]
        · simp [List.replicate, hc, hlend, hlendA, hb]
      · by_cases hb : b = []
        · simp [List.replicate, hc, hlend, hlendA, hb]
          refine hN 1 2 _ ⟨by omega, fun _ => q1, by simp [hb]⟩ (by omega) (weak_seal 2 (by omega) ?_ ?_)
          · simp [hb]
          · simp [List.replicate, hlend]
        · simp [List.replicate, hc, hlend, hlendA, hb]
      · by_cases hb : b = []
        · simp [List.replicate, hc, hlend, hlendA, hb]
          refine hN 1 2 _ ⟨by omega, fun _ => q1, by simp [hb]⟩ (by omega) (weak_seal 2 (by omega) ?_ ?_)
          · simp [hb]
          · simp [List.replicate, hlend]
        · simp [List.replicate, hc, hlend, hlendA, hb]
      · cases hb : p b
        · simp [List.replicate, hc, hlend, hlendA, hb]
        · simp [List.replicate, hc, hlend, hlendA, hb]
          refine hN 1 2 _ ⟨by omega, fun _ => q1, by simp [hb]⟩ (by omega) (weak_seal 2 (by omega) ?_ ?_)
          · simp [hb]
          · simp [List.replicate, hlend]
    · have q1 := h1 (by omega)
      have q2 := h2 (by omega)
      rw [q1, q2, Bool.and_true, Bool.and_true]
      rcases hcases with rfl | rfl | rfl | rfl <;> simp [List.replicate]
@[simp] def ct_IsStmt1 : Ct := ⟨75, List UInt8 × List (List UInt8), fun _ => True, fun x => [.str x.1, .pro [encL 1 encStr x.2]], fun x => .bool (decide (0 ≤ ixS x.2 x.1))⟩
theorem ok_IsStmt1 : ct_IsStmt1.Ok Try.prog := by
  rintro ⟨a, vars⟩ -
  refine Ok.of_cw fok_impl_IsStmt_1 (go_ok (tab_cons ok_ContainsS tab_nil) ?_)
  simp [code_impl_IsStmt_1, List.replicate]
@[simp] def ct_pIsStmt : Ct := ⟨35, List (List UInt8) × Stmt, fun x => szVarsOk x.1, fun x => [encL 1 encStr x.1, encStmt x.2], fun x => .bool (stmtB x.1 x.2)⟩
set_option maxHeartbeats 1000000 in
theorem ok_pIsStmt : ct_pIsStmt.Ok Try.prog := by
  rintro ⟨vars, ⟨k, a, b⟩⟩ hv
  change szVarsOk vars at hv
  have hc : callable Try.prog 75 = true := by kernel_rfl
  refine Ok.of_cw fok_impl_IsStmt (go_ok (tab_cons ok_pAreVars (tab_cons ok_hasNames tab_nil)) ?_)
  cases c : varsB vars
  · have hf : stmtB vars ⟨k, a, b⟩ = false := by simp [stmtB, c]
    simp [code_impl_IsStmt, List.replicate, hv, c, hf]
  · have hf : stmtB vars ⟨k, a, b⟩ = namesOkB (fun a => decide (0 ≤ ixS vars a)) ⟨k, a, b⟩ := by simp [stmtB, c]
    simp [code_impl_IsStmt, List.replicate, hv, c, hf, hc, capOk, AV.isFn]
    exact ⟨fun a => decide (0 ≤ ixS vars a), fun a => ok_IsStmt1 (a, vars) trivial, rfl⟩
@[simp] def ct_sIsStmt : Ct := ⟨48, List (List UInt8) × Stmt, fun x => szVarsOk x.1, fun x => [encL 1 encStr x.1, encStmt x.2], fun x => .bool (stmtB x.1 x.2)⟩
set_option maxHeartbeats 4000000 in
set_option maxRecDepth 100000 in
theorem ok_sIsStmt : ct_sIsStmt.Ok Try.prog := by
  rintro ⟨vars, ⟨k, a, b⟩⟩ hv
  change szVarsOk vars at hv
  have hT : TabOk Try.prog _ := (tab_cons ok_sNamesOf (tab_cons ok_sAreVars (tab_cons ok_sIndexOf tab_nil)))
  refine Ok.of_cw fok_spec_IsStmt ?_
  simp only [code_spec_IsStmt, frame, List.length_cons, List.length_nil, List.replicate, Nat.reduceSub, Nat.reduceAdd, List.cons_append, List.nil_append]
  have hR : stmtB vars ⟨k, a, b⟩ = (varsB vars && (decide (0 ≤ namesN k) && (if 0 < namesN k then decide (0 ≤ ixS vars a) else decide (a = [])) && (if 1 < namesN k then decide (0 ≤ ixS vars b) else decide (b = [])))) := rfl
  change CW _ _ _ (retP _ (.bool (stmtB vars ⟨k, a, b⟩))) _
  rw [hR]
  have hcases := names_cases k
  generalize hk : namesN k = n at *
  refine cw_seq (go_ok hT ?_); simp [List.replicate]
  refine cw_seq (go_ok hT ?_); simp [List.replicate, hk]
  cases c : varsB vars
  · refine cw_seq (go_ok hT ?_); simp [List.replicate, hv, c]
  rcases hcases with rfl | rfl | rfl | rfl
  · refine cw_seq (go_ok hT ?_); simp [List.replicate, hv, c]
  · by_cases ha : a = []
    · by_cases hb : b = []
      · refine cw_seq (go_ok hT ?_); simp [List.replicate, hv, c, ha, hb]
        refine go_ok hT ?_; simp [List.replicate]
      · refine cw_seq (go_ok hT ?_); simp [List.replicate, hv, c, ha, hb]
    · refine cw_seq (go_ok hT ?_); simp [List.replicate, hv, c, ha]
  · by_cases hb : b = []
    · refine cw_seq (go_ok hT ?_); simp [List.replicate, hv, c, hb]
      refine go_ok hT ?_; simp [List.replicate]
    · refine cw_seq (go_ok hT ?_); simp [List.replicate, hv, c, hb]
  · refine cw_seq (go_ok hT ?_); simp [List.replicate, hv, c]
    by_cases ha : 0 ≤ ixS vars a
    · have ha' : ¬ (ixS vars a < 0) := by omega
      refine go_ok hT ?_; simp [List.replicate, ha, ha']
    · have ha' : ixS vars a < 0 := by omega
      refine go_ok hT ?_; simp [List.replicate, ha, ha']
end Go.Vm

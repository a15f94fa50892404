/- impl.Exec with a result in rows of its own. No condition. -/
import Derived.Test.YtkclkieeapdeiaaTEY
set_option linter.unusedSimpArgs false
set_option linter.unusedVariables false
namespace Go.Vm
open Go.Proofs
def exA (c : Int) (p : Heap) : Nat := if c = 0 then (if cellsB p = true then 17 else 12) else if c = 4 then 8 else 5
def exR (A : Nat) (r : Heap × Int) : AV := .tup [.agg [.slref A 0 r.1.vars.length r.1.vars.length, .slref (A + 1) 0 r.1.next.length r.1.next.length], .int .i64 r.2]
def exN (A : Nat) (r : Heap × Int) : List Blk := [.dead, .dead, .dead, .dead, .cells [.slref A 0 r.1.vars.length r.1.vars.length, .slref (A + 1) 0 r.1.next.length r.1.next.length]] ++ List.replicate (A - 5) .dead ++ [.row true 3 1 (r.1.vars.map encInt), .row true 3 1 (r.1.next.map encInt)]
@[simp] def ct_pExecN : CtN := ⟨7, Ex, fun x => szVarsOk x.vars ∧ szHeap x.h ≤ 1048576, fun x => [encL 1 encStr x.vars, encStmt x.s, encHeap x.h], fun x => exR (exA (execH x.vars x.s x.h).2 (perfH x.s.kind x.h (ixS x.vars x.s.a) (atV x.vars x.h x.s.a) (atV x.vars x.h x.s.b))) (execH x.vars x.s x.h), fun x => exN (exA (execH x.vars x.s x.h).2 (perfH x.s.kind x.h (ixS x.vars x.s.a) (atV x.vars x.h x.s.a) (atV x.vars x.h x.s.b))) (execH x.vars x.s x.h)⟩
set_option maxHeartbeats 4000000 in
set_option maxRecDepth 100000 in
theorem ok_pExecH : ∀ x, ct_pExecN.pre x → OkH Try.prog 7 (ct_pExecN.args x) [] (ct_pExecN.res x) (ct_pExecN.new x) := by
  rintro ⟨vars, s, h⟩ ⟨hv, hz⟩
  change szVarsOk vars at hv
  change szHeap h ≤ 1048576 at hz
  have hT : TabOk Try.prog _ := tab_h (CtN.hok ok_pCanon) (tab_cons ok_pIsStmt (tab_cons ok_pIsHeap (tab_cons ok_pIndexOf (tab_cons ok_at (tab_cons ok_needs (tab_cons ok_pIsTest (tab_cons ok_pholds (tab_cons ok_pPositions (tab_cons ok_ContainsI (tab_cons ok_pFollowed (tab_cons ok_performed (tab_cons ok_pHasLeak tab_nil))))))))))))
  simp only [ct_pExecN]
  by_cases q1 : ¬ (stmtB vars s = true)
  · have e : execH vars s h = (⟨[], []⟩, 7) := by unfold execH; rw [if_pos (fun c => q1 c.1)]
    simp only [Bool.not_eq_true] at q1
    rw [e]
    refine OkH.of_cw fok_impl_Exec ?_
    simp only [code_impl_Exec, frame, List.length_cons, List.length_nil, List.replicate, Nat.reduceSub, Nat.reduceAdd, List.cons_append, List.nil_append]
    refine cw_seq (go_ok hT ?_); simp [List.replicate]
    refine cw_seq (cw_seq (go_ok hT ?_)); simp [List.replicate, hv, q1]
    refine go_ok hT ?_; simp
    refine ⟨⟨slots 120 [(6, .pbox 4 0), (7, .int .i64 7)], _⟩, (weak_row 5 3 1 rfl).trans ((weak_row 6 3 1 rfl).trans (weak_less (H' := [.dead, .dead, .dead, .dead, .cells [.slref 5 0 0 0, .slref 6 0 0 0], .row true 3 1 [], .row true 3 1 []]) (by simp) (by simp [List.replicate]))), ?_⟩
    simp [retH, exR, exN, exA, List.replicate]
  by_cases q2 : ¬ (isHeapB vars.length h = true)
  · have e : execH vars s h = (⟨[], []⟩, 7) := by unfold execH; rw [if_pos (fun c => q2 c.2)]
    simp only [Bool.not_eq_true] at q2
    rw [e]
    refine OkH.of_cw fok_impl_Exec ?_
    simp only [code_impl_Exec, frame, List.length_cons, List.length_nil, List.replicate, Nat.reduceSub, Nat.reduceAdd, List.cons_append, List.nil_append]
    refine cw_seq (go_ok hT ?_); simp [List.replicate]
    refine cw_seq (cw_seq (go_ok hT ?_)); simp [List.replicate, hv, hz, Classical.not_not.1 q1, q2]
    refine go_ok hT ?_; simp
    refine ⟨⟨slots 120 [(6, .pbox 4 0), (7, .int .i64 7)], _⟩, (weak_row 5 3 1 rfl).trans ((weak_row 6 3 1 rfl).trans (weak_less (H' := [.dead, .dead, .dead, .dead, .cells [.slref 5 0 0 0, .slref 6 0 0 0], .row true 3 1 [], .row true 3 1 []]) (by simp) (by simp [List.replicate]))), ?_⟩
    simp [retH, exR, exN, exA, List.replicate]
  have q1 := Classical.not_not.1 q1
  have q2 := Classical.not_not.1 q2
  obtain ⟨b1, b2, b3, b4, b5, b6⟩ := heap_bounds q2
  obtain ⟨n1, n2, n3⟩ := stmt_names q1
  have hl : vars.length = h.vars.length := by omega
  have z2 : h.next.length ≤ 1048576 := by omega
  have z3 : h.vars.length ≤ 1048576 := by omega
  have hr : execH vars s h = (if testB s.kind = true ∧ holdsB s.kind (atV vars h s.a) (atV vars h s.b) = false then (⟨[], []⟩, 1)
    else if needB s.kind = true ∧ needV s.kind (atV vars h s.a) (atV vars h s.b) = -1 then (⟨[], []⟩, 2)
    else if s.kind = 3 ∧ h.next.length = 6 then (⟨[], []⟩, 6)
    else if s.kind = 8 ∧ (1 < (pos h.vars (atV vars h s.a)).length ∨ atV vars h s.a ∈ h.next) then (⟨[], []⟩, 5)
    else if s.kind = 7 ∧ atV vars h s.a ∈ followed h.next (atV vars h s.b) then (⟨[], []⟩, 3)
    else if leakB (perfH s.kind h (ixS vars s.a) (atV vars h s.a) (atV vars h s.b)) = true then (⟨[], []⟩, 4)
    else (canonH (perfH s.kind h (ixS vars s.a) (atV vars h s.a) (atV vars h s.b)), 0)) := by
    have hh : stmtB vars s = true ∧ isHeapB vars.length h = true := ⟨q1, q2⟩
    unfold execH
    rw [if_neg (fun c => c hh)]
  generalize execH vars s h = R at *
  have hpre : ∀ (o : Int), o = ixS vars s.a → ¬ (needB s.kind = true ∧ needV s.kind (atV vars h s.a) (atV vars h s.b) = -1) → Pf.Pre ⟨h, s, o, atV vars h s.a, atV vars h s.b⟩ := by
    rintro o rfl hne
    have hat : ∀ name, (0 ≤ ixS vars name ∧ ixS vars name < vars.length) → -1 ≤ atV vars h name ∧ atV vars h name < h.next.length := by
      intro name hn
      unfold atV
      rw [if_pos hn.1]
      have hlt : (ixS vars name).toNat < h.vars.length := by omega
      have : h.vars.getD (ixS vars name).toNat 0 = h.vars[(ixS vars name).toNat] := by simp [List.getD_eq_getElem?_getD, hlt]
      simp only [this]
      exact b5 _ (List.getElem_mem hlt)
    refine ⟨by simp only; omega, b4, fun y hy => ?_, fun y hy => ?_, fun hk => ?_, fun hk => ?_, fun hk => ?_⟩
    · have := b5 y hy; omega
    · have := b6 y hy; omega
    · have := n2 (by unfold namesN; simp only at hk; rcases hk with h | h | h | h | h <;> simp [h])
      simp only; omega
    · simp only at hk ⊢
      have h1 := hat s.a (n2 (by unfold namesN; rcases hk with h | h | h <;> simp [h]))
      have h2 : needB s.kind = true := by rcases hk with h | h | h <;> simp [h, needB, needV]
      have h3 : needV s.kind (atV vars h s.a) (atV vars h s.b) = atV vars h s.a := by rcases hk with h | h | h <;> simp [h, needB, needV]
      have h4 : ¬ atV vars h s.a = -1 := fun e => hne ⟨h2, h3.trans e⟩
      omega
    · simp only at hk ⊢
      have h1 := hat s.b (n3 (by unfold namesN; simp [hk]))
      have h4 : ¬ atV vars h s.b = -1 := fun e => hne ⟨by simp [hk, needB], by simp [hk, needV, e]⟩
      omega
  refine OkH.of_cw fok_impl_Exec ?_
  simp only [code_impl_Exec, frame, List.length_cons, List.length_nil, List.replicate, Nat.reduceSub, Nat.reduceAdd, List.cons_append, List.nil_append]
  refine cw_seq (go_ok hT ?_); simp [List.replicate]
  refine cw_seq (cw_seq (go_ok hT ?_)); simp [List.replicate, hv, hz, q1, q2]
  refine go_ok hT ?_; simp
  generalize hA : atV vars h s.a = a at *
  generalize hB : atV vars h s.b = b at *
  generalize hO : ixS vars s.a = o at *
  refine cw_seq (go_ok hT ?_); simp [List.replicate, isH, needs1, hasAl, hl, hA, hB, hO]
  rw [hr]
  clear hr
  have hz2 : szHeap h ≤ 1048576 := hz
  refine cw_to ⟨slots 120 [(0, encL 1 encStr vars), (4, .pbox 0 0), (5, .pbox 1 0), (6, .pbox 4 0), (7, .int .i64 0), (8, .int .i64 o), (9, .int .i64 a), (10, .int .i64 b), (11, .int .i64 (needV s.kind a b)), (12, .bool (needB s.kind))], [.cells [.int .i64 s.kind, .str s.a, .str s.b], .cells [encL 1 encInt h.vars, encL 1 encInt h.next], .nrow, .nrow, .cells [.slref 2 0 0 0, .slref 3 0 0 0]]⟩ ?_ ?_
  · refine go_ok hT ?_; simp [List.replicate]
    exact weak_less (by simp) (by simp [List.replicate])
  refine cw_seq (cw_block ?_)
  refine cw_to ⟨slots 120 [(0, encL 1 encStr vars), (4, .pbox 0 0), (5, .pbox 1 0), (6, .pbox 4 0), (7, .int .i64 0), (8, .int .i64 o), (9, .int .i64 a), (10, .int .i64 b), (11, .int .i64 (needV s.kind a b)), (12, .bool (needB s.kind)), (48, .bool (testB s.kind && !holdsB s.kind a b))], [.cells [.int .i64 s.kind, .str s.a, .str s.b], .cells [encL 1 encInt h.vars, encL 1 encInt h.next], .nrow, .nrow, .cells [.slref 2 0 0 0, .slref 3 0 0 0]]⟩ ?_ ?_
  · cases h1 : testB s.kind
    · refine go_ok hT ?_; simp [List.replicate, isH, needs1, hasAl, h1]
      exact weak_less (by simp) (by simp [List.replicate])
    · cases h2 : holdsB s.kind a b
      · refine go_ok hT ?_; simp [List.replicate, isH, needs1, hasAl, h1, h2]
        exact weak_less (by simp) (by simp [List.replicate])
      · refine go_ok hT ?_; simp [List.replicate, isH, needs1, hasAl, h1, h2]
        exact weak_less (by simp) (by simp [List.replicate])
  refine cw_cond (b := testB s.kind && !holdsB s.kind a b) (by simp [Opd.ev, slots, List.replicate]) (fun t => ?_) (fun t => ?_)
  · have t' : testB s.kind = true ∧ holdsB s.kind a b = false := by simpa using t
    rw [if_pos t']
    refine go_ok hT ?_; simp [List.replicate]
    refine ⟨⟨slots 120 [(6, .pbox 4 0), (7, .int .i64 1)], _⟩, (weak_row 5 3 1 rfl).trans ((weak_row 6 3 1 rfl).trans (weak_less (H' := [.dead, .dead, .dead, .dead, .cells [.slref 5 0 0 0, .slref 6 0 0 0], .row true 3 1 [], .row true 3 1 []]) (by simp) (by simp [List.replicate]))), ?_⟩
    simp [retH, exR, exN, exA, List.replicate]
  have t' : ¬ (testB s.kind = true ∧ holdsB s.kind a b = false) := fun c => absurd (show (testB s.kind && !holdsB s.kind a b) = true by simpa using c) (by rw [t]; decide)
  rw [if_neg t']
  clear t
  refine cw_to ⟨slots 120 [(0, encL 1 encStr vars), (4, .pbox 0 0), (5, .pbox 1 0), (6, .pbox 4 0), (7, .int .i64 0), (8, .int .i64 o), (9, .int .i64 a), (10, .int .i64 b), (11, .int .i64 (needV s.kind a b)), (12, .bool (needB s.kind)), (60, .bool (needB s.kind && decide (needV s.kind a b = -1)))], [.cells [.int .i64 s.kind, .str s.a, .str s.b], .cells [encL 1 encInt h.vars, encL 1 encInt h.next], .nrow, .nrow, .cells [.slref 2 0 0 0, .slref 3 0 0 0]]⟩ ?_ ?_
  · cases h1 : needB s.kind
    · refine go_ok hT ?_; simp [List.replicate, isH, needs1, hasAl, h1]
      exact weak_less (by simp) (by simp [List.replicate, isH, needs1, hasAl, h1])
    · refine go_ok hT ?_; simp [List.replicate, isH, needs1, hasAl, h1]
      exact weak_less (by simp) (by simp [List.replicate, isH, needs1, hasAl, h1])
  refine cw_cond (b := needB s.kind && decide (needV s.kind a b = -1)) (by simp [Opd.ev, slots, List.replicate]) (fun t => ?_) (fun t => ?_)
  · have t' : needB s.kind = true ∧ needV s.kind a b = -1 := by simpa using t
    rw [if_pos t']
    refine go_ok hT ?_; simp [List.replicate]
    refine ⟨⟨slots 120 [(6, .pbox 4 0), (7, .int .i64 2)], _⟩, (weak_row 5 3 1 rfl).trans ((weak_row 6 3 1 rfl).trans (weak_less (H' := [.dead, .dead, .dead, .dead, .cells [.slref 5 0 0 0, .slref 6 0 0 0], .row true 3 1 [], .row true 3 1 []]) (by simp) (by simp [List.replicate]))), ?_⟩
    simp [retH, exR, exN, exA, List.replicate]
  have t2 : ¬ (needB s.kind = true ∧ needV s.kind a b = -1) := fun c => absurd (show (needB s.kind && decide (needV s.kind a b = -1)) = true by simpa using c) (by rw [t]; decide)
  rw [if_neg t2]
  clear t
  refine cw_to ⟨slots 120 [(0, encL 1 encStr vars), (4, .pbox 0 0), (5, .pbox 1 0), (6, .pbox 4 0), (7, .int .i64 0), (8, .int .i64 o), (9, .int .i64 a), (10, .int .i64 b), (11, .int .i64 (needV s.kind a b)), (12, .bool (needB s.kind)), (67, .bool (decide (s.kind = 3) && decide (h.next.length = 6)))], [.cells [.int .i64 s.kind, .str s.a, .str s.b], .cells [encL 1 encInt h.vars, encL 1 encInt h.next], .nrow, .nrow, .cells [.slref 2 0 0 0, .slref 3 0 0 0]]⟩ ?_ ?_
  · by_cases h1 : s.kind = 3
    · by_cases h2 : h.next.length = 6
      · refine go_ok hT ?_; simp [List.replicate, isH, needs1, hasAl, h1, h2]
        exact weak_less (by simp) (by simp [List.replicate, isH, needs1, hasAl, h1, h2])
      · have h2' : ¬ (h.next.length : Int) = 6 := by omega
        refine go_ok hT ?_; simp [List.replicate, isH, needs1, hasAl, h1, h2, h2']
        exact weak_less (by simp) (by simp [List.replicate, isH, needs1, hasAl, h1, h2, h2'])
    · refine go_ok hT ?_; simp [List.replicate, isH, needs1, hasAl, h1]
      exact weak_less (by simp) (by simp [List.replicate, isH, needs1, hasAl, h1])
  refine cw_cond (b := decide (s.kind = 3) && decide (h.next.length = 6)) (by simp [Opd.ev, slots, List.replicate]) (fun t => ?_) (fun t => ?_)
  · have t' : s.kind = 3 ∧ h.next.length = 6 := by simpa using t
    rw [if_pos t']
    refine go_ok hT ?_; simp [List.replicate]
    refine ⟨⟨slots 120 [(6, .pbox 4 0), (7, .int .i64 6)], _⟩, (weak_row 5 3 1 rfl).trans ((weak_row 6 3 1 rfl).trans (weak_less (H' := [.dead, .dead, .dead, .dead, .cells [.slref 5 0 0 0, .slref 6 0 0 0], .row true 3 1 [], .row true 3 1 []]) (by simp) (by simp [List.replicate]))), ?_⟩
    simp [retH, exR, exN, exA, List.replicate]
  have t' : ¬ (s.kind = 3 ∧ h.next.length = 6) := fun c => absurd (show (decide (s.kind = 3) && decide (h.next.length = 6)) = true by simpa using c) (by rw [t]; decide)
  rw [if_neg t']
  clear t
  refine cw_to ⟨slots 120 [(0, encL 1 encStr vars), (4, .pbox 0 0), (5, .pbox 1 0), (6, .pbox 4 0), (7, .int .i64 0), (8, .int .i64 o), (9, .int .i64 a), (10, .int .i64 b), (11, .int .i64 (needV s.kind a b)), (12, .bool (needB s.kind)), (78, .bool (decide (s.kind = 8) && (decide (1 < (pos h.vars a).length) || decide (a ∈ h.next))))], [.cells [.int .i64 s.kind, .str s.a, .str s.b], .cells [encL 1 encInt h.vars, encL 1 encInt h.next], .nrow, .nrow, .cells [.slref 2 0 0 0, .slref 3 0 0 0]]⟩ ?_ ?_
  · by_cases h1 : s.kind = 8
    · by_cases h2 : 1 < (pos h.vars a).length
      · have h2' : (1 : Int) < (pos h.vars a).length := by omega
        have h2'' : ¬ ((pos h.vars a).length : Int) ≤ 1 := by omega
        refine go_ok hT ?_; simp [List.replicate, isH, needs1, hasAl, h1, h2, h2', h2'', z3]
        exact weak_less (by simp) (by simp [List.replicate, isH, needs1, hasAl, h1, h2, h2', h2'', z3])
      · have h2' : ¬ (1 : Int) < (pos h.vars a).length := by omega
        have h2'' : ((pos h.vars a).length : Int) ≤ 1 := by omega
        by_cases h3 : a ∈ h.next
        · refine go_ok hT ?_; simp [List.replicate, isH, needs1, hasAl, h1, h2, h2', h2'', h3, z3, z2]
          exact weak_less (by simp) (by simp [List.replicate, isH, needs1, hasAl, h1, h2, h2', h2'', h3, z3, z2])
        · refine go_ok hT ?_; simp [List.replicate, isH, needs1, hasAl, h1, h2, h2', h2'', h3, z3, z2]
          exact weak_less (by simp) (by simp [List.replicate, isH, needs1, hasAl, h1, h2, h2', h2'', h3, z3, z2])
    · refine go_ok hT ?_; simp [List.replicate, isH, needs1, hasAl, h1]
      exact weak_less (by simp) (by simp [List.replicate, isH, needs1, hasAl, h1])
  refine cw_cond (b := decide (s.kind = 8) && (decide (1 < (pos h.vars a).length) || decide (a ∈ h.next))) (by simp [Opd.ev, slots, List.replicate]) (fun t => ?_) (fun t => ?_)
  · have t' : s.kind = 8 ∧ (1 < (pos h.vars a).length ∨ a ∈ h.next) := by simpa using t
    rw [if_pos t']
    refine go_ok hT ?_; simp [List.replicate]
    refine ⟨⟨slots 120 [(6, .pbox 4 0), (7, .int .i64 5)], _⟩, (weak_row 5 3 1 rfl).trans ((weak_row 6 3 1 rfl).trans (weak_less (H' := [.dead, .dead, .dead, .dead, .cells [.slref 5 0 0 0, .slref 6 0 0 0], .row true 3 1 [], .row true 3 1 []]) (by simp) (by simp [List.replicate]))), ?_⟩
    simp [retH, exR, exN, exA, List.replicate]
  have t' : ¬ (s.kind = 8 ∧ (1 < (pos h.vars a).length ∨ a ∈ h.next)) := fun c => absurd (show (decide (s.kind = 8) && (decide (1 < (pos h.vars a).length) || decide (a ∈ h.next))) = true by simpa using c) (by rw [t]; decide)
  rw [if_neg t']
  clear t
  refine cw_to ⟨slots 120 [(0, encL 1 encStr vars), (4, .pbox 0 0), (5, .pbox 1 0), (6, .pbox 4 0), (7, .int .i64 0), (8, .int .i64 o), (9, .int .i64 a), (10, .int .i64 b), (11, .int .i64 (needV s.kind a b)), (12, .bool (needB s.kind)), (97, .bool (decide (s.kind = 7) && decide (a ∈ followed h.next b)))], [.cells [.int .i64 s.kind, .str s.a, .str s.b], .cells [encL 1 encInt h.vars, encL 1 encInt h.next], .nrow, .nrow, .cells [.slref 2 0 0 0, .slref 3 0 0 0]]⟩ ?_ ?_
  · by_cases h1 : s.kind = 7
    · by_cases h2 : a ∈ followed h.next b
      · refine go_ok hT ?_; simp [List.replicate, isH, needs1, hasAl, h1, h2, z2]
        exact weak_less (by simp) (by simp [List.replicate, isH, needs1, hasAl, h1, h2, z2])
      · refine go_ok hT ?_; simp [List.replicate, isH, needs1, hasAl, h1, h2, z2]
        exact weak_less (by simp) (by simp [List.replicate, isH, needs1, hasAl, h1, h2, z2])
    · refine go_ok hT ?_; simp [List.replicate, isH, needs1, hasAl, h1]
      exact weak_less (by simp) (by simp [List.replicate, isH, needs1, hasAl, h1])
  refine cw_cond (b := decide (s.kind = 7) && decide (a ∈ followed h.next b)) (by simp [Opd.ev, slots, List.replicate]) (fun t => ?_) (fun t => ?_)
  · have t' : s.kind = 7 ∧ a ∈ followed h.next b := by simpa using t
    rw [if_pos t']
    refine go_ok hT ?_; simp [List.replicate]
    refine ⟨⟨slots 120 [(6, .pbox 4 0), (7, .int .i64 3)], _⟩, (weak_row 5 3 1 rfl).trans ((weak_row 6 3 1 rfl).trans (weak_less (H' := [.dead, .dead, .dead, .dead, .cells [.slref 5 0 0 0, .slref 6 0 0 0], .row true 3 1 [], .row true 3 1 []]) (by simp) (by simp [List.replicate]))), ?_⟩
    simp [retH, exR, exN, exA, List.replicate]
  have t' : ¬ (s.kind = 7 ∧ a ∈ followed h.next b) := fun c => absurd (show (decide (s.kind = 7) && decide (a ∈ followed h.next b)) = true by simpa using c) (by rw [t]; decide)
  rw [if_neg t']
  clear t
  refine go_ok hT ?_; simp
  have hp := hpre o rfl t2
  have hsz : szHeap (perfH s.kind h o a b) ≤ 1048576 := by
    have := perfH_sz s.kind h o a b
    have : szHeap h ≤ 10 := by change h.vars.length + h.next.length ≤ 10; omega
    omega
  refine cw_seq (go_ok hT ?_); simp [List.replicate]
  refine ⟨⟨h, s, o, a, b⟩, rfl, rfl, rfl, rfl, rfl, hp, ?_⟩
  clear hp
  simp only []
  generalize perfH s.kind h o a b = out at *
  cases hlk : leakB out
  · refine cw_seq (cw_seq (go_ok hT ?_)); simp [List.replicate, hsz, hlk]
    refine go_ok hT ?_; simp
    refine go_ok hT ?_; simp [List.replicate, hsz, encHeap_eq]
    refine ⟨out, rfl, rfl, hsz, ?_⟩
    cases hcb : cellsB out
    · have hr : canonH out = ⟨[], []⟩ := by simp [canonH, hcb]
      simp [canonR, canonN, hcb, hr, AV.stored]
      refine ⟨⟨slots 120 [(6, .pbox 4 0), (7, .int .i64 0)], _⟩, weak_less (H' := [.dead, .dead, .dead, .dead, .cells [.slref 12 0 (([] : List Int)).length (([] : List Int)).length, .slref 13 0 (([] : List Int)).length (([] : List Int)).length], .dead, .dead, .dead, .dead, .dead, .dead, .dead, .row true 3 1 (List.map encInt ([] : List Int)), .row true 3 1 (List.map encInt ([] : List Int))]) ?_ ?_, ?_⟩
      · simp
      · simp [List.replicate]
      · simp [retH, exR, exN, exA, hcb, List.replicate]
    · generalize hK : canonH out = K at *
      obtain ⟨cv, cn⟩ := K
      simp [canonR, canonN, hcb, hK, AV.stored]
      refine ⟨⟨slots 120 [(6, .pbox 4 0), (7, .int .i64 0)], _⟩, weak_less (H' := [.dead, .dead, .dead, .dead, .cells [.slref 17 0 (cv).length (cv).length, .slref 18 0 (cn).length (cn).length], .dead, .dead, .dead, .dead, .dead, .dead, .dead, .dead, .dead, .dead, .dead, .dead, .row true 3 1 (List.map encInt cv), .row true 3 1 (List.map encInt cn)]) ?_ ?_, ?_⟩
      · simp
      · simp [List.replicate]
      · simp [retH, exR, exN, exA, hcb, List.replicate]
  · refine cw_seq (cw_seq (go_ok hT ?_)); simp [List.replicate, hsz, hlk]
    refine go_ok hT ?_; simp [List.replicate]
    refine ⟨⟨slots 120 [(6, .pbox 4 0), (7, .int .i64 4)], _⟩, (weak_row 8 3 1 rfl).trans ((weak_row 9 3 1 rfl).trans (weak_less (H' := [.dead, .dead, .dead, .dead, .cells [.slref 8 0 (([] : List Int)).length (([] : List Int)).length, .slref 9 0 (([] : List Int)).length (([] : List Int)).length], .dead, .dead, .dead, .row true 3 1 (List.map encInt ([] : List Int)), .row true 3 1 (List.map encInt ([] : List Int))]) (by simp) (by simp [List.replicate]))), ?_⟩
    simp [retH, exR, exN, exA, List.replicate]
theorem ok_pExecN : ct_pExecN.Ok Try.prog where
  ok := ok_pExecH
  res := fun x _ => rfl
  new := fun x _ k hk => by
    have : k ∈ exN _ _ := hk
    simp only [exN, List.mem_append, List.mem_cons, List.not_mem_nil, or_false, List.mem_replicate] at this
    rcases this with ((rfl | rfl | rfl | rfl | rfl) | ⟨-, rfl⟩) | rfl | rfl
    all_goals first | rfl | simp [ownB]
end Go.Vm

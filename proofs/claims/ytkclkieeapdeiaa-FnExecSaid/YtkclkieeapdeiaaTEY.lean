/- impl.Exec. No condition. -/
import Derived.Test.YtkclkieeapdeiaaTEX
import Derived.Test.YtkclkieeapdeiaaTCS
set_option linter.unusedSimpArgs false
set_option linter.unusedVariables false
namespace Go.Vm
open Go.Proofs
theorem perfH_sz (k : Int) (h : Heap) (o a b : Int) : szHeap (perfH k h o a b) ≤ szHeap h + 1 := by
  change (perfH k h o a b).vars.length + (perfH k h o a b).next.length ≤ h.vars.length + h.next.length + 1
  unfold perfH
  repeat' split
  all_goals try simp only [List.length_set, List.length_map, List.length_append, List.length_cons, List.length_nil]
  all_goals first | omega | (have := List.length_eraseIdx_le h.next a.toNat; omega)
def code_impl_Exec : F := ⟨120, [.cell 2 true 6, .tmp 7],
 .seq (.reg [⟨some 4, .box (.t 1), none⟩,
    ⟨some 5, .box (.t 2), none⟩,
    ⟨some 6, .alloc [(.sl .nil 0 []), (.sl .nil 0 [])], none⟩,
    ⟨some 7, .mov (.k (.int .i64 0)), none⟩])
 (.seq (.seq (.reg [⟨some 14, .mov (.t 0), none⟩,
      ⟨some 15, .load 3 true (.t 4), none⟩,
      ⟨some 16, .call 35 [(.t 14), (.t 15)], none⟩,
      ⟨some 17, .not (.t 16), none⟩,
      ⟨some 18, .mov (.t 17), none⟩,
      ⟨some 19, .mov (.t 0), some (18, false)⟩,
      ⟨some 20, .len (.t 19), some (18, false)⟩,
      ⟨some 21, .load 2 true (.t 5), some (18, false)⟩,
      ⟨some 22, .call 36 [(.t 20), (.t 21)], some (18, false)⟩,
      ⟨some 23, .not (.t 22), some (18, false)⟩,
      ⟨some 24, .pick (.t 18) (.k (.bool true)) (.t 23), none⟩])
   (.cond (.t 24)
    (.seq (.reg [⟨some 25, .build [(.sl .nil 0 []), (.sl .nil 0 [])] [], none⟩,
        ⟨none, .store 2 (.t 6) (.t 25), none⟩,
        ⟨some 7, .mov (.k (.int .i64 7)), none⟩])
     (.ret))
    (.skip)))
  (.seq (.dreg [false, false, false, false, false, false, false, false, false, false, false, false, false, true, true, true, true] [false, false, false, true, false, false, false, false, true, false, false, false, false, true, false, false, false] [⟨some 26, .mov (.t 0), none⟩,
      ⟨some 27, .faddr 1 (.t 4), none⟩,
      ⟨some 28, .load 1 false (.t 27), none⟩,
      ⟨some 29, .call 37 [(.t 26), (.t 28)], none⟩,
      ⟨some 30, .load 2 true (.t 5), none⟩,
      ⟨some 31, .mov (.t 0), none⟩,
      ⟨some 32, .faddr 1 (.t 4), none⟩,
      ⟨some 33, .load 1 false (.t 32), none⟩,
      ⟨some 34, .call 38 [(.t 30), (.t 31), (.t 33)], none⟩,
      ⟨some 35, .load 2 true (.t 5), none⟩,
      ⟨some 36, .mov (.t 0), none⟩,
      ⟨some 37, .faddr 2 (.t 4), none⟩,
      ⟨some 38, .load 1 false (.t 37), none⟩,
      ⟨some 39, .call 38 [(.t 35), (.t 36), (.t 38)], none⟩,
      ⟨some 8, .mov (.t 29), none⟩,
      ⟨some 9, .mov (.t 34), none⟩,
      ⟨some 10, .mov (.t 39), none⟩])
   (.seq (.reg [⟨some 41, .faddr 0 (.t 4), none⟩,
       ⟨some 42, .load 1 false (.t 41), none⟩,
       ⟨some 43, .mov (.t 9), none⟩,
       ⟨some 44, .mov (.t 10), none⟩,
       ⟨some 45, .call 39 [(.t 42), (.t 43), (.t 44)], none⟩,
       ⟨some 40, .mov (.t 45), none⟩,
       ⟨some 46, .extr (.t 40) 0, none⟩,
       ⟨some 47, .extr (.t 40) 1, none⟩,
       ⟨some 11, .mov (.t 46), none⟩,
       ⟨some 12, .mov (.t 47), none⟩])
    (.seq (.block 0 (.seq (.reg [⟨some 49, .load 3 true (.t 4), none⟩,
          ⟨some 50, .call 40 [(.t 49)], none⟩,
          ⟨some 51, .mov (.t 50), none⟩,
          ⟨some 52, .faddr 0 (.t 4), some (51, true)⟩,
          ⟨some 53, .load 1 false (.t 52), some (51, true)⟩,
          ⟨some 54, .mov (.t 9), some (51, true)⟩,
          ⟨some 55, .mov (.t 10), some (51, true)⟩,
          ⟨some 56, .call 41 [(.t 53), (.t 54), (.t 55)], some (51, true)⟩,
          ⟨some 57, .not (.t 56), some (51, true)⟩,
          ⟨some 58, .pick (.t 51) (.t 57) (.k (.bool false)), none⟩,
          ⟨some 48, .mov (.t 58), none⟩])
       (.cond (.t 48)
        (.seq (.reg [⟨some 59, .build [(.sl .nil 0 []), (.sl .nil 0 [])] [], none⟩,
            ⟨none, .store 2 (.t 6) (.t 59), none⟩,
            ⟨some 7, .mov (.k (.int .i64 1)), none⟩])
         (.ret))
        (.seq (.reg [⟨some 61, .mov (.t 12), none⟩,
            ⟨some 62, .mov (.t 61), none⟩,
            ⟨some 63, .mov (.t 11), some (62, true)⟩,
            ⟨some 64, .bin .eql (.t 63) (.k (.int .i64 (-1))), some (62, true)⟩,
            ⟨some 65, .pick (.t 62) (.t 64) (.k (.bool false)), none⟩,
            ⟨some 60, .mov (.t 65), none⟩])
         (.cond (.t 60)
          (.seq (.reg [⟨some 66, .build [(.sl .nil 0 []), (.sl .nil 0 [])] [], none⟩,
              ⟨none, .store 2 (.t 6) (.t 66), none⟩,
              ⟨some 7, .mov (.k (.int .i64 2)), none⟩])
           (.ret))
          (.seq (.reg [⟨some 68, .faddr 0 (.t 4), none⟩,
              ⟨some 69, .load 1 false (.t 68), none⟩,
              ⟨some 70, .bin .eql (.t 69) (.k (.int .i64 3)), none⟩,
              ⟨some 71, .mov (.t 70), none⟩,
              ⟨some 72, .faddr 1 (.t 5), some (71, true)⟩,
              ⟨some 73, .load 1 false (.t 72), some (71, true)⟩,
              ⟨some 74, .len (.t 73), some (71, true)⟩,
              ⟨some 75, .bin .eql (.t 74) (.k (.int .i64 6)), some (71, true)⟩,
              ⟨some 76, .pick (.t 71) (.t 75) (.k (.bool false)), none⟩,
              ⟨some 67, .mov (.t 76), none⟩])
           (.cond (.t 67)
            (.seq (.reg [⟨some 77, .build [(.sl .nil 0 []), (.sl .nil 0 [])] [], none⟩,
                ⟨none, .store 2 (.t 6) (.t 77), none⟩,
                ⟨some 7, .mov (.k (.int .i64 6)), none⟩])
             (.ret))
            (.seq (.reg [⟨some 79, .faddr 0 (.t 4), none⟩,
                ⟨some 80, .load 1 false (.t 79), none⟩,
                ⟨some 81, .bin .eql (.t 80) (.k (.int .i64 8)), none⟩,
                ⟨some 82, .mov (.t 81), none⟩,
                ⟨some 83, .faddr 0 (.t 5), some (82, true)⟩,
                ⟨some 84, .load 1 false (.t 83), some (82, true)⟩,
                ⟨some 85, .mov (.t 9), some (82, true)⟩,
                ⟨some 86, .call 42 [(.t 84), (.t 85)], some (82, true)⟩,
                ⟨some 87, .len (.t 86), some (82, true)⟩,
                ⟨some 88, .bin .gtr (.t 87) (.k (.int .i64 1)), some (82, true)⟩,
                ⟨some 89, .mov (.t 88), some (82, true)⟩,
                ⟨some 90, .faddr 1 (.t 5), some (89, false)⟩,
                ⟨some 91, .load 1 false (.t 90), some (89, false)⟩,
                ⟨some 92, .mov (.t 9), some (89, false)⟩,
                ⟨some 93, .call 43 [(.t 91), (.t 92)], some (89, false)⟩,
                ⟨some 94, .pick (.t 89) (.k (.bool true)) (.t 93), some (82, true)⟩,
                ⟨some 95, .pick (.t 82) (.t 94) (.k (.bool false)), none⟩,
                ⟨some 78, .mov (.t 95), none⟩])
             (.cond (.t 78)
              (.seq (.reg [⟨some 96, .build [(.sl .nil 0 []), (.sl .nil 0 [])] [], none⟩,
                  ⟨none, .store 2 (.t 6) (.t 96), none⟩,
                  ⟨some 7, .mov (.k (.int .i64 5)), none⟩])
               (.ret))
              (.seq (.reg [⟨some 98, .faddr 0 (.t 4), none⟩,
                  ⟨some 99, .load 1 false (.t 98), none⟩,
                  ⟨some 100, .bin .eql (.t 99) (.k (.int .i64 7)), none⟩,
                  ⟨some 101, .mov (.t 100), none⟩,
                  ⟨some 102, .load 2 true (.t 5), some (101, true)⟩,
                  ⟨some 103, .mov (.t 10), some (101, true)⟩,
                  ⟨some 104, .call 44 [(.t 102), (.t 103)], some (101, true)⟩,
                  ⟨some 105, .mov (.t 9), some (101, true)⟩,
                  ⟨some 106, .call 43 [(.t 104), (.t 105)], some (101, true)⟩,
                  ⟨some 107, .pick (.t 101) (.t 106) (.k (.bool false)), none⟩,
                  ⟨some 97, .mov (.t 107), none⟩])
               (.cond (.t 97)
                (.seq (.reg [⟨some 108, .build [(.sl .nil 0 []), (.sl .nil 0 [])] [], none⟩,
                    ⟨none, .store 2 (.t 6) (.t 108), none⟩,
                    ⟨some 7, .mov (.k (.int .i64 3)), none⟩])
                 (.ret))
                (.skip))))))))))))
     (.seq (.reg [⟨some 109, .load 2 true (.t 5), none⟩,
         ⟨some 110, .load 3 true (.t 4), none⟩,
         ⟨some 111, .mov (.t 8), none⟩,
         ⟨some 112, .mov (.t 9), none⟩,
         ⟨some 113, .mov (.t 10), none⟩,
         ⟨some 114, .call 45 [(.t 109), (.t 110), (.t 111), (.t 112), (.t 113)], none⟩,
         ⟨some 13, .alloc [(.sl .nil 0 []), (.sl .nil 0 [])], none⟩,
         ⟨none, .store 2 (.t 13) (.t 114), none⟩])
      (.seq (.seq (.reg [⟨some 115, .load 2 true (.t 13), none⟩,
           ⟨some 116, .call 46 [(.t 115)], none⟩])
        (.cond (.t 116)
         (.seq (.reg [⟨some 117, .build [(.sl .nil 0 []), (.sl .nil 0 [])] [], none⟩,
             ⟨none, .store 2 (.t 6) (.t 117), none⟩,
             ⟨some 7, .mov (.k (.int .i64 4)), none⟩])
          (.ret))
         (.skip)))
       (.seq (.reg [⟨some 118, .load 2 true (.t 13), none⟩,
           ⟨some 119, .call 47 [(.t 118)], none⟩,
           ⟨none, .store 2 (.t 6) (.t 119), none⟩,
           ⟨some 7, .mov (.k (.int .i64 0)), none⟩])
        (.ret))))))))⟩
theorem fok_impl_Exec : FOk Try.prog 7 code_impl_Exec := fok Try.func7 (by kernel_rfl)
structure Ex where
  vars : List (List UInt8)
  s : Stmt
  h : Heap
@[simp] def ct_pExec : Ct := ⟨7, Ex, fun x => szVarsOk x.vars ∧ szHeap x.h ≤ 1048576, fun x => [encL 1 encStr x.vars, encStmt x.s, encHeap x.h], fun x => .tup [encHeap (execH x.vars x.s x.h).1, .int .i64 (execH x.vars x.s x.h).2]⟩
set_option maxHeartbeats 4000000 in
set_option maxRecDepth 100000 in
theorem ok_pExec : ct_pExec.Ok Try.prog := by
  rintro ⟨vars, s, h⟩ ⟨hv, hz⟩
  change szVarsOk vars at hv
  change szHeap h ≤ 1048576 at hz
  have hT : TabOk Try.prog _ := tab_cons ok_pIsStmt (tab_cons ok_pIsHeap (tab_cons ok_pIndexOf (tab_cons ok_at (tab_cons ok_needs (tab_cons ok_pIsTest (tab_cons ok_pholds (tab_cons ok_pPositions (tab_cons ok_ContainsI (tab_cons ok_pFollowed (tab_cons ok_performed (tab_cons ok_pHasLeak (tab_cons ok_pCanonC tab_nil))))))))))))
  simp only [ct_pExec]
  by_cases q1 : ¬ (stmtB vars s = true)
  · have e : execH vars s h = (⟨[], []⟩, 7) := by unfold execH; rw [if_pos (fun c => q1 c.1)]
    simp only [Bool.not_eq_true] at q1
    rw [e]
    refine Ok.of_cw fok_impl_Exec ?_
    simp only [code_impl_Exec, frame, List.length_cons, List.length_nil, List.replicate, Nat.reduceSub, Nat.reduceAdd, List.cons_append, List.nil_append]
    refine cw_seq (go_ok hT ?_); simp [List.replicate]
    refine cw_seq (cw_seq (go_ok hT ?_)); simp [List.replicate, hv, q1]
    refine go_ok hT ?_; simp [encHeap]
  by_cases q2 : ¬ (isHeapB vars.length h = true)
  · have e : execH vars s h = (⟨[], []⟩, 7) := by unfold execH; rw [if_pos (fun c => q2 c.2)]
    simp only [Bool.not_eq_true] at q2
    rw [e]
    refine Ok.of_cw fok_impl_Exec ?_
    simp only [code_impl_Exec, frame, List.length_cons, List.length_nil, List.replicate, Nat.reduceSub, Nat.reduceAdd, List.cons_append, List.nil_append]
    refine cw_seq (go_ok hT ?_); simp [List.replicate]
    refine cw_seq (cw_seq (go_ok hT ?_)); simp [List.replicate, hv, hz, Classical.not_not.1 q1, q2]
    refine go_ok hT ?_; simp [encHeap]
  have q1 := Classical.not_not.1 q1
  have q2 := Classical.not_not.1 q2
  obtain ⟨b1, b2, b3, b4, b5, b6⟩ := heap_bounds q2
  obtain ⟨n1, n2, n3⟩ := stmt_names q1
  have hl : vars.length = h.vars.length := by omega
  have z2 : h.next.length ≤ 1048576 := by omega
  have z3 : h.vars.length ≤ 1048576 := by omega
  have hr : execH vars s h = (if testB s.kind = true ∧ holdsB s.kind (atV vars h s.a) (atV vars h s.b) = false then (⟨[], []⟩, 1)
    else if needB s.kind = true ∧ needV s.kind (atV vars h s.a) (atV vars h s.b) = -1 then (⟨[], []⟩, 2)
    else if s.kind = 3 ∧ h.next.length = 6 then (⟨[], []⟩, 6)
    else if s.kind = 8 ∧ (1 < (pos h.vars (atV vars h s.a)).length ∨ atV vars h s.a ∈ h.next) then (⟨[], []⟩, 5)
    else if s.kind = 7 ∧ atV vars h s.a ∈ followed h.next (atV vars h s.b) then (⟨[], []⟩, 3)
    else if leakB (perfH s.kind h (ixS vars s.a) (atV vars h s.a) (atV vars h s.b)) = true then (⟨[], []⟩, 4)
    else (canonH (perfH s.kind h (ixS vars s.a) (atV vars h s.a) (atV vars h s.b)), 0)) := by
    have hh : stmtB vars s = true ∧ isHeapB vars.length h = true := ⟨q1, q2⟩
    unfold execH
    rw [if_neg (fun c => c hh)]
  generalize execH vars s h = R at *
  have hpre : ∀ (o : Int), o = ixS vars s.a → ¬ (needB s.kind = true ∧ needV s.kind (atV vars h s.a) (atV vars h s.b) = -1) → Pf.Pre ⟨h, s, o, atV vars h s.a, atV vars h s.b⟩ := by
    rintro o rfl hne
    have hat : ∀ name, (0 ≤ ixS vars name ∧ ixS vars name < vars.length) → -1 ≤ atV vars h name ∧ atV vars h name < h.next.length := by
      intro name hn
      unfold atV
      rw [if_pos hn.1]
      have hlt : (ixS vars name).toNat < h.vars.length := by omega
      have : h.vars.getD (ixS vars name).toNat 0 = h.vars[(ixS vars name).toNat] := by simp [List.getD_eq_getElem?_getD, hlt]
      simp only [this]
      exact b5 _ (List.getElem_mem hlt)
    refine ⟨by simp only; omega, b4, fun y hy => ?_, fun y hy => ?_, fun hk => ?_, fun hk => ?_, fun hk => ?_⟩
    · have := b5 y hy; omega
    · have := b6 y hy; omega
    · have := n2 (by unfold namesN; simp only at hk; rcases hk with h | h | h | h | h <;> simp [h])
      simp only; omega
    · simp only at hk ⊢
      have h1 := hat s.a (n2 (by unfold namesN; rcases hk with h | h | h <;> simp [h]))
      have h2 : needB s.kind = true := by rcases hk with h | h | h <;> simp [h, needB, needV]
      have h3 : needV s.kind (atV vars h s.a) (atV vars h s.b) = atV vars h s.a := by rcases hk with h | h | h <;> simp [h, needB, needV]
      have h4 : ¬ atV vars h s.a = -1 := fun e => hne ⟨h2, h3.trans e⟩
      omega
    · simp only at hk ⊢
      have h1 := hat s.b (n3 (by unfold namesN; simp [hk]))
      have h4 : ¬ atV vars h s.b = -1 := fun e => hne ⟨by simp [hk, needB], by simp [hk, needV, e]⟩
      omega
  refine Ok.of_cw fok_impl_Exec ?_
  simp only [code_impl_Exec, frame, List.length_cons, List.length_nil, List.replicate, Nat.reduceSub, Nat.reduceAdd, List.cons_append, List.nil_append]
  refine cw_seq (go_ok hT ?_); simp [List.replicate]
  refine cw_seq (cw_seq (go_ok hT ?_)); simp [List.replicate, hv, hz, q1, q2]
  refine go_ok hT ?_; simp
  generalize hA : atV vars h s.a = a at *
  generalize hB : atV vars h s.b = b at *
  generalize hO : ixS vars s.a = o at *
  refine cw_seq (go_ok hT ?_); simp [List.replicate, hl, hA, hB, hO]
  rw [hr]
  clear hr
  have hz2 : szHeap h ≤ 1048576 := hz
  refine cw_to ⟨slots 120 [(0, encL 1 encStr vars), (4, .pbox 0 0), (5, .pbox 1 0), (6, .pbox 4 0), (7, .int .i64 0), (8, .int .i64 o), (9, .int .i64 a), (10, .int .i64 b), (11, .int .i64 (needV s.kind a b)), (12, .bool (needB s.kind))], [.cells [.int .i64 s.kind, .str s.a, .str s.b], .cells [encL 1 encInt h.vars, encL 1 encInt h.next], .nrow, .nrow, .cells [.slref 2 0 0 0, .slref 3 0 0 0]]⟩ ?_ ?_
  · refine go_ok hT ?_; simp [List.replicate]
    exact weak_less (by simp) (by simp [List.replicate])
  refine cw_seq (cw_block ?_)
  refine cw_to ⟨slots 120 [(0, encL 1 encStr vars), (4, .pbox 0 0), (5, .pbox 1 0), (6, .pbox 4 0), (7, .int .i64 0), (8, .int .i64 o), (9, .int .i64 a), (10, .int .i64 b), (11, .int .i64 (needV s.kind a b)), (12, .bool (needB s.kind)), (48, .bool (testB s.kind && !holdsB s.kind a b))], [.cells [.int .i64 s.kind, .str s.a, .str s.b], .cells [encL 1 encInt h.vars, encL 1 encInt h.next], .nrow, .nrow, .cells [.slref 2 0 0 0, .slref 3 0 0 0]]⟩ ?_ ?_
  · cases h1 : testB s.kind
    · refine go_ok hT ?_; simp [List.replicate, h1]
      exact weak_less (by simp) (by simp [List.replicate])
    · cases h2 : holdsB s.kind a b
      · refine go_ok hT ?_; simp [List.replicate, h1, h2]
        exact weak_less (by simp) (by simp [List.replicate])
      · refine go_ok hT ?_; simp [List.replicate, h1, h2]
        exact weak_less (by simp) (by simp [List.replicate])
  refine cw_cond (b := testB s.kind && !holdsB s.kind a b) (by simp [Opd.ev, slots, List.replicate]) (fun t => ?_) (fun t => ?_)
  · have t' : testB s.kind = true ∧ holdsB s.kind a b = false := by simpa using t
    rw [if_pos t']
    refine go_ok hT ?_; simp [List.replicate, encHeap]
  have t' : ¬ (testB s.kind = true ∧ holdsB s.kind a b = false) := fun c => absurd (show (testB s.kind && !holdsB s.kind a b) = true by simpa using c) (by rw [t]; decide)
  rw [if_neg t']
  clear t
  refine cw_to ⟨slots 120 [(0, encL 1 encStr vars), (4, .pbox 0 0), (5, .pbox 1 0), (6, .pbox 4 0), (7, .int .i64 0), (8, .int .i64 o), (9, .int .i64 a), (10, .int .i64 b), (11, .int .i64 (needV s.kind a b)), (12, .bool (needB s.kind)), (60, .bool (needB s.kind && decide (needV s.kind a b = -1)))], [.cells [.int .i64 s.kind, .str s.a, .str s.b], .cells [encL 1 encInt h.vars, encL 1 encInt h.next], .nrow, .nrow, .cells [.slref 2 0 0 0, .slref 3 0 0 0]]⟩ ?_ ?_
  · cases h1 : needB s.kind
    · refine go_ok hT ?_; simp [List.replicate, h1]
      exact weak_less (by simp) (by simp [List.replicate, h1])
    · refine go_ok hT ?_; simp [List.replicate, h1]
      exact weak_less (by simp) (by simp [List.replicate, h1])
  refine cw_cond (b := needB s.kind && decide (needV s.kind a b = -1)) (by simp [Opd.ev, slots, List.replicate]) (fun t => ?_) (fun t => ?_)
  · have t' : needB s.kind = true ∧ needV s.kind a b = -1 := by simpa using t
    rw [if_pos t']
    refine go_ok hT ?_; simp [List.replicate, encHeap]
  have t2 : ¬ (needB s.kind = true ∧ needV s.kind a b = -1) := fun c => absurd (show (needB s.kind && decide (needV s.kind a b = -1)) = true by simpa using c) (by rw [t]; decide)
  rw [if_neg t2]
  clear t
  refine cw_to ⟨slots 120 [(0, encL 1 encStr vars), (4, .pbox 0 0), (5, .pbox 1 0), (6, .pbox 4 0), (7, .int .i64 0), (8, .int .i64 o), (9, .int .i64 a), (10, .int .i64 b), (11, .int .i64 (needV s.kind a b)), (12, .bool (needB s.kind)), (67, .bool (decide (s.kind = 3) && decide (h.next.length = 6)))], [.cells [.int .i64 s.kind, .str s.a, .str s.b], .cells [encL 1 encInt h.vars, encL 1 encInt h.next], .nrow, .nrow, .cells [.slref 2 0 0 0, .slref 3 0 0 0]]⟩ ?_ ?_
  · by_cases h1 : s.kind = 3
    · by_cases h2 : h.next.length = 6
      · refine go_ok hT ?_; simp [List.replicate, h1, h2]
        exact weak_less (by simp) (by simp [List.replicate, h1, h2])
      · have h2' : ¬ (h.next.length : Int) = 6 := by omega
        refine go_ok hT ?_; simp [List.replicate, h1, h2, h2']
        exact weak_less (by simp) (by simp [List.replicate, h1, h2, h2'])
    · refine go_ok hT ?_; simp [List.replicate, h1]
      exact weak_less (by simp) (by simp [List.replicate, h1])
  refine cw_cond (b := decide (s.kind = 3) && decide (h.next.length = 6)) (by simp [Opd.ev, slots, List.replicate]) (fun t => ?_) (fun t => ?_)
  · have t' : s.kind = 3 ∧ h.next.length = 6 := by simpa using t
    rw [if_pos t']
    refine go_ok hT ?_; simp [List.replicate, encHeap]
  have t' : ¬ (s.kind = 3 ∧ h.next.length = 6) := fun c => absurd (show (decide (s.kind = 3) && decide (h.next.length = 6)) = true by simpa using c) (by rw [t]; decide)
  rw [if_neg t']
  clear t
  refine cw_to ⟨slots 120 [(0, encL 1 encStr vars), (4, .pbox 0 0), (5, .pbox 1 0), (6, .pbox 4 0), (7, .int .i64 0), (8, .int .i64 o), (9, .int .i64 a), (10, .int .i64 b), (11, .int .i64 (needV s.kind a b)), (12, .bool (needB s.kind)), (78, .bool (decide (s.kind = 8) && (decide (1 < (pos h.vars a).length) || decide (a ∈ h.next))))], [.cells [.int .i64 s.kind, .str s.a, .str s.b], .cells [encL 1 encInt h.vars, encL 1 encInt h.next], .nrow, .nrow, .cells [.slref 2 0 0 0, .slref 3 0 0 0]]⟩ ?_ ?_
  · by_cases h1 : s.kind = 8
    · by_cases h2 : 1 < (pos h.vars a).length
      · have h2' : (1 : Int) < (pos h.vars a).length := by omega
        have h2'' : ¬ ((pos h.vars a).length : Int) ≤ 1 := by omega
        refine go_ok hT ?_; simp [List.replicate, h1, h2, h2', h2'', z3]
        exact weak_less (by simp) (by simp [List.replicate, h1, h2, h2', h2'', z3])
      · have h2' : ¬ (1 : Int) < (pos h.vars a).length := by omega
        have h2'' : ((pos h.vars a).length : Int) ≤ 1 := by omega
        by_cases h3 : a ∈ h.next
        · refine go_ok hT ?_; simp [List.replicate, h1, h2, h2', h2'', h3, z3, z2]
          exact weak_less (by simp) (by simp [List.replicate, h1, h2, h2', h2'', h3, z3, z2])
        · refine go_ok hT ?_; simp [List.replicate, h1, h2, h2', h2'', h3, z3, z2]
          exact weak_less (by simp) (by simp [List.replicate, h1, h2, h2', h2'', h3, z3, z2])
    · refine go_ok hT ?_; simp [List.replicate, h1]
      exact weak_less (by simp) (by simp [List.replicate, h1])
  refine cw_cond (b := decide (s.kind = 8) && (decide (1 < (pos h.vars a).length) || decide (a ∈ h.next))) (by simp [Opd.ev, slots, List.replicate]) (fun t => ?_) (fun t => ?_)
  · have t' : s.kind = 8 ∧ (1 < (pos h.vars a).length ∨ a ∈ h.next) := by simpa using t
    rw [if_pos t']
    refine go_ok hT ?_; simp [List.replicate, encHeap]
  have t' : ¬ (s.kind = 8 ∧ (1 < (pos h.vars a).length ∨ a ∈ h.next)) := fun c => absurd (show (decide (s.kind = 8) && (decide (1 < (pos h.vars a).length) || decide (a ∈ h.next))) = true by simpa using c) (by rw [t]; decide)
  rw [if_neg t']
  clear t
  refine cw_to ⟨slots 120 [(0, encL 1 encStr vars), (4, .pbox 0 0), (5, .pbox 1 0), (6, .pbox 4 0), (7, .int .i64 0), (8, .int .i64 o), (9, .int .i64 a), (10, .int .i64 b), (11, .int .i64 (needV s.kind a b)), (12, .bool (needB s.kind)), (97, .bool (decide (s.kind = 7) && decide (a ∈ followed h.next b)))], [.cells [.int .i64 s.kind, .str s.a, .str s.b], .cells [encL 1 encInt h.vars, encL 1 encInt h.next], .nrow, .nrow, .cells [.slref 2 0 0 0, .slref 3 0 0 0]]⟩ ?_ ?_
  · by_cases h1 : s.kind = 7
    · by_cases h2 : a ∈ followed h.next b
      · refine go_ok hT ?_; simp [List.replicate, h1, h2, z2]
        exact weak_less (by simp) (by simp [List.replicate, h1, h2, z2])
      · refine go_ok hT ?_; simp [List.replicate, h1, h2, z2]
        exact weak_less (by simp) (by simp [List.replicate, h1, h2, z2])
    · refine go_ok hT ?_; simp [List.replicate, h1]
      exact weak_less (by simp) (by simp [List.replicate, h1])
  refine cw_cond (b := decide (s.kind = 7) && decide (a ∈ followed h.next b)) (by simp [Opd.ev, slots, List.replicate]) (fun t => ?_) (fun t => ?_)
  · have t' : s.kind = 7 ∧ a ∈ followed h.next b := by simpa using t
    rw [if_pos t']
    refine go_ok hT ?_; simp [List.replicate, encHeap]
  have t' : ¬ (s.kind = 7 ∧ a ∈ followed h.next b) := fun c => absurd (show (decide (s.kind = 7) && decide (a ∈ followed h.next b)) = true by simpa using c) (by rw [t]; decide)
  rw [if_neg t']
  clear t
  refine go_ok hT ?_; simp
  have hp := hpre o rfl t2
  have hsz : szHeap (perfH s.kind h o a b) ≤ 1048576 := by
    have := perfH_sz s.kind h o a b
    have : szHeap h ≤ 10 := by change h.vars.length + h.next.length ≤ 10; omega
    omega
  refine cw_seq (go_ok hT ?_); simp [List.replicate]
  refine ⟨⟨h, s, o, a, b⟩, rfl, rfl, rfl, rfl, rfl, hp, ?_⟩
  clear hp
  simp only []
  generalize perfH s.kind h o a b = out at *
  cases hlk : leakB out
  · refine cw_seq (cw_seq (go_ok hT ?_)); simp [List.replicate, hsz, hlk]
    refine go_ok hT ?_; simp
    refine go_ok hT ?_; simp [List.replicate, hsz, encHeap]
    exact ⟨out, rfl, rfl, hsz, rfl, rfl⟩
  · refine cw_seq (cw_seq (go_ok hT ?_)); simp [List.replicate, hsz, hlk]
    refine go_ok hT ?_; simp [List.replicate, encHeap]
end Go.Vm

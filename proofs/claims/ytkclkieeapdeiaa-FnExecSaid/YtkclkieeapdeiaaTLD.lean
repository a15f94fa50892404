/- spec.Exec. No condition. -/
import Derived.Test.YtkclkieeapdeiaaTLC
import Derived.Test.YtkclkieeapdeiaaTEX
import Derived.Test.YtkclkieeapdeiaaTKC
import Derived.Test.YtkclkieeapdeiaaTEY
import Derived.Test.YtkclkieeapdeiaaVme
set_option linter.unusedSimpArgs false
set_option linter.unusedVariables false
namespace Go.Vm
open Go.Proofs
def execT (k : Int) (h : Heap) (o a b : Int) : Heap × Int :=
  if testB k = true ∧ holdsB k a b = false then (⟨[], []⟩, 1)
  else if needB k = true ∧ needV k a b = -1 then (⟨[], []⟩, 2)
  else if k = 3 ∧ h.next.length = 6 then (⟨[], []⟩, 6)
  else if k = 8 ∧ (1 < (pos h.vars a).length ∨ a ∈ h.next) then (⟨[], []⟩, 5)
  else if k = 7 ∧ a ∈ followed h.next b then (⟨[], []⟩, 3)
  else if leakB (perfH k h o a b) = true then (⟨[], []⟩, 4)
  else (canonH (perfH k h o a b), 0)
theorem execT_same {k : Int} {h : Heap} {o o' a a' b b' : Int} (hk : 1 ≤ k ∧ k ≤ 12) (ha : 0 < namesN k → a = a' ∧ o = o') (hb : 1 < namesN k → b = b') : execT k h o a b = execT k h o' a' b' := by
  rcases kinds hk with rfl | rfl | rfl | rfl | rfl | rfl | rfl | rfl | rfl | rfl | rfl | rfl <;> simp [namesN] at ha hb <;> simp [execT, testB, holdsB, needB, needV, perfH, ha, hb]
structure Xx where
  vars : List (List UInt8)
  s : Stmt
  h : Heap
def code_spec_Exec : F := ⟨90, [.cell 2 true 6, .tmp 7],
 .seq (.reg [⟨some 4, .box (.t 1), none⟩,
    ⟨some 5, .box (.t 2), none⟩,
    ⟨some 6, .alloc [(.sl .nil 0 []), (.sl .nil 0 [])], none⟩,
    ⟨some 7, .mov (.k (.int .i64 0)), none⟩])
 (.seq (.seq (.reg [⟨some 12, .mov (.t 0), none⟩,
      ⟨some 13, .load 3 true (.t 4), none⟩,
      ⟨some 14, .call 48 [(.t 12), (.t 13)], none⟩,
      ⟨some 15, .not (.t 14), none⟩,
      ⟨some 16, .mov (.t 15), none⟩,
      ⟨some 17, .mov (.t 0), some (16, false)⟩,
      ⟨some 18, .len (.t 17), some (16, false)⟩,
      ⟨some 19, .load 2 true (.t 5), some (16, false)⟩,
      ⟨some 20, .call 15 [(.t 18), (.t 19)], some (16, false)⟩,
      ⟨some 21, .not (.t 20), some (16, false)⟩,
      ⟨some 22, .pick (.t 16) (.k (.bool true)) (.t 21), none⟩])
   (.cond (.t 22)
    (.seq (.reg [⟨some 23, .build [(.sl .nil 0 []), (.sl .nil 0 [])] [], none⟩,
        ⟨none, .store 2 (.t 6) (.t 23), none⟩,
        ⟨some 7, .mov (.k (.int .i64 7)), none⟩])
     (.ret))
    (.skip)))
  (.seq (.reg [⟨some 24, .mov (.t 0), none⟩,
      ⟨some 25, .faddr 1 (.t 4), none⟩,
      ⟨some 26, .load 1 false (.t 25), none⟩,
      ⟨some 27, .call 50 [(.t 24), (.t 26)], none⟩,
      ⟨some 28, .call 49 [(.k (.int .i64 0)), (.t 27)], none⟩,
      ⟨some 8, .mov (.t 28), none⟩])
   (.seq (.reg [⟨some 29, .mov (.t 0), none⟩,
       ⟨some 30, .faddr 2 (.t 4), none⟩,
       ⟨some 31, .load 1 false (.t 30), none⟩,
       ⟨some 32, .call 50 [(.t 29), (.t 31)], none⟩,
       ⟨some 33, .call 49 [(.k (.int .i64 0)), (.t 32)], none⟩,
       ⟨some 9, .mov (.t 33), none⟩])
    (.seq (.block 0 (.seq (.dreg [true, true, true, false, false, false, false, false, false, false, false, false, false, false, false, true, true, true, true] [false, true, false, false, false, false, false, false, false, false, false, false, false, false, false, true, false, false, false] [⟨some 35, .load 3 true (.t 4), none⟩,
          ⟨some 36, .call 51 [(.t 35)], none⟩,
          ⟨some 37, .mov (.t 36), none⟩,
          ⟨some 38, .faddr 0 (.t 4), some (37, true)⟩,
          ⟨some 39, .load 1 false (.t 38), some (37, true)⟩,
          ⟨some 40, .faddr 0 (.t 5), some (37, true)⟩,
          ⟨some 41, .load 1 false (.t 40), some (37, true)⟩,
          ⟨some 42, .mov (.t 8), some (37, true)⟩,
          ⟨some 43, .iaddr 1 (.t 41) (.t 42), some (37, true)⟩,
          ⟨some 44, .load 1 false (.t 43), some (37, true)⟩,
          ⟨some 45, .faddr 0 (.t 5), some (37, true)⟩,
          ⟨some 46, .load 1 false (.t 45), some (37, true)⟩,
          ⟨some 47, .mov (.t 9), some (37, true)⟩,
          ⟨some 48, .iaddr 1 (.t 46) (.t 47), some (37, true)⟩,
          ⟨some 49, .load 1 false (.t 48), some (37, true)⟩,
          ⟨some 50, .call 52 [(.t 39), (.t 44), (.t 49)], some (37, true)⟩,
          ⟨some 51, .not (.t 50), some (37, true)⟩,
          ⟨some 52, .pick (.t 37) (.t 51) (.k (.bool false)), none⟩,
          ⟨some 34, .mov (.t 52), none⟩])
       (.cond (.t 34)
        (.seq (.reg [⟨some 53, .build [(.sl .nil 0 []), (.sl .nil 0 [])] [], none⟩,
            ⟨none, .store 2 (.t 6) (.t 53), none⟩,
            ⟨some 7, .mov (.k (.int .i64 1)), none⟩])
         (.ret))
        (.seq (.reg [⟨some 55, .load 3 true (.t 4), none⟩,
            ⟨some 56, .load 2 true (.t 5), none⟩,
            ⟨some 57, .mov (.t 8), none⟩,
            ⟨some 58, .mov (.t 9), none⟩,
            ⟨some 59, .call 53 [(.t 55), (.t 56), (.t 57), (.t 58)], none⟩,
            ⟨some 54, .mov (.t 59), none⟩])
         (.cond (.t 54)
          (.seq (.reg [⟨some 60, .build [(.sl .nil 0 []), (.sl .nil 0 [])] [], none⟩,
              ⟨none, .store 2 (.t 6) (.t 60), none⟩,
              ⟨some 7, .mov (.k (.int .i64 2)), none⟩])
           (.ret))
          (.seq (.reg [⟨some 62, .faddr 0 (.t 4), none⟩,
              ⟨some 63, .load 1 false (.t 62), none⟩,
              ⟨some 64, .bin .eql (.t 63) (.k (.int .i64 3)), none⟩,
              ⟨some 65, .mov (.t 64), none⟩,
              ⟨some 66, .faddr 1 (.t 5), some (65, true)⟩,
              ⟨some 67, .load 1 false (.t 66), some (65, true)⟩,
              ⟨some 68, .len (.t 67), some (65, true)⟩,
              ⟨some 69, .bin .eql (.t 68) (.k (.int .i64 6)), some (65, true)⟩,
              ⟨some 70, .pick (.t 65) (.t 69) (.k (.bool false)), none⟩,
              ⟨some 61, .mov (.t 70), none⟩])
           (.cond (.t 61)
            (.seq (.reg [⟨some 71, .build [(.sl .nil 0 []), (.sl .nil 0 [])] [], none⟩,
                ⟨none, .store 2 (.t 6) (.t 71), none⟩,
                ⟨some 7, .mov (.k (.int .i64 6)), none⟩])
             (.ret))
            (.skip))))))))
     (.seq (.dreg [false, false, false, false, false, false, false, false, false, false, false, true] [false, false, true, false, false, true, false, false, false, false, false, false] [⟨some 73, .load 3 true (.t 4), none⟩,
         ⟨some 74, .load 2 true (.t 5), none⟩,
         ⟨some 75, .call 55 [(.t 74)], none⟩,
         ⟨some 76, .mov (.t 8), none⟩,
         ⟨some 77, .mov (.t 9), none⟩,
         ⟨some 78, .call 54 [(.t 73), (.t 75), (.t 76), (.t 77)], none⟩,
         ⟨some 72, .mov (.t 78), none⟩,
         ⟨some 79, .extr (.t 72) 0, none⟩,
         ⟨some 80, .extr (.t 72) 1, none⟩,
         ⟨some 10, .alloc [(.sl .nil 0 []), (.sl .nil 0 [])], none⟩,
         ⟨none, .store 2 (.t 10) (.t 79), none⟩,
         ⟨some 11, .mov (.t 80), none⟩])
      (.seq (.seq (.reg [⟨some 81, .mov (.t 11), none⟩,
           ⟨some 82, .bin .neq (.t 81) (.k (.int .i64 0)), none⟩])
        (.cond (.t 82)
         (.seq (.reg [⟨some 83, .build [(.sl .nil 0 []), (.sl .nil 0 [])] [], none⟩,
             ⟨some 84, .mov (.t 11), none⟩,
             ⟨none, .store 2 (.t 6) (.t 83), none⟩,
             ⟨some 7, .mov (.t 84), none⟩])
          (.ret))
         (.skip)))
       (.seq (.seq (.reg [⟨some 85, .load 2 true (.t 10), none⟩,
            ⟨some 86, .call 56 [(.t 85)], none⟩])
         (.cond (.t 86)
          (.seq (.reg [⟨some 87, .build [(.sl .nil 0 []), (.sl .nil 0 [])] [], none⟩,
              ⟨none, .store 2 (.t 6) (.t 87), none⟩,
              ⟨some 7, .mov (.k (.int .i64 4)), none⟩])
           (.ret))
          (.skip)))
        (.seq (.reg [⟨some 88, .load 2 true (.t 10), none⟩,
            ⟨some 89, .call 57 [(.t 88)], none⟩,
            ⟨none, .store 2 (.t 6) (.t 89), none⟩,
            ⟨some 7, .mov (.k (.int .i64 0)), none⟩])
         (.ret)))))))))⟩
theorem fok_spec_Exec : FOk Try.prog 8 code_spec_Exec := fok Try.func8 (by kernel_rfl)
@[simp] def ct_sExec : Ct := ⟨8, Xx, fun x => szVarsOk x.vars ∧ szHeap x.h ≤ 1048576, fun x => [encL 1 encStr x.vars, encStmt x.s, encHeap x.h], fun x => .tup [encHeap (execH x.vars x.s x.h).1, .int .i64 (execH x.vars x.s x.h).2]⟩
set_option maxHeartbeats 8000000 in
set_option maxRecDepth 100000 in
theorem ok_sExec : ct_sExec.Ok Try.prog := by
  rintro ⟨vars, s, h⟩ ⟨hv, hz⟩
  change szVarsOk vars at hv
  change szHeap h ≤ 1048576 at hz
  have hT : TabOk Try.prog _ := tab_h (CtN.hok ok_l7CopyN) (tab_h ok_l8Do (tab_cons ok_sIsStmt (tab_cons ok_sIsHeap (tab_cons ok_sIndexOf (tab_cons ok_l1Max (tab_cons ok_sIsTest (tab_cons ok_sholds (tab_cons ok_l8Null (tab_cons ok_sHasLeak (tab_cons ok_sCanon tab_nil))))))))))
  simp only [ct_sExec]
  by_cases q1 : ¬ (stmtB vars s = true)
  · have e : execH vars s h = (⟨[], []⟩, 7) := by unfold execH; rw [if_pos (fun c => q1 c.1)]
    simp only [Bool.not_eq_true] at q1
    rw [e]
    refine Ok.of_cw fok_spec_Exec ?_
    simp only [code_spec_Exec, frame, List.length_cons, List.length_nil, List.replicate, Nat.reduceSub, Nat.reduceAdd, List.cons_append, List.nil_append]
    refine cw_seq (go_ok hT ?_); simp [List.replicate]
    refine cw_seq (cw_seq (go_ok hT ?_)); simp [List.replicate, hv, q1]
    refine go_ok hT ?_; simp [encHeap]
  by_cases q2 : ¬ (isHeapB vars.length h = true)
  · have e : execH vars s h = (⟨[], []⟩, 7) := by unfold execH; rw [if_pos (fun c => q2 c.2)]
    simp only [Bool.not_eq_true] at q2
    rw [e]
    refine Ok.of_cw fok_spec_Exec ?_
    simp only [code_spec_Exec, frame, List.length_cons, List.length_nil, List.replicate, Nat.reduceSub, Nat.reduceAdd, List.cons_append, List.nil_append]
    refine cw_seq (go_ok hT ?_); simp [List.replicate]
    refine cw_seq (cw_seq (go_ok hT ?_)); simp [List.replicate, hv, hz, Classical.not_not.1 q1, q2]
    refine go_ok hT ?_; simp [encHeap]
  have q1 := Classical.not_not.1 q1
  have q2 := Classical.not_not.1 q2
  obtain ⟨b1, b2, b3, b4, b5, b6⟩ := heap_bounds q2
  obtain ⟨n1, n2, n3⟩ := stmt_names q1
  have hl : vars.length = h.vars.length := by omega
  have hn : ∀ name, (ixS vars name).toNat < h.vars.length := fun name => by
    have : ixS vars name < vars.length := findI_le
    omega
  obtain ⟨vs, nx⟩ := h
  simp only at b1 b4 b5 b6 hl hn
  have hr : execH vars s ⟨vs, nx⟩ = execT s.kind ⟨vs, nx⟩ (ixS vars s.a).toNat (vs.getD (ixS vars s.a).toNat 0) (vs.getD (ixS vars s.b).toNat 0) := by
    have hh : stmtB vars s = true ∧ isHeapB vars.length ⟨vs, nx⟩ = true := ⟨q1, q2⟩
    have : execH vars s ⟨vs, nx⟩ = execT s.kind ⟨vs, nx⟩ (ixS vars s.a) (atV vars ⟨vs, nx⟩ s.a) (atV vars ⟨vs, nx⟩ s.b) := by
      unfold execH execT; rw [if_neg (fun c => c hh)]
    rw [this]
    refine execT_same n1 (fun h0 => ?_) (fun h0 => ?_)
    · have := (n2 h0).1
      exact ⟨by unfold atV; rw [if_pos this], by omega⟩
    · have := (n3 h0).1
      unfold atV; rw [if_pos this]
  have hi := hn s.a
  have hj := hn s.b
  have m1 : max (ixS vars s.a) 0 = ((ixS vars s.a).toNat : Int) := by omega
  have m3 : (if ixS vars s.a < 0 then 0 else ixS vars s.a) = ((ixS vars s.a).toNat : Int) := by split <;> omega
  have m4 : (if ixS vars s.b < 0 then 0 else ixS vars s.b) = ((ixS vars s.b).toNat : Int) := by split <;> omega
  have m2 : max (ixS vars s.b) 0 = ((ixS vars s.b).toNat : Int) := by omega
  have e1 : vs.getD (ixS vars s.a).toNat 0 = vs[(ixS vars s.a).toNat] := by simp [List.getD_eq_getElem?_getD, hi]
  have e2 : vs.getD (ixS vars s.b).toNat 0 = vs[(ixS vars s.b).toNat] := by simp [List.getD_eq_getElem?_getD, hj]
  generalize execH vars s ⟨vs, nx⟩ = R at *
  refine Ok.of_cw fok_spec_Exec ?_
  simp only [code_spec_Exec, frame, List.length_cons, List.length_nil, List.replicate, Nat.reduceSub, Nat.reduceAdd, List.cons_append, List.nil_append]
  refine cw_seq (go_ok hT ?_); simp [List.replicate]
  refine cw_seq (cw_seq (go_ok hT ?_)); simp [List.replicate, hv, hz, q1, q2]
  refine go_ok hT ?_; simp
  refine cw_seq (go_ok hT ?_); simp [List.replicate]; simp only [m1, m3]
  refine cw_seq (go_ok hT ?_); simp [List.replicate]; simp only [m2, m4]
  generalize (ixS vars s.a).toNat = i at *
  generalize (ixS vars s.b).toNat = j at *
  rw [e1, e2] at hr
  have hga : vs[i] ∈ vs := List.getElem_mem hi
  have hgb : vs[j] ∈ vs := List.getElem_mem hj
  generalize hav : vs[i] = a at *
  generalize hbv : vs[j] = b at *
  have ba := b5 a hga
  have bb := b5 b hgb
  clear hn
  rw [hr]
  unfold execT
  clear hr
  refine cw_seq (cw_block ?_)
  refine cw_to ⟨slots 90 [(4, .pbox 0 0), (5, .pbox 1 0), (6, .pbox 4 0), (7, .int .i64 0), (8, .int .i64 i), (9, .int .i64 j), (34, .bool (testB s.kind && !holdsB s.kind a b))], [.cells [.int .i64 s.kind, .str s.a, .str s.b], .cells [encL 1 encInt vs, encL 1 encInt nx], .nrow, .nrow, .cells [.slref 2 0 0 0, .slref 3 0 0 0]]⟩ ?_ ?_
  · cases h1 : testB s.kind
    · refine go_ok hT ?_; simp [List.replicate, isH, needs1, hasAl, h1, m1, m2, m3, m4]
      exact weak_less (by simp) (by simp [List.replicate, m1, m2, m3, m4])
    · cases h2 : holdsB s.kind a b
      · refine go_ok hT ?_; simp [List.replicate, isH, needs1, hasAl, h1, h2, hi, hj, hav, hbv, m1, m2, m3, m4]
        exact weak_less (by simp) (by simp [List.replicate, m1, m2, m3, m4])
      · refine go_ok hT ?_; simp [List.replicate, isH, needs1, hasAl, h1, h2, hi, hj, hav, hbv, m1, m2, m3, m4]
        exact weak_less (by simp) (by simp [List.replicate, m1, m2, m3, m4])
  refine cw_cond (b := testB s.kind && !holdsB s.kind a b) (by simp [Opd.ev, slots, List.replicate]) (fun t => ?_) (fun t => ?_)
  · have t' : testB s.kind = true ∧ holdsB s.kind a b = false := by simpa using t
    rw [if_pos t']
    refine go_ok hT ?_; simp [List.replicate, encHeap]
  have t' : ¬ (testB s.kind = true ∧ holdsB s.kind a b = false) := fun c => absurd (show (testB s.kind && !holdsB s.kind a b) = true by simpa using c) (by rw [t]; decide)
  rw [if_neg t']
  clear t
  have hnr : N8.res ⟨s, ⟨vs, nx⟩, i, j⟩ = (needB s.kind && decide (needV s.kind a b = -1)) := by
    unfold N8.res needB needV
    simp only [e1, e2]
    by_cases k5 : s.kind = 5
    · simp [k5]
    by_cases k6 : s.kind = 6
    · simp [k6]
    by_cases k7 : s.kind = 7
    · simp [k7]
    by_cases k8 : s.kind = 8
    · simp [k8]
    · simp [k5, k6, k7, k8]
  refine cw_to ⟨slots 90 [(4, .pbox 0 0), (5, .pbox 1 0), (6, .pbox 4 0), (7, .int .i64 0), (8, .int .i64 i), (9, .int .i64 j), (54, .bool (needB s.kind && decide (needV s.kind a b = -1)))], [.cells [.int .i64 s.kind, .str s.a, .str s.b], .cells [encL 1 encInt vs, encL 1 encInt nx], .nrow, .nrow, .cells [.slref 2 0 0 0, .slref 3 0 0 0]]⟩ ?_ ?_
  · refine go_ok hT ?_; simp [List.replicate]
    refine ⟨⟨s, ⟨vs, nx⟩, i, j⟩, ?_⟩
    simp [encStmt_eq, encHeap_eq, hi, hj, hnr]
    exact weak_less (by simp) (by simp [List.replicate])
  refine cw_cond (b := needB s.kind && decide (needV s.kind a b = -1)) (by simp [Opd.ev, slots, List.replicate]) (fun t => ?_) (fun t => ?_)
  · have t' : needB s.kind = true ∧ needV s.kind a b = -1 := by simpa using t
    rw [if_pos t']
    refine go_ok hT ?_; simp [List.replicate, encHeap]
  have t2 : ¬ (needB s.kind = true ∧ needV s.kind a b = -1) := fun c => absurd (show (needB s.kind && decide (needV s.kind a b = -1)) = true by simpa using c) (by rw [t]; decide)
  rw [if_neg t2]
  clear t hnr
  refine cw_to ⟨slots 90 [(4, .pbox 0 0), (5, .pbox 1 0), (6, .pbox 4 0), (7, .int .i64 0), (8, .int .i64 i), (9, .int .i64 j), (61, .bool (decide (s.kind = 3) && decide (nx.length = 6)))], [.cells [.int .i64 s.kind, .str s.a, .str s.b], .cells [encL 1 encInt vs, encL 1 encInt nx], .nrow, .nrow, .cells [.slref 2 0 0 0, .slref 3 0 0 0]]⟩ ?_ ?_
  · by_cases h1 : s.kind = 3
    · by_cases h2 : nx.length = 6
      · refine go_ok hT ?_; simp [List.replicate, h1, h2]
        exact weak_less (by simp) (by simp [List.replicate, h1, h2])
      · have h2' : ¬ (nx.length : Int) = 6 := by omega
        refine go_ok hT ?_; simp [List.replicate, h1, h2, h2']
        exact weak_less (by simp) (by simp [List.replicate, h1, h2, h2'])
    · refine go_ok hT ?_; simp [List.replicate, h1]
      exact weak_less (by simp) (by simp [List.replicate, h1])
  refine cw_cond (b := decide (s.kind = 3) && decide (nx.length = 6)) (by simp [Opd.ev, slots, List.replicate]) (fun t => ?_) (fun t => ?_)
  · have t' : s.kind = 3 ∧ nx.length = 6 := by simpa using t
    rw [if_pos t']
    refine go_ok hT ?_; simp [List.replicate, encHeap]
  have t3 : ¬ (s.kind = 3 ∧ nx.length = 6) := fun c => absurd (show (decide (s.kind = 3) && decide (nx.length = 6)) = true by simpa using c) (by rw [t]; decide)
  rw [if_neg t3]
  clear t
  refine go_ok hT ?_; simp
  have hp : ∀ y : List Blk, y.length = 10 → D8.Pre ⟨y, vs, nx, s, i, j⟩ := fun y hy => by
    refine ⟨hy, by simp only; omega, b4, hi, hj, fun t ht => by have := b5 t ht; omega, fun t ht => by have := b6 t ht; omega, fun t ht => ?_, fun hk => ?_, fun hk => ?_, ?_⟩
    · have := b6 t ht
      by_cases e : t = -1
      · exact .inl e
      · exact .inr ⟨by omega, by change t < (nx.length : Int); omega⟩
    · simp only [D8.a, e1] at hk ⊢
      have h2 : needB s.kind = true := by rcases hk with h | h | h <;> simp [h, needB]
      have h3 : needV s.kind a b = a := by rcases hk with h | h | h <;> simp [h, needV]
      have h4 : ¬ a = -1 := fun e => t2 ⟨h2, h3.trans e⟩
      omega
    · simp only [D8.b, e2] at hk ⊢
      have h4 : ¬ b = -1 := fun e => t2 ⟨by simp [hk, needB], by simp [hk, needV, e]⟩
      omega
    · simp only [D8.b, e2]
      by_cases e : b = -1
      · exact .inl e
      · exact .inr ⟨by omega, by omega⟩
  have z0 : szHeap ⟨vs, nx⟩ ≤ 1048576 := hz
  refine cw_weak weak_void ?_
  refine cw_seq (cw_dreg9K hT [_, _, _, _, _] [true, false] [[.void], []] [none, none, some 1, none, none, some 1, none, none, none, some 0, some 0, none] [[], [], [false, true], [], [], [false, true], [], [], [], [true, false], [true, false], []] (by rfl) (one_cons (fun _ => rfl) (one_cons (by simp) one_nil)) (by rfl) ?_)
  simp [List.replicate, z0]
  refine ⟨(⟨[], vs, nx, s, i, j⟩ : D8).rs, .dead :: .dead :: .dead :: .cells [.slref 10 0 vs.length vs.length, .slref 11 0 nx.length nx.length] :: (⟨[], vs, nx, s, i, j⟩ : D8).hp, fun x => ⟨⟨[.cells [.int .i64 s.kind, .str s.a, .str s.b], .cells [encL 1 encInt vs, encL 1 encInt nx], .nrow, .nrow, .cells [.slref 2 0 0 0, .slref 3 0 0 0], x, .dead, .dead, .dead, .cells [.slref 10 0 vs.length vs.length, .slref 11 0 nx.length nx.length]], vs, nx, s, i, j⟩, rfl, rfl, rfl, rfl, rfl, rfl, hp _ rfl, rfl, rfl⟩, ?_⟩
  clear hp
  have hc : D8.code (⟨[], vs, nx, s, i, j⟩ : D8) = if s.kind = 8 ∧ (1 < (pos vs a).length ∨ a ∈ nx) then 5 else if s.kind = 7 ∧ a ∈ followed nx b then 3 else 0 := by
    unfold D8.code D8.a D8.b; simp only [e1, e2]
  have hO : D8.out (⟨[], vs, nx, s, i, j⟩ : D8) = if D8.code (⟨[], vs, nx, s, i, j⟩ : D8) = 0 then perfH s.kind ⟨vs, nx⟩ i a b else ⟨[], []⟩ := by
    unfold D8.out D8.a D8.b; simp only [e1, e2]
  by_cases p8 : s.kind = 8 ∧ (1 < (pos vs a).length ∨ a ∈ nx)
  · rw [if_pos p8] at hc ⊢
    have hw : ¬ D8.own (⟨[], vs, nx, s, i, j⟩ : D8) := fun c => by have := c.1; rw [hc] at this; omega
    rw [hc, if_neg (by omega)] at hO
    have h1 : D8.rs (⟨[], vs, nx, s, i, j⟩ : D8) = .tup [encHeap ⟨[], []⟩, .int .i64 5] := by unfold D8.rs; rw [if_neg hw, hO, hc]
    have h2 : D8.hp (⟨[], vs, nx, s, i, j⟩ : D8) = [.dead, .dead, .dead, .dead, .dead, .dead, .cells [encL 1 encInt [], encL 1 encInt []]] := by unfold D8.hp; rw [if_neg hw, hO]; rfl
    rw [h1, h2]
    clear hc hO hw h1 h2
    simp [encHeap_eq, AV.stored]
    refine cw_seq (cw_seq (go_ok hT ?_)); simp [List.replicate]
    refine go_ok hT ?_; simp [List.replicate]
  rw [if_neg p8] at hc ⊢
  by_cases p7 : s.kind = 7 ∧ a ∈ followed nx b
  · rw [if_pos p7] at hc ⊢
    have hw : ¬ D8.own (⟨[], vs, nx, s, i, j⟩ : D8) := fun c => by have := c.1; rw [hc] at this; omega
    rw [hc, if_neg (by omega)] at hO
    have h1 : D8.rs (⟨[], vs, nx, s, i, j⟩ : D8) = .tup [encHeap ⟨[], []⟩, .int .i64 3] := by unfold D8.rs; rw [if_neg hw, hO, hc]
    have h2 : D8.hp (⟨[], vs, nx, s, i, j⟩ : D8) = [.dead, .dead, .dead, .dead, .dead, .dead, .cells [encL 1 encInt [], encL 1 encInt []]] := by unfold D8.hp; rw [if_neg hw, hO]; rfl
    rw [h1, h2]
    clear hc hO hw h1 h2
    simp [encHeap_eq, AV.stored]
    refine cw_seq (cw_seq (go_ok hT ?_)); simp [List.replicate]
    refine go_ok hT ?_; simp [List.replicate]
  rw [if_neg p7] at hc ⊢
  rw [hc, if_pos rfl] at hO
  have hsz : szHeap (perfH s.kind ⟨vs, nx⟩ i a b) ≤ 1048576 := by
    have := perfH_sz s.kind ⟨vs, nx⟩ i a b
    have : szHeap ⟨vs, nx⟩ ≤ 10 := by change vs.length + nx.length ≤ 10; omega
    omega
  generalize hout : perfH s.kind ⟨vs, nx⟩ i a b = out at *
  by_cases k8 : s.kind = 8
  · have hw : ¬ D8.own (⟨[], vs, nx, s, i, j⟩ : D8) := fun c => c.2 k8
    have h1 : D8.rs (⟨[], vs, nx, s, i, j⟩ : D8) = .tup [encHeap out, .int .i64 0] := by unfold D8.rs; rw [if_neg hw, hO, hc]
    have h2 : D8.hp (⟨[], vs, nx, s, i, j⟩ : D8) = [.dead, .dead, .dead, .dead, .dead, .dead, .cells [encL 1 encInt out.vars, encL 1 encInt out.next]] := by unfold D8.hp; rw [if_neg hw, hO]; rfl
    rw [h1, h2]
    clear hc hO hw h1 h2
    cases hlk : leakB out
    · simp [encHeap_eq, AV.stored]
      refine cw_seq (cw_seq (go_ok hT ?_)); simp [List.replicate]
      refine go_ok hT ?_; simp
      refine cw_seq (cw_seq (go_ok hT ?_)); simp [List.replicate, hsz, hlk]
      refine go_ok hT ?_; simp
      refine go_ok hT ?_; simp [List.replicate, hsz, encHeap_eq]
      exact ⟨out, rfl, rfl, hsz, rfl, rfl⟩
    · simp [encHeap_eq, AV.stored]
      refine cw_seq (cw_seq (go_ok hT ?_)); simp [List.replicate]
      refine go_ok hT ?_; simp
      refine cw_seq (cw_seq (go_ok hT ?_)); simp [List.replicate, hsz, hlk]
      refine go_ok hT ?_; simp [List.replicate, encHeap_eq]
  · have hw : D8.own (⟨[], vs, nx, s, i, j⟩ : D8) := ⟨hc, k8⟩
    obtain ⟨ov, on⟩ := out
    have h1 : D8.rs (⟨[], vs, nx, s, i, j⟩ : D8) = .tup [.agg [.slref 10 0 ov.length ov.length, .slref 11 0 on.length on.length], .int .i64 0] := by unfold D8.rs; rw [if_pos hw, hO, hc]
    have h2 : D8.hp (⟨[], vs, nx, s, i, j⟩ : D8) = [.row true 3 1 (ov.map encInt), .row true 3 1 (on.map encInt), .dead, .dead, .dead, .dead, .cells [.slref 10 0 ov.length ov.length, .slref 11 0 on.length on.length]] := by unfold D8.hp; rw [if_pos hw, hO]; rfl
    rw [h1, h2]
    clear hc hO hw h1 h2
    cases hlk : leakB ⟨ov, on⟩
    · simp [encHeap_eq, AV.stored]
      refine cw_seq (cw_seq (go_ok hT ?_)); simp [List.replicate]
      refine go_ok hT ?_; simp
      refine cw_seq (cw_seq (go_ok hT ?_)); simp [List.replicate, hsz, hlk]
      refine go_ok hT ?_; simp
      refine go_ok hT ?_; simp [List.replicate, hsz, encHeap_eq]
      refine ⟨⟨ov, on⟩, rfl, rfl, hsz, ?_⟩
      simp [Blk.freeze, Blk.frozen]
    · simp [encHeap_eq, AV.stored]
      refine cw_seq (cw_seq (go_ok hT ?_)); simp [List.replicate]
      refine go_ok hT ?_; simp
      refine cw_seq (cw_seq (go_ok hT ?_)); simp [List.replicate, hsz, hlk]
      refine go_ok hT ?_; simp [List.replicate, encHeap_eq]
end Go.Vm

/- Exec: the law. No condition. -/
import Derived.Test.YtkclkieeapdeiaaTLD
import Derived.Test.YtkclkieeapdeiaaTLE
import Derived.Test.YtkclkieeapdeiaaTMX
import Derived.Test.YtkclkieeapdeiaaTMW
import Derived.Test.YtkclkieeapdeiaaTPF
import Derived.Test.YtkclkieeapdeiaaVme
set_option linter.unusedSimpArgs false
set_option linter.unusedVariables false
namespace Go.Vm
open Go.Proofs
def code_laws_FnExactExec : F := ⟨132, [.tmp 6],
 .seq (.reg [⟨some 4, .box (.t 1), none⟩,
    ⟨some 5, .box (.t 2), none⟩,
    ⟨some 6, .mov (.k (.bool false)), none⟩])
 (.seq (.reg [⟨some 7, .mov (.k (.int .i64 1048576)), none⟩])
  (.seq (.reg [⟨some 19, .mov (.t 0), none⟩,
      ⟨some 20, .mov (.t 7), none⟩,
      ⟨some 21, .call 17 [(.t 19), (.t 20)], none⟩,
      ⟨some 7, .mov (.t 21), none⟩])
   (.seq (.seq (.reg [⟨some 22, .mov (.t 7), none⟩,
        ⟨some 23, .bin .lss (.t 22) (.k (.int .i64 0)), none⟩])
     (.cond (.t 23)
      (.seq (.reg [⟨some 6, .mov (.k (.bool true)), none⟩])
       (.ret))
      (.skip)))
    (.seq (.reg [⟨some 24, .load 3 true (.t 4), none⟩,
        ⟨some 25, .mov (.t 7), none⟩,
        ⟨some 26, .call 18 [(.t 24), (.t 25)], none⟩,
        ⟨some 7, .mov (.t 26), none⟩])
     (.seq (.seq (.reg [⟨some 27, .mov (.t 7), none⟩,
          ⟨some 28, .bin .lss (.t 27) (.k (.int .i64 0)), none⟩])
       (.cond (.t 28)
        (.seq (.reg [⟨some 6, .mov (.k (.bool true)), none⟩])
         (.ret))
        (.skip)))
      (.seq (.reg [⟨some 29, .load 2 true (.t 5), none⟩,
          ⟨some 30, .mov (.t 7), none⟩,
          ⟨some 31, .call 19 [(.t 29), (.t 30)], none⟩,
          ⟨some 7, .mov (.t 31), none⟩])
       (.seq (.seq (.reg [⟨some 32, .mov (.t 7), none⟩,
            ⟨some 33, .bin .lss (.t 32) (.k (.int .i64 0)), none⟩])
         (.cond (.t 33)
          (.seq (.reg [⟨some 6, .mov (.k (.bool true)), none⟩])
           (.ret))
          (.skip)))
        (.seq (.dreg [false, false, false, false, false, false, false, false, false, false, false, false, true] [false, true, false, true, false, true, true, false, false, false, false, false, false] [⟨some 35, .mov (.t 0), none⟩,
            ⟨some 36, .call 20 [(.t 35)], none⟩,
            ⟨some 37, .load 3 true (.t 4), none⟩,
            ⟨some 38, .call 21 [(.t 37)], none⟩,
            ⟨some 39, .load 2 true (.t 5), none⟩,
            ⟨some 40, .call 22 [(.t 39)], none⟩,
            ⟨some 41, .call 8 [(.t 36), (.t 38), (.t 40)], none⟩,
            ⟨some 34, .mov (.t 41), none⟩,
            ⟨some 42, .extr (.t 34) 0, none⟩,
            ⟨some 43, .extr (.t 34) 1, none⟩,
            ⟨some 8, .alloc [(.sl .nil 0 []), (.sl .nil 0 [])], none⟩,
            ⟨none, .store 2 (.t 8) (.t 42), none⟩,
            ⟨some 9, .mov (.t 43), none⟩])
         (.seq (.reg [⟨some 44, .mov (.t 0), none⟩,
             ⟨some 45, .call 20 [(.t 44)], none⟩,
             ⟨some 10, .mov (.t 45), none⟩])
          (.seq (.reg [⟨some 46, .load 2 true (.t 5), none⟩,
              ⟨some 47, .call 22 [(.t 46)], none⟩,
              ⟨some 11, .alloc [(.sl .nil 0 []), (.sl .nil 0 [])], none⟩,
              ⟨none, .store 2 (.t 11) (.t 47), none⟩])
           (.seq (.dreg [false, false, false, false, false, false, false, false, false, false, true] [false, false, true, false, true, false, false, false, false, false, false] [⟨some 49, .mov (.t 10), none⟩,
               ⟨some 50, .load 3 true (.t 4), none⟩,
               ⟨some 51, .call 21 [(.t 50)], none⟩,
               ⟨some 52, .load 2 true (.t 11), none⟩,
               ⟨some 53, .call 7 [(.t 49), (.t 51), (.t 52)], none⟩,
               ⟨some 48, .mov (.t 53), none⟩,
               ⟨some 54, .extr (.t 48) 0, none⟩,
               ⟨some 55, .extr (.t 48) 1, none⟩,
               ⟨some 12, .alloc [(.sl .nil 0 []), (.sl .nil 0 [])], none⟩,
               ⟨none, .store 2 (.t 12) (.t 54), none⟩,
               ⟨some 13, .mov (.t 55), none⟩])
            (.seq (.seq (.reg [⟨some 56, .load 2 true (.t 12), none⟩,
                 ⟨some 57, .load 2 true (.t 8), none⟩,
                 ⟨some 58, .call 23 [(.t 56), (.t 57)], none⟩,
                 ⟨some 59, .not (.t 58), none⟩,
                 ⟨some 60, .mov (.t 59), none⟩,
                 ⟨some 61, .mov (.t 13), some (60, false)⟩,
                 ⟨some 62, .mov (.t 9), some (60, false)⟩,
                 ⟨some 63, .bin .neq (.t 61) (.t 62), some (60, false)⟩,
                 ⟨some 64, .pick (.t 60) (.k (.bool true)) (.t 63), none⟩])
              (.cond (.t 64)
               (.seq (.reg [⟨some 6, .mov (.k (.bool false)), none⟩])
                (.ret))
               (.skip)))
             (.seq (.seq (.reg [⟨some 65, .mov (.t 10), none⟩,
                  ⟨some 66, .mov (.t 0), none⟩,
                  ⟨some 67, .call 20 [(.t 66)], none⟩,
                  ⟨some 68, .call 24 [(.t 65), (.t 67)], none⟩,
                  ⟨some 69, .not (.t 68), none⟩])
               (.cond (.t 69)
                (.seq (.reg [⟨some 6, .mov (.k (.bool false)), none⟩])
                 (.ret))
                (.skip)))
              (.seq (.seq (.dreg [false, false, false, true, true] [false, false, true, true, false] [⟨some 70, .load 2 true (.t 11), none⟩,
                   ⟨some 71, .load 2 true (.t 5), none⟩,
                   ⟨some 72, .call 22 [(.t 71)], none⟩,
                   ⟨some 73, .call 23 [(.t 70), (.t 72)], none⟩,
                   ⟨some 74, .not (.t 73), none⟩])
                (.cond (.t 74)
                 (.seq (.reg [⟨some 6, .mov (.k (.bool false)), none⟩])
                  (.ret))
                 (.skip)))
               (.seq (.reg [⟨some 14, .mov (.k (.int .i64 1)), none⟩])
                (.seq (.reg [⟨some 75, .mov (.t 10), none⟩,
                    ⟨some 76, .mov (.t 14), none⟩,
                    ⟨some 77, .call 25 [(.t 75), (.t 76)], none⟩,
                    ⟨some 14, .mov (.t 77), none⟩])
                 (.seq (.reg [⟨some 78, .load 2 true (.t 11), none⟩,
                     ⟨some 79, .mov (.t 14), none⟩,
                     ⟨some 80, .call 26 [(.t 78), (.t 79)], none⟩,
                     ⟨some 14, .mov (.t 80), none⟩])
                  (.seq (.seq (.reg [⟨some 81, .mov (.t 14), none⟩,
                       ⟨some 82, .bin .lss (.t 81) (.k (.int .i64 0)), none⟩,
                       ⟨some 83, .mov (.t 82), none⟩,
                       ⟨some 84, .load 2 true (.t 12), some (83, false)⟩,
                       ⟨some 85, .load 2 true (.t 8), some (83, false)⟩,
                       ⟨some 86, .call 23 [(.t 84), (.t 85)], some (83, false)⟩,
                       ⟨some 87, .not (.t 86), some (83, false)⟩,
                       ⟨some 88, .pick (.t 83) (.k (.bool true)) (.t 87), none⟩,
                       ⟨some 89, .mov (.t 88), none⟩,
                       ⟨some 90, .mov (.t 13), some (89, false)⟩,
                       ⟨some 91, .mov (.t 9), some (89, false)⟩,
                       ⟨some 92, .bin .neq (.t 90) (.t 91), some (89, false)⟩,
                       ⟨some 93, .pick (.t 89) (.k (.bool true)) (.t 92), none⟩])
                    (.cond (.t 93)
                     (.seq (.reg [⟨some 6, .mov (.k (.bool false)), none⟩])
                      (.ret))
                     (.skip)))
                   (.seq (.reg [⟨some 15, .mov (.k (.int .i64 1)), none⟩])
                    (.seq (.reg [⟨some 94, .load 2 true (.t 12), none⟩,
                        ⟨some 95, .mov (.t 15), none⟩,
                        ⟨some 96, .call 26 [(.t 94), (.t 95)], none⟩,
                        ⟨some 15, .mov (.t 96), none⟩])
                     (.seq (.reg [⟨some 16, .mov (.k (.int .i64 1)), none⟩])
                      (.seq (.reg [⟨some 97, .load 2 true (.t 12), none⟩,
                          ⟨some 98, .mov (.t 16), none⟩,
                          ⟨some 99, .call 27 [(.t 97), (.t 98)], none⟩,
                          ⟨some 16, .mov (.t 99), none⟩])
                       (.seq (.seq (.reg [⟨some 100, .mov (.t 16), none⟩,
                            ⟨some 101, .bin .lss (.t 100) (.k (.int .i64 0)), none⟩])
                         (.cond (.t 101)
                          (.seq (.reg [⟨some 6, .mov (.k (.bool false)), none⟩])
                           (.ret))
                          (.skip)))
                        (.seq (.seq (.reg [⟨some 102, .mov (.t 16), none⟩,
                             ⟨some 103, .mov (.t 15), none⟩,
                             ⟨some 104, .bin .neq (.t 102) (.t 103), none⟩])
                          (.cond (.t 104)
                           (.seq (.reg [⟨some 6, .mov (.k (.bool false)), none⟩])
                            (.ret))
                           (.skip)))
                         (.seq (.dreg [false, false, false, false, false, false, false, false, false, false, false, false, true] [false, true, false, true, false, true, true, false, false, false, false, false, false] [⟨some 106, .mov (.t 0), none⟩,
                             ⟨some 107, .call 20 [(.t 106)], none⟩,
                             ⟨some 108, .load 3 true (.t 4), none⟩,
                             ⟨some 109, .call 21 [(.t 108)], none⟩,
                             ⟨some 110, .load 2 true (.t 5), none⟩,
                             ⟨some 111, .call 22 [(.t 110)], none⟩,
                             ⟨some 112, .call 7 [(.t 107), (.t 109), (.t 111)], none⟩,
                             ⟨some 105, .mov (.t 112), none⟩,
                             ⟨some 113, .extr (.t 105) 0, none⟩,
                             ⟨some 114, .extr (.t 105) 1, none⟩,
                             ⟨some 17, .alloc [(.sl .nil 0 []), (.sl .nil 0 [])], none⟩,
                             ⟨none, .store 2 (.t 17) (.t 113), none⟩,
                             ⟨some 18, .mov (.t 114), none⟩])
                          (.seq (.seq (.reg [⟨some 115, .load 2 true (.t 17), none⟩,
                               ⟨some 116, .load 2 true (.t 8), none⟩,
                               ⟨some 117, .call 23 [(.t 115), (.t 116)], none⟩,
                               ⟨some 118, .not (.t 117), none⟩,
                               ⟨some 119, .mov (.t 118), none⟩,
                               ⟨some 120, .mov (.t 18), some (119, false)⟩,
                               ⟨some 121, .mov (.t 9), some (119, false)⟩,
                               ⟨some 122, .bin .neq (.t 120) (.t 121), some (119, false)⟩,
                               ⟨some 123, .pick (.t 119) (.k (.bool true)) (.t 122), none⟩])
                            (.cond (.t 123)
                             (.seq (.reg [⟨some 6, .mov (.k (.bool false)), none⟩])
                              (.ret))
                             (.skip)))
                           (.seq (.reg [⟨some 16, .mov (.k (.int .i64 1)), none⟩])
                            (.seq (.reg [⟨some 124, .load 2 true (.t 12), none⟩,
                                ⟨some 125, .mov (.t 16), none⟩,
                                ⟨some 126, .call 27 [(.t 124), (.t 125)], none⟩,
                                ⟨some 16, .mov (.t 126), none⟩])
                             (.seq (.seq (.reg [⟨some 127, .mov (.t 16), none⟩,
                                  ⟨some 128, .bin .lss (.t 127) (.k (.int .i64 0)), none⟩])
                               (.cond (.t 128)
                                (.seq (.reg [⟨some 6, .mov (.k (.bool false)), none⟩])
                                 (.ret))
                                (.skip)))
                              (.seq (.seq (.reg [⟨some 129, .mov (.t 16), none⟩,
                                   ⟨some 130, .mov (.t 15), none⟩,
                                   ⟨some 131, .bin .neq (.t 129) (.t 130), none⟩])
                                (.cond (.t 131)
                                 (.seq (.reg [⟨some 6, .mov (.k (.bool false)), none⟩])
                                  (.ret))
                                 (.skip)))
                               (.seq (.reg [⟨some 6, .mov (.k (.bool true)), none⟩])
                                (.ret))))))))))))))))))))))))))))))))⟩
theorem fok_laws_FnExactExec : FOk Try.prog 4 code_laws_FnExactExec := fok Try.func4 (by kernel_rfl)
@[simp] theorem shL_strs {n : Nat} {xs : List (List UInt8)} : shL n (xs.map encStr) = xs.map encStr := by
  rw [shL_map, List.map_map]; congr 1
theorem met_le8 (h : Heap) : (met h).length ≤ h.next.length := goodC_len (met_good h)
theorem canon_len8 (h : Heap) : (canonH h).vars.length ≤ h.vars.length ∧ (canonH h).next.length ≤ h.next.length := by
  unfold canonH
  split
  · have := met_le8 h
    simp [this]
  · simp
theorem execH_len (vars : List (List UInt8)) (s : Stmt) (h : Heap) : (execH vars s h).1.vars.length ≤ 16 ∧ (execH vars s h).1.next.length ≤ 16 := by
  unfold execH
  simp only []
  split
  · simp
  rename_i h0
  have h0 := Decidable.not_not.mp h0
  obtain ⟨e1, e2, e3, e4, -, -⟩ := heap_bounds h0.2
  have c := canon_len8 (perfH s.kind h (ixS vars s.a) (atV vars h s.a) (atV vars h s.b))
  have p := perfH_sz s.kind h (ixS vars s.a) (atV vars h s.a) (atV vars h s.b)
  have p : (perfH s.kind h (ixS vars s.a) (atV vars h s.a) (atV vars h s.b)).vars.length + (perfH s.kind h (ixS vars s.a) (atV vars h s.a) (atV vars h s.b)).next.length ≤ h.vars.length + h.next.length + 1 := p
  (repeat' split) <;> constructor <;> dsimp only [] <;> first | omega | exact Nat.zero_le _
@[simp] theorem take_marks8 (k : Int) (n : Nat) : List.take n (List.map encInt (marks k n)) = List.map encInt (marks k n) := List.take_of_length_le (by simp)
set_option maxHeartbeats 8000000 in
set_option maxRecDepth 100000 in
theorem ok_lawExec (vars : List (List UInt8)) (hv : ∀ s ∈ vars, s.length ≤ 9223372036854775807) (st : Stmt) (hst : st.a.length ≤ 9223372036854775807 ∧ st.b.length ≤ 9223372036854775807) (x : Heap) :
    Ok Try.prog 4 [encL 1 encStr vars, encStmt st, encHeap x] (.bool true) := by
  have hT : TabOk Try.prog _ := tab_cons ok_szStrs (tab_cons ok_szStmt (tab_cons ok_szHeap (tab_cons ok_toStrs (tab_cons ok_toStmt (tab_cons ok_toHeap (tab_cons ok_sExec (tab_cons ok_pExec (tab_cons ok_eqStrs (tab_cons ok_eqHeap (tab_cons ok_heldHp tab_nil))))))))))
  have q1 : strsOk vars := hv
  have q2 : stmtOk st := hst
  refine Ok.of_cw fok_laws_FnExactExec ?_
  simp only [code_laws_FnExactExec, frame, List.length_cons, List.length_nil, List.replicate, Nat.reduceSub, Nat.reduceAdd, List.cons_append, List.nil_append]
  refine cw_seq (go_ok hT ?_)
  simp
  refine cw_seq (go_ok hT ?_)
  simp
  by_cases h1 : (szStrs vars : Int) ≤ 1048576
  case neg =>
    refine cw_seq (go_ok hT ?_)
    simp [q1, left_neg (by omega : (1048576:Int) < szStrs vars)]
    refine cw_seq (go_ok hT ?_)
    simp
  have l1 := left_ge h1
  have n1 : ¬ (1048576 - (szStrs vars : Int) < 0) := by omega
  have n1' : ¬ (1048576 < (szStrs vars : Int)) := by omega
  have p1 : (0 : Int) ≤ 1048576 - szStrs vars := by omega
  refine cw_seq (go_ok hT ?_)
  simp [q1, l1]
  refine cw_seq (go_ok hT ?_)
  simp [n1, n1']
  by_cases h2 : (szStmtN st : Int) ≤ 1048576 - szStrs vars
  case neg =>
    refine cw_seq (go_ok hT ?_)
    simp [q2, h1, p1, left_neg (by omega : (1048576:Int) - szStrs vars < szStmtN st)]
    refine ⟨by omega, ?_⟩
    refine cw_seq (go_ok hT ?_)
    simp
  have l2 := left_ge h2
  have n2 : ¬ (1048576 - (szStrs vars : Int) - szStmtN st < 0) := by omega
  refine cw_seq (go_ok hT ?_)
  simp [q2, h1, p1, l2]
  refine ⟨by omega, ?_⟩
  refine cw_seq (go_ok hT ?_)
  simp [n2]
  have hvl : vars.length ≤ szStrs vars := by unfold szStrs; omega
  have hvs : szVarsOk vars := ⟨by omega, fun s hs => by
    have h := sum_mem List.length hs
    unfold szStrs at h1
    omega⟩
  by_cases h3 : (szHeap x : Int) ≤ 1048576 - szStrs vars - szStmtN st
  case neg =>
    refine cw_seq (go_ok hT ?_)
    simp [left_neg (by omega : (1048576:Int) - szStrs vars - szStmtN st < szHeap x)]
    refine ⟨by omega, by omega, ?_⟩
    refine cw_seq (go_ok hT ?_)
    simp
  have l3 := left_ge h3
  have n3 : ¬ (1048576 - (szStrs vars : Int) - szStmtN st - szHeap x < 0) := by omega
  have hx : szHeap x ≤ 1048576 := by omega
  have hvl2 : vars.length ≤ 1048576 := by omega
  refine cw_seq (go_ok hT ?_)
  simp [l3]
  refine ⟨by omega, by omega, ?_⟩
  refine cw_seq (go_ok hT ?_)
  simp [n3]
  refine cw_weak weak_void ?_
  refine cw_seq (cw_dreg8K hT [_, _] [.void] [none, none, none, none, none, none, none, none, none, none, some 0, some 0, none] [[], [], [], [], [], [], [], [], [], [], [true], [true], []] (by rfl) ?_)
  simp [List.replicate, hx, hvl2, hvs]
  refine ⟨⟨vars, st, x⟩, rfl, rfl, rfl, hvs, hx, ?_⟩
  generalize hw : execH vars st x = w
  have hwl := execH_len vars st x
  rw [hw] at hwl
  obtain ⟨⟨wv, wn⟩, wc⟩ := w
  have y1 : wv.length ≤ 1048576 := Nat.le_trans hwl.1 (by decide)
  have y2 : wn.length ≤ 1048576 := Nat.le_trans hwl.2 (by decide)
  clear hwl
  simp only [hw]
  refine cw_weak (weak_seal (n0 := 0) 3 (by simp) (t' := slots 132 [(0, encL 1 encStr vars), (4, .pbox 0 0), (5, .pbox 1 0), (8, .pbox 2 0), (9, .int .i64 wc)]) (H' := [.cells [.int .i64 st.kind, .str st.a, .str st.b], .cells [encL 1 encInt x.vars, encL 1 encInt x.next], .cells [encL 1 encInt wv, encL 1 encInt wn]]) (by simp [AV.stored]) (by simp [List.replicate])) ?_
  refine cw_seq (go_ok (tab_h (CtN.hok ok_toStrsN) tab_nil) ?_); simp [List.replicate, hvl2]
  refine cw_seq (go_ok (tab_h (CtN.hok ok_toHeapN) tab_nil) ?_); simp [List.replicate, hx]
  refine cw_weak (weak_seal (n0 := 0) 16 (by simp) (t' := slots 132 [(0, encL 1 encStr vars), (4, .pbox 0 0), (5, .pbox 1 0), (8, .pbox 2 0), (9, .int .i64 wc), (10, .slref 3 0 vars.length vars.length), (11, .pbox 15 0)]) (H' := [.cells [.int .i64 st.kind, .str st.a, .str st.b], .cells [encL 1 encInt x.vars, encL 1 encInt x.next], .cells [encL 1 encInt wv, encL 1 encInt wn], .row true 9 1 (vars.map encStr), .dead, .dead, .dead, .dead, .dead, .dead, .dead, .row true 3 1 (x.vars.map encInt), .row true 3 1 (x.next.map encInt), .dead, .dead, .cells [.slref 11 0 x.vars.length x.vars.length, .slref 12 0 x.next.length x.next.length]]) (by simp) (by simp [List.replicate])) ?_
  have hT9 : TabOk Try.prog _ := tab_h (CtN.hok ok_pExecN) (tab_cons ok_toStmt tab_nil)
  refine cw_weak weak_void ?_
  refine cw_seq (cw_dreg9K hT9 [_, _, _, _, _, _, _, _, _, _, _, _, _, _, _, _] [true, false] [[.void], []] [none, none, none, none, some 1, none, none, none, some 0, some 0, none] [[], [], [], [], [false, true], [], [], [], [true, false], [true, false], []] (by rfl) (one_cons (fun _ => rfl) (one_cons (by simp) one_nil)) (by rfl) ?_)
  simp [List.replicate, hx, hvl2, hvs]
  refine ⟨_, ⟨vars, st, x⟩, rfl, rfl, rfl, hvs, hx, rfl, ?_⟩
  simp only [hw]
  generalize perfH st.kind x (ixS vars st.a) (atV vars x st.a) (atV vars x st.b) = pf
  have hA : exA wc pf = 5 ∨ exA wc pf = 8 ∨ exA wc pf = 12 ∨ exA wc pf = 17 := by
    unfold exA; split
    · split <;> simp
    · split <;> simp
  generalize exA wc pf = A at *
  simp [exR, AV.stored]
  have z1 : x.vars.length ≤ 1048576 := by have : x.vars.length + x.next.length ≤ 1048576 := hx; omega
  have z2 : x.next.length ≤ 1048576 := by have : x.vars.length + x.next.length ≤ 1048576 := hx; omega
  have m1 : ¬ ((1 : Int) + vars.length + x.vars.length + x.next.length < 0) := by omega
  have m2 : ¬ ((1 : Int) + wv.length + wn.length < 0) := by omega
  have m3 : ¬ ((wv.length : Int) + wn.length + 1 < 0) := by omega
  rcases hA with rfl | rfl | rfl | rfl
  · simp [exN, List.replicate]
    refine cw_weak (weak_seal (n0 := 0) 24 (by simp) (t' := slots 132 [(0, encL 1 encStr vars), (4, .pbox 0 0), (5, .pbox 1 0), (8, .pbox 2 0), (9, .int .i64 wc), (10, .slref 3 0 vars.length vars.length), (11, .pbox 15 0), (12, .pbox 16 0), (13, .int .i64 wc)]) (H' := [.cells [.int .i64 st.kind, .str st.a, .str st.b], .cells [encL 1 encInt x.vars, encL 1 encInt x.next], .cells [encL 1 encInt wv, encL 1 encInt wn], .row true 9 1 (vars.map encStr), .dead, .dead, .dead, .dead, .dead, .dead, .dead, .row true 3 1 (x.vars.map encInt), .row true 3 1 (x.next.map encInt), .dead, .dead, .cells [.slref 11 0 x.vars.length x.vars.length, .slref 12 0 x.next.length x.next.length], .cells [.slref 22 0 wv.length wv.length, .slref 23 0 wn.length wn.length], .dead, .dead, .dead, .dead, .dead, .row true 3 1 (wv.map encInt), .row true 3 1 (wn.map encInt)]) (by simp) (by simp [List.replicate])) ?_
    refine cw_seq (go_ok hT ?_); simp [List.replicate]
    refine cw_seq (go_ok hT ?_); simp [List.replicate, hvl2]
    refine cw_seq (go_ok hT ?_); simp [List.replicate, hx, needs1, isH, z1, z2]
    refine cw_weak (weak_seal (n0 := 0) 24 (by simp) (t' := slots 132 [(0, encL 1 encStr vars), (4, .pbox 0 0), (5, .pbox 1 0), (8, .pbox 2 0), (9, .int .i64 wc), (10, .slref 3 0 vars.length vars.length), (11, .pbox 15 0), (12, .pbox 16 0), (13, .int .i64 wc)]) (H' := [.cells [.int .i64 st.kind, .str st.a, .str st.b], .cells [encL 1 encInt x.vars, encL 1 encInt x.next], .cells [encL 1 encInt wv, encL 1 encInt wn], .row true 9 1 (vars.map encStr), .dead, .dead, .dead, .dead, .dead, .dead, .dead, .row true 3 1 (x.vars.map encInt), .row true 3 1 (x.next.map encInt), .dead, .dead, .cells [.slref 11 0 x.vars.length x.vars.length, .slref 12 0 x.next.length x.next.length], .cells [.slref 22 0 wv.length wv.length, .slref 23 0 wn.length wn.length], .dead, .dead, .dead, .dead, .dead, .row true 3 1 (wv.map encInt), .row true 3 1 (wn.map encInt)]) (by simp) (by simp [List.replicate])) ?_
    refine cw_seq (go_ok hT ?_); simp [List.replicate]
    refine cw_seq (go_ok (tab_h (ok_markSt 9) tab_nil) ?_); simp [List.replicate, hvl2]
    refine ⟨vars, rfl, hvl2, rfl, ?_⟩
    refine cw_seq (go_ok (tab_h (ok_markHq 3) tab_nil) ?_); simp [List.replicate, z1, z2]
    refine ⟨x.vars, rfl, x.next, rfl, by omega, by omega, z1, z2, rfl, rfl, ?_⟩
    refine cw_seq (cw_seq (go_ok hT ?_)); simp [List.replicate, m1]
    refine go_ok hT ?_; simp [List.replicate]
    refine cw_weak (weak_seal (n0 := 0) 24 (by simp) (t' := slots 132 [(0, encL 1 encStr vars), (4, .pbox 0 0), (5, .pbox 1 0), (8, .pbox 2 0), (9, .int .i64 wc), (12, .pbox 16 0), (13, .int .i64 wc)]) (H' := [.cells [.int .i64 st.kind, .str st.a, .str st.b], .cells [encL 1 encInt x.vars, encL 1 encInt x.next], .cells [encL 1 encInt wv, encL 1 encInt wn], .dead, .dead, .dead, .dead, .dead, .dead, .dead, .dead, .dead, .dead, .dead, .dead, .dead, .cells [.slref 22 0 wv.length wv.length, .slref 23 0 wn.length wn.length], .dead, .dead, .dead, .dead, .dead, .row true 3 1 (wv.map encInt), .row true 3 1 (wn.map encInt)]) (by simp) (by simp [List.replicate])) ?_
    refine cw_seq (go_ok hT ?_); simp [List.replicate]
    refine cw_seq (go_ok (tab_h (ok_markHq 3) tab_nil) ?_); simp [List.replicate, y1, y2]
    refine ⟨wv, rfl, wn, rfl, y1, y2, rfl, rfl, ?_⟩
    refine cw_weak (weak_seal (n0 := 0) 24 (by simp) (t' := slots 132 [(0, encL 1 encStr vars), (4, .pbox 0 0), (5, .pbox 1 0), (8, .pbox 2 0), (9, .int .i64 wc), (12, .pbox 16 0), (13, .int .i64 wc), (15, .int .i64 (1 + wv.length + wn.length))]) (H' := [.cells [.int .i64 st.kind, .str st.a, .str st.b], .cells [encL 1 encInt x.vars, encL 1 encInt x.next], .cells [encL 1 encInt wv, encL 1 encInt wn], .dead, .dead, .dead, .dead, .dead, .dead, .dead, .dead, .dead, .dead, .dead, .dead, .dead, .cells [.slref 22 0 wv.length wv.length, .slref 23 0 wn.length wn.length], .dead, .dead, .dead, .dead, .dead, .row true 3 1 ((marks 1 wv.length).map encInt), .row true 3 1 ((marks (1 + wv.length) wn.length).map encInt)]) (by simp) (by simp [List.replicate])) ?_
    refine cw_seq (go_ok hT ?_); simp [List.replicate]
    refine cw_seq (go_ok hT ?_); simp [List.replicate, y1, y2]
    refine cw_seq (go_ok hT ?_); simp [List.replicate, m2, m3]
    refine cw_seq (go_ok hT ?_); simp [List.replicate]
    refine cw_weak (weak_seal (n0 := 0) 24 (by simp) (t' := slots 132 [(0, encL 1 encStr vars), (4, .pbox 0 0), (5, .pbox 1 0), (8, .pbox 2 0), (9, .int .i64 wc), (12, .pbox 16 0), (13, .int .i64 wc), (15, .int .i64 (1 + wv.length + wn.length))]) (H' := [.cells [.int .i64 st.kind, .str st.a, .str st.b], .cells [encL 1 encInt x.vars, encL 1 encInt x.next], .cells [encL 1 encInt wv, encL 1 encInt wn], .dead, .dead, .dead, .dead, .dead, .dead, .dead, .dead, .dead, .dead, .dead, .dead, .dead, .cells [.slref 22 0 wv.length wv.length, .slref 23 0 wn.length wn.length], .dead, .dead, .dead, .dead, .dead, .row true 3 1 ((marks 1 wv.length).map encInt), .row true 3 1 ((marks (1 + wv.length) wn.length).map encInt)]) (by simp) (by simp [List.replicate])) ?_
    refine cw_weak weak_void ?_
    refine cw_seq (cw_dreg8K hT [_, _, _, _, _, _, _, _, _, _, _, _, _, _, _, _, _, _, _, _, _, _, _, _] [.void] [none, none, none, none, none, none, none, none, none, none, some 0, some 0, none] [[], [], [], [], [], [], [], [], [], [], [true], [true], []] (by rfl) ?_)
    simp [List.replicate, hx, hvl2, hvs]
    refine ⟨⟨vars, st, x⟩, rfl, rfl, rfl, hvs, hx, ?_⟩
    simp only [hw]
    refine cw_weak (weak_seal (n0 := 0) 25 (by simp) (t' := slots 132 [(0, encL 1 encStr vars), (4, .pbox 0 0), (5, .pbox 1 0), (8, .pbox 2 0), (9, .int .i64 wc), (12, .pbox 16 0), (13, .int .i64 wc), (15, .int .i64 (1 + wv.length + wn.length)), (17, .pbox 24 0), (18, .int .i64 wc)]) (H' := [.cells [.int .i64 st.kind, .str st.a, .str st.b], .cells [encL 1 encInt x.vars, encL 1 encInt x.next], .cells [encL 1 encInt wv, encL 1 encInt wn], .dead, .dead, .dead, .dead, .dead, .dead, .dead, .dead, .dead, .dead, .dead, .dead, .dead, .cells [.slref 22 0 wv.length wv.length, .slref 23 0 wn.length wn.length], .dead, .dead, .dead, .dead, .dead, .row true 3 1 ((marks 1 wv.length).map encInt), .row true 3 1 ((marks (1 + wv.length) wn.length).map encInt), .cells [encL 1 encInt wv, encL 1 encInt wn]]) (by simp) (by simp [List.replicate])) ?_
    refine cw_seq (go_ok hT ?_); simp [List.replicate]
    refine cw_seq (go_ok hT ?_); simp [List.replicate]
    refine cw_seq (go_ok hT ?_); simp [List.replicate, y1, y2]
    refine cw_seq (go_ok hT ?_); simp [List.replicate, m2, m3]
    refine cw_seq (go_ok hT ?_); simp [List.replicate]
    refine go_ok hT ?_; simp [List.replicate]
  · simp [exN, List.replicate]
    refine cw_weak (weak_seal (n0 := 0) 27 (by simp) (t' := slots 132 [(0, encL 1 encStr vars), (4, .pbox 0 0), (5, .pbox 1 0), (8, .pbox 2 0), (9, .int .i64 wc), (10, .slref 3 0 vars.length vars.length), (11, .pbox 15 0), (12, .pbox 16 0), (13, .int .i64 wc)]) (H' := [.cells [.int .i64 st.kind, .str st.a, .str st.b], .cells [encL 1 encInt x.vars, encL 1 encInt x.next], .cells [encL 1 encInt wv, encL 1 encInt wn], .row true 9 1 (vars.map encStr), .dead, .dead, .dead, .dead, .dead, .dead, .dead, .row true 3 1 (x.vars.map encInt), .row true 3 1 (x.next.map encInt), .dead, .dead, .cells [.slref 11 0 x.vars.length x.vars.length, .slref 12 0 x.next.length x.next.length], .cells [.slref 25 0 wv.length wv.length, .slref 26 0 wn.length wn.length], .dead, .dead, .dead, .dead, .dead, .dead, .dead, .dead, .row true 3 1 (wv.map encInt), .row true 3 1 (wn.map encInt)]) (by simp) (by simp [List.replicate])) ?_
    refine cw_seq (go_ok hT ?_); simp [List.replicate]
    refine cw_seq (go_ok hT ?_); simp [List.replicate, hvl2]
    refine cw_seq (go_ok hT ?_); simp [List.replicate, hx, needs1, isH, z1, z2]
    refine cw_weak (weak_seal (n0 := 0) 27 (by simp) (t' := slots 132 [(0, encL 1 encStr vars), (4, .pbox 0 0), (5, .pbox 1 0), (8, .pbox 2 0), (9, .int .i64 wc), (10, .slref 3 0 vars.length vars.length), (11, .pbox 15 0), (12, .pbox 16 0), (13, .int .i64 wc)]) (H' := [.cells [.int .i64 st.kind, .str st.a, .str st.b], .cells [encL 1 encInt x.vars, encL 1 encInt x.next], .cells [encL 1 encInt wv, encL 1 encInt wn], .row true 9 1 (vars.map encStr), .dead, .dead, .dead, .dead, .dead, .dead, .dead, .row true 3 1 (x.vars.map encInt), .row true 3 1 (x.next.map encInt), .dead, .dead, .cells [.slref 11 0 x.vars.length x.vars.length, .slref 12 0 x.next.length x.next.length], .cells [.slref 25 0 wv.length wv.length, .slref 26 0 wn.length wn.length], .dead, .dead, .dead, .dead, .dead, .dead, .dead, .dead, .row true 3 1 (wv.map encInt), .row true 3 1 (wn.map encInt)]) (by simp) (by simp [List.replicate])) ?_
    refine cw_seq (go_ok hT ?_); simp [List.replicate]
    refine cw_seq (go_ok (tab_h (ok_markSt 9) tab_nil) ?_); simp [List.replicate, hvl2]
    refine ⟨vars, rfl, hvl2, rfl, ?_⟩
    refine cw_seq (go_ok (tab_h (ok_markHq 3) tab_nil) ?_); simp [List.replicate, z1, z2]
    refine ⟨x.vars, rfl, x.next, rfl, by omega, by omega, z1, z2, rfl, rfl, ?_⟩
    refine cw_seq (cw_seq (go_ok hT ?_)); simp [List.replicate, m1]
    refine go_ok hT ?_; simp [List.replicate]
    refine cw_weak (weak_seal (n0 := 0) 27 (by simp) (t' := slots 132 [(0, encL 1 encStr vars), (4, .pbox 0 0), (5, .pbox 1 0), (8, .pbox 2 0), (9, .int .i64 wc), (12, .pbox 16 0), (13, .int .i64 wc)]) (H' := [.cells [.int .i64 st.kind, .str st.a, .str st.b], .cells [encL 1 encInt x.vars, encL 1 encInt x.next], .cells [encL 1 encInt wv, encL 1 encInt wn], .dead, .dead, .dead, .dead, .dead, .dead, .dead, .dead, .dead, .dead, .dead, .dead, .dead, .cells [.slref 25 0 wv.length wv.length, .slref 26 0 wn.length wn.length], .dead, .dead, .dead, .dead, .dead, .dead, .dead, .dead, .row true 3 1 (wv.map encInt), .row true 3 1 (wn.map encInt)]) (by simp) (by simp [List.replicate])) ?_
    refine cw_seq (go_ok hT ?_); simp [List.replicate]
    refine cw_seq (go_ok (tab_h (ok_markHq 3) tab_nil) ?_); simp [List.replicate, y1, y2]
    refine ⟨wv, rfl, wn, rfl, y1, y2, rfl, rfl, ?_⟩
    refine cw_weak (weak_seal (n0 := 0) 27 (by simp) (t' := slots 132 [(0, encL 1 encStr vars), (4, .pbox 0 0), (5, .pbox 1 0), (8, .pbox 2 0), (9, .int .i64 wc), (12, .pbox 16 0), (13, .int .i64 wc), (15, .int .i64 (1 + wv.length + wn.length))]) (H' := [.cells [.int .i64 st.kind, .str st.a, .str st.b], .cells [encL 1 encInt x.vars, encL 1 encInt x.next], .cells [encL 1 encInt wv, encL 1 encInt wn], .dead, .dead, .dead, .dead, .dead, .dead, .dead, .dead, .dead, .dead, .dead, .dead, .dead, .cells [.slref 25 0 wv.length wv.length, .slref 26 0 wn.length wn.length], .dead, .dead, .dead, .dead, .dead, .dead, .dead, .dead, .row true 3 1 ((marks 1 wv.length).map encInt), .row true 3 1 ((marks (1 + wv.length) wn.length).map encInt)]) (by simp) (by simp [List.replicate])) ?_
    refine cw_seq (go_ok hT ?_); simp [List.replicate]
    refine cw_seq (go_ok hT ?_); simp [List.replicate, y1, y2]
    refine cw_seq (go_ok hT ?_); simp [List.replicate, m2, m3]
    refine cw_seq (go_ok hT ?_); simp [List.replicate]
    refine cw_weak (weak_seal (n0 := 0) 27 (by simp) (t' := slots 132 [(0, encL 1 encStr vars), (4, .pbox 0 0), (5, .pbox 1 0), (8, .pbox 2 0), (9, .int .i64 wc), (12, .pbox 16 0), (13, .int .i64 wc), (15, .int .i64 (1 + wv.length + wn.length))]) (H' := [.cells [.int .i64 st.kind, .str st.a, .str st.b], .cells [encL 1 encInt x.vars, encL 1 encInt x.next], .cells [encL 1 encInt wv, encL 1 encInt wn], .dead, .dead, .dead, .dead, .dead, .dead, .dead, .dead, .dead, .dead, .dead, .dead, .dead, .cells [.slref 25 0 wv.length wv.length, .slref 26 0 wn.length wn.length], .dead, .dead, .dead, .dead, .dead, .dead, .dead, .dead, .row true 3 1 ((marks 1 wv.length).map encInt), .row true 3 1 ((marks (1 + wv.length) wn.length).map encInt)]) (by simp) (by simp [List.replicate])) ?_
    refine cw_weak weak_void ?_
    refine cw_seq (cw_dreg8K hT [_, _, _, _, _, _, _, _, _, _, _, _, _, _, _, _, _, _, _, _, _, _, _, _, _, _, _] [.void] [none, none, none, none, none, none, none, none, none, none, some 0, some 0, none] [[], [], [], [], [], [], [], [], [], [], [true], [true], []] (by rfl) ?_)
    simp [List.replicate, hx, hvl2, hvs]
    refine ⟨⟨vars, st, x⟩, rfl, rfl, rfl, hvs, hx, ?_⟩
    simp only [hw]
    refine cw_weak (weak_seal (n0 := 0) 28 (by simp) (t' := slots 132 [(0, encL 1 encStr vars), (4, .pbox 0 0), (5, .pbox 1 0), (8, .pbox 2 0), (9, .int .i64 wc), (12, .pbox 16 0), (13, .int .i64 wc), (15, .int .i64 (1 + wv.length + wn.length)), (17, .pbox 27 0), (18, .int .i64 wc)]) (H' := [.cells [.int .i64 st.kind, .str st.a, .str st.b], .cells [encL 1 encInt x.vars, encL 1 encInt x.next], .cells [encL 1 encInt wv, encL 1 encInt wn], .dead, .dead, .dead, .dead, .dead, .dead, .dead, .dead, .dead, .dead, .dead, .dead, .dead, .cells [.slref 25 0 wv.length wv.length, .slref 26 0 wn.length wn.length], .dead, .dead, .dead, .dead, .dead, .dead, .dead, .dead, .row true 3 1 ((marks 1 wv.length).map encInt), .row true 3 1 ((marks (1 + wv.length) wn.length).map encInt), .cells [encL 1 encInt wv, encL 1 encInt wn]]) (by simp) (by simp [List.replicate])) ?_
    refine cw_seq (go_ok hT ?_); simp [List.replicate]
    refine cw_seq (go_ok hT ?_); simp [List.replicate]
    refine cw_seq (go_ok hT ?_); simp [List.replicate, y1, y2]
    refine cw_seq (go_ok hT ?_); simp [List.replicate, m2, m3]
    refine cw_seq (go_ok hT ?_); simp [List.replicate]
    refine go_ok hT ?_; simp [List.replicate]
  · simp [exN, List.replicate]
    refine cw_weak (weak_seal (n0 := 0) 31 (by simp) (t' := slots 132 [(0, encL 1 encStr vars), (4, .pbox 0 0), (5, .pbox 1 0), (8, .pbox 2 0), (9, .int .i64 wc), (10, .slref 3 0 vars.length vars.length), (11, .pbox 15 0), (12, .pbox 16 0), (13, .int .i64 wc)]) (H' := [.cells [.int .i64 st.kind, .str st.a, .str st.b], .cells [encL 1 encInt x.vars, encL 1 encInt x.next], .cells [encL 1 encInt wv, encL 1 encInt wn], .row true 9 1 (vars.map encStr), .dead, .dead, .dead, .dead, .dead, .dead, .dead, .row true 3 1 (x.vars.map encInt), .row true 3 1 (x.next.map encInt), .dead, .dead, .cells [.slref 11 0 x.vars.length x.vars.length, .slref 12 0 x.next.length x.next.length], .cells [.slref 29 0 wv.length wv.length, .slref 30 0 wn.length wn.length], .dead, .dead, .dead, .dead, .dead, .dead, .dead, .dead, .dead, .dead, .dead, .dead, .row true 3 1 (wv.map encInt), .row true 3 1 (wn.map encInt)]) (by simp) (by simp [List.replicate])) ?_
    refine cw_seq (go_ok hT ?_); simp [List.replicate]
    refine cw_seq (go_ok hT ?_); simp [List.replicate, hvl2]
    refine cw_seq (go_ok hT ?_); simp [List.replicate, hx, needs1, isH, z1, z2]
    refine cw_weak (weak_seal (n0 := 0) 31 (by simp) (t' := slots 132 [(0, encL 1 encStr vars), (4, .pbox 0 0), (5, .pbox 1 0), (8, .pbox 2 0), (9, .int .i64 wc), (10, .slref 3 0 vars.length vars.length), (11, .pbox 15 0), (12, .pbox 16 0), (13, .int .i64 wc)]) (H' := [.cells [.int .i64 st.kind, .str st.a, .str st.b], .cells [encL 1 encInt x.vars, encL 1 encInt x.next], .cells [encL 1 encInt wv, encL 1 encInt wn], .row true 9 1 (vars.map encStr), .dead, .dead, .dead, .dead, .dead, .dead, .dead, .row true 3 1 (x.vars.map encInt), .row true 3 1 (x.next.map encInt), .dead, .dead, .cells [.slref 11 0 x.vars.length x.vars.length, .slref 12 0 x.next.length x.next.length], .cells [.slref 29 0 wv.length wv.length, .slref 30 0 wn.length wn.length], .dead, .dead, .dead, .dead, .dead, .dead, .dead, .dead, .dead, .dead, .dead, .dead, .row true 3 1 (wv.map encInt), .row true 3 1 (wn.map encInt)]) (by simp) (by simp [List.replicate])) ?_
    refine cw_seq (go_ok hT ?_); simp [List.replicate]
    refine cw_seq (go_ok (tab_h (ok_markSt 9) tab_nil) ?_); simp [List.replicate, hvl2]
    refine ⟨vars, rfl, hvl2, rfl, ?_⟩
    refine cw_seq (go_ok (tab_h (ok_markHq 3) tab_nil) ?_); simp [List.replicate, z1, z2]
    refine ⟨x.vars, rfl, x.next, rfl, by omega, by omega, z1, z2, rfl, rfl, ?_⟩
    refine cw_seq (cw_seq (go_ok hT ?_)); simp [List.replicate, m1]
    refine go_ok hT ?_; simp [List.replicate]
    refine cw_weak (weak_seal (n0 := 0) 31 (by simp) (t' := slots 132 [(0, encL 1 encStr vars), (4, .pbox 0 0), (5, .pbox 1 0), (8, .pbox 2 0), (9, .int .i64 wc), (12, .pbox 16 0), (13, .int .i64 wc)]) (H' := [.cells [.int .i64 st.kind, .str st.a, .str st.b], .cells [encL 1 encInt x.vars, encL 1 encInt x.next], .cells [encL 1 encInt wv, encL 1 encInt wn], .dead, .dead, .dead, .dead, .dead, .dead, .dead, .dead, .dead, .dead, .dead, .dead, .dead, .cells [.slref 29 0 wv.length wv.length, .slref 30 0 wn.length wn.length], .dead, .dead, .dead, .dead, .dead, .dead, .dead, .dead, .dead, .dead, .dead, .dead, .row true 3 1 (wv.map encInt), .row true 3 1 (wn.map encInt)]) (by simp) (by simp [List.replicate])) ?_
    refine cw_seq (go_ok hT ?_); simp [List.replicate]
    refine cw_seq (go_ok (tab_h (ok_markHq 3) tab_nil) ?_); simp [List.replicate, y1, y2]
    refine ⟨wv, rfl, wn, rfl, y1, y2, rfl, rfl, ?_⟩
    refine cw_weak (weak_seal (n0 := 0) 31 (by simp) (t' := slots 132 [(0, encL 1 encStr vars), (4, .pbox 0 0), (5, .pbox 1 0), (8, .pbox 2 0), (9, .int .i64 wc), (12, .pbox 16 0), (13, .int .i64 wc), (15, .int .i64 (1 + wv.length + wn.length))]) (H' := [.cells [.int .i64 st.kind, .str st.a, .str st.b], .cells [encL 1 encInt x.vars, encL 1 encInt x.next], .cells [encL 1 encInt wv, encL 1 encInt wn], .dead, .dead, .dead, .dead, .dead, .dead, .dead, .dead, .dead, .dead, .dead, .dead, .dead, .cells [.slref 29 0 wv.length wv.length, .slref 30 0 wn.length wn.length], .dead, .dead, .dead, .dead, .dead, .dead, .dead, .dead, .dead, .dead, .dead, .dead, .row true 3 1 ((marks 1 wv.length).map encInt), .row true 3 1 ((marks (1 + wv.length) wn.length).map encInt)]) (by simp) (by simp [List.replicate])) ?_
    refine cw_seq (go_ok hT ?_); simp [List.replicate]
    refine cw_seq (go_ok hT ?_); simp [List.replicate, y1, y2]
    refine cw_seq (go_ok hT ?_); simp [List.replicate, m2, m3]
    refine cw_seq (go_ok hT ?_); simp [List.replicate]
    refine cw_weak (weak_seal (n0 := 0) 31 (by simp) (t' := slots 132 [(0, encL 1 encStr vars), (4, .pbox 0 0), (5, .pbox 1 0), (8, .pbox 2 0), (9, .int .i64 wc), (12, .pbox 16 0), (13, .int .i64 wc), (15, .int .i64 (1 + wv.length + wn.length))]) (H' := [.cells [.int .i64 st.kind, .str st.a, .str st.b], .cells [encL 1 encInt x.vars, encL 1 encInt x.next], .cells [encL 1 encInt wv, encL 1 encInt wn], .dead, .dead, .dead, .dead, .dead, .dead, .dead, .dead, .dead, .dead, .dead, .dead, .dead, .cells [.slref 29 0 wv.length wv.length, .slref 30 0 wn.length wn.length], .dead, .dead, .dead, .dead, .dead, .dead, .dead, .dead, .dead, .dead, .dead, .dead, .row true 3 1 ((marks 1 wv.length).map encInt), .row true 3 1 ((marks (1 + wv.length) wn.length).map encInt)]) (by simp) (by simp [List.replicate])) ?_
    refine cw_weak weak_void ?_
    refine cw_seq (cw_dreg8K hT [_, _, _, _, _, _, _, _, _, _, _, _, _, _, _, _, _, _, _, _, _, _, _, _, _, _, _, _, _, _, _] [.void] [none, none, none, none, none, none, none, none, none, none, some 0, some 0, none] [[], [], [], [], [], [], [], [], [], [], [true], [true], []] (by rfl) ?_)
    simp [List.replicate, hx, hvl2, hvs]
    refine ⟨⟨vars, st, x⟩, rfl, rfl, rfl, hvs, hx, ?_⟩
    simp only [hw]
    refine cw_weak (weak_seal (n0 := 0) 32 (by simp) (t' := slots 132 [(0, encL 1 encStr vars), (4, .pbox 0 0), (5, .pbox 1 0), (8, .pbox 2 0), (9, .int .i64 wc), (12, .pbox 16 0), (13, .int .i64 wc), (15, .int .i64 (1 + wv.length + wn.length)), (17, .pbox 31 0), (18, .int .i64 wc)]) (H' := [.cells [.int .i64 st.kind, .str st.a, .str st.b], .cells [encL 1 encInt x.vars, encL 1 encInt x.next], .cells [encL 1 encInt wv, encL 1 encInt wn], .dead, .dead, .dead, .dead, .dead, .dead, .dead, .dead, .dead, .dead, .dead, .dead, .dead, .cells [.slref 29 0 wv.length wv.length, .slref 30 0 wn.length wn.length], .dead, .dead, .dead, .dead, .dead, .dead, .dead, .dead, .dead, .dead, .dead, .dead, .row true 3 1 ((marks 1 wv.length).map encInt), .row true 3 1 ((marks (1 + wv.length) wn.length).map encInt), .cells [encL 1 encInt wv, encL 1 encInt wn]]) (by simp) (by simp [List.replicate])) ?_
    refine cw_seq (go_ok hT ?_); simp [List.replicate]
    refine cw_seq (go_ok hT ?_); simp [List.replicate]
    refine cw_seq (go_ok hT ?_); simp [List.replicate, y1, y2]
    refine cw_seq (go_ok hT ?_); simp [List.replicate, m2, m3]
    refine cw_seq (go_ok hT ?_); simp [List.replicate]
    refine go_ok hT ?_; simp [List.replicate]
  · simp [exN, List.replicate]
    refine cw_weak (weak_seal (n0 := 0) 36 (by simp) (t' := slots 132 [(0, encL 1 encStr vars), (4, .pbox 0 0), (5, .pbox 1 0), (8, .pbox 2 0), (9, .int .i64 wc), (10, .slref 3 0 vars.length vars.length), (11, .pbox 15 0), (12, .pbox 16 0), (13, .int .i64 wc)]) (H' := [.cells [.int .i64 st.kind, .str st.a, .str st.b], .cells [encL 1 encInt x.vars, encL 1 encInt x.next], .cells [encL 1 encInt wv, encL 1 encInt wn], .row true 9 1 (vars.map encStr), .dead, .dead, .dead, .dead, .dead, .dead, .dead, .row true 3 1 (x.vars.map encInt), .row true 3 1 (x.next.map encInt), .dead, .dead, .cells [.slref 11 0 x.vars.length x.vars.length, .slref 12 0 x.next.length x.next.length], .cells [.slref 34 0 wv.length wv.length, .slref 35 0 wn.length wn.length], .dead, .dead, .dead, .dead, .dead, .dead, .dead, .dead, .dead, .dead, .dead, .dead, .dead, .dead, .dead, .dead, .dead, .row true 3 1 (wv.map encInt), .row true 3 1 (wn.map encInt)]) (by simp) (by simp [List.replicate])) ?_
    refine cw_seq (go_ok hT ?_); simp [List.replicate]
    refine cw_seq (go_ok hT ?_); simp [List.replicate, hvl2]
    refine cw_seq (go_ok hT ?_); simp [List.replicate, hx, needs1, isH, z1, z2]
    refine cw_weak (weak_seal (n0 := 0) 36 (by simp) (t' := slots 132 [(0, encL 1 encStr vars), (4, .pbox 0 0), (5, .pbox 1 0), (8, .pbox 2 0), (9, .int .i64 wc), (10, .slref 3 0 vars.length vars.length), (11, .pbox 15 0), (12, .pbox 16 0), (13, .int .i64 wc)]) (H' := [.cells [.int .i64 st.kind, .str st.a, .str st.b], .cells [encL 1 encInt x.vars, encL 1 encInt x.next], .cells [encL 1 encInt wv, encL 1 encInt wn], .row true 9 1 (vars.map encStr), .dead, .dead, .dead, .dead, .dead, .dead, .dead, .row true 3 1 (x.vars.map encInt), .row true 3 1 (x.next.map encInt), .dead, .dead, .cells [.slref 11 0 x.vars.length x.vars.length, .slref 12 0 x.next.length x.next.length], .cells [.slref 34 0 wv.length wv.length, .slref 35 0 wn.length wn.length], .dead, .dead, .dead, .dead, .dead, .dead, .dead, .dead, .dead, .dead, .dead, .dead, .dead, .dead, .dead, .dead, .dead, .row true 3 1 (wv.map encInt), .row true 3 1 (wn.map encInt)]) (by simp) (by simp [List.replicate])) ?_
    refine cw_seq (go_ok hT ?_); simp [List.replicate]
    refine cw_seq (go_ok (tab_h (ok_markSt 9) tab_nil) ?_); simp [List.replicate, hvl2]
    refine ⟨vars, rfl, hvl2, rfl, ?_⟩
    refine cw_seq (go_ok (tab_h (ok_markHq 3) tab_nil) ?_); simp [List.replicate, z1, z2]
    refine ⟨x.vars, rfl, x.next, rfl, by omega, by omega, z1, z2, rfl, rfl, ?_⟩
    refine cw_seq (cw_seq (go_ok hT ?_)); simp [List.replicate, m1]
    refine go_ok hT ?_; simp [List.replicate]
    refine cw_weak (weak_seal (n0 := 0) 36 (by simp) (t' := slots 132 [(0, encL 1 encStr vars), (4, .pbox 0 0), (5, .pbox 1 0), (8, .pbox 2 0), (9, .int .i64 wc), (12, .pbox 16 0), (13, .int .i64 wc)]) (H' := [.cells [.int .i64 st.kind, .str st.a, .str st.b], .cells [encL 1 encInt x.vars, encL 1 encInt x.next], .cells [encL 1 encInt wv, encL 1 encInt wn], .dead, .dead, .dead, .dead, .dead, .dead, .dead, .dead, .dead, .dead, .dead, .dead, .dead, .cells [.slref 34 0 wv.length wv.length, .slref 35 0 wn.length wn.length], .dead, .dead, .dead, .dead, .dead, .dead, .dead, .dead, .dead, .dead, .dead, .dead, .dead, .dead, .dead, .dead, .dead, .row true 3 1 (wv.map encInt), .row true 3 1 (wn.map encInt)]) (by simp) (by simp [List.replicate])) ?_
    refine cw_seq (go_ok hT ?_); simp [List.replicate]
    refine cw_seq (go_ok (tab_h (ok_markHq 3) tab_nil) ?_); simp [List.replicate, y1, y2]
    refine ⟨wv, rfl, wn, rfl, y1, y2, rfl, rfl, ?_⟩
    refine cw_weak (weak_seal (n0 := 0) 36 (by simp) (t' := slots 132 [(0, encL 1 encStr vars), (4, .pbox 0 0), (5, .pbox 1 0), (8, .pbox 2 0), (9, .int .i64 wc), (12, .pbox 16 0), (13, .int .i64 wc), (15, .int .i64 (1 + wv.length + wn.length))]) (H' := [.cells [.int .i64 st.kind, .str st.a, .str st.b], .cells [encL 1 encInt x.vars, encL 1 encInt x.next], .cells [encL 1 encInt wv, encL 1 encInt wn], .dead, .dead, .dead, .dead, .dead, .dead, .dead, .dead, .dead, .dead, .dead, .dead, .dead, .cells [.slref 34 0 wv.length wv.length, .slref 35 0 wn.length wn.length], .dead, .dead, .dead, .dead, .dead, .dead, .dead, .dead, .dead, .dead, .dead, .dead, .dead, .dead, .dead, .dead, .dead, .row true 3 1 ((marks 1 wv.length).map encInt), .row true 3 1 ((marks (1 + wv.length) wn.length).map encInt)]) (by simp) (by simp [List.replicate])) ?_
    refine cw_seq (go_ok hT ?_); simp [List.replicate]
    refine cw_seq (go_ok hT ?_); simp [List.replicate, y1, y2]
    refine cw_seq (go_ok hT ?_); simp [List.replicate, m2, m3]
    refine cw_seq (go_ok hT ?_); simp [List.replicate]
    refine cw_weak (weak_seal (n0 := 0) 36 (by simp) (t' := slots 132 [(0, encL 1 encStr vars), (4, .pbox 0 0), (5, .pbox 1 0), (8, .pbox 2 0), (9, .int .i64 wc), (12, .pbox 16 0), (13, .int .i64 wc), (15, .int .i64 (1 + wv.length + wn.length))]) (H' := [.cells [.int .i64 st.kind, .str st.a, .str st.b], .cells [encL 1 encInt x.vars, encL 1 encInt x.next], .cells [encL 1 encInt wv, encL 1 encInt wn], .dead, .dead, .dead, .dead, .dead, .dead, .dead, .dead, .dead, .dead, .dead, .dead, .dead, .cells [.slref 34 0 wv.length wv.length, .slref 35 0 wn.length wn.length], .dead, .dead, .dead, .dead, .dead, .dead, .dead, .dead, .dead, .dead, .dead, .dead, .dead, .dead, .dead, .dead, .dead, .row true 3 1 ((marks 1 wv.length).map encInt), .row true 3 1 ((marks (1 + wv.length) wn.length).map encInt)]) (by simp) (by simp [List.replicate])) ?_
    refine cw_weak weak_void ?_
    refine cw_seq (cw_dreg8K hT [_, _, _, _, _, _, _, _, _, _, _, _, _, _, _, _, _, _, _, _, _, _, _, _, _, _, _, _, _, _, _, _, _, _, _, _] [.void] [none, none, none, none, none, none, none, none, none, none, some 0, some 0, none] [[], [], [], [], [], [], [], [], [], [], [true], [true], []] (by rfl) ?_)
    simp [List.replicate, hx, hvl2, hvs]
    refine ⟨⟨vars, st, x⟩, rfl, rfl, rfl, hvs, hx, ?_⟩
    simp only [hw]
    refine cw_weak (weak_seal (n0 := 0) 37 (by simp) (t' := slots 132 [(0, encL 1 encStr vars), (4, .pbox 0 0), (5, .pbox 1 0), (8, .pbox 2 0), (9, .int .i64 wc), (12, .pbox 16 0), (13, .int .i64 wc), (15, .int .i64 (1 + wv.length + wn.length)), (17, .pbox 36 0), (18, .int .i64 wc)]) (H' := [.cells [.int .i64 st.kind, .str st.a, .str st.b], .cells [encL 1 encInt x.vars, encL 1 encInt x.next], .cells [encL 1 encInt wv, encL 1 encInt wn], .dead, .dead, .dead, .dead, .dead, .dead, .dead, .dead, .dead, .dead, .dead, .dead, .dead, .cells [.slref 34 0 wv.length wv.length, .slref 35 0 wn.length wn.length], .dead, .dead, .dead, .dead, .dead, .dead, .dead, .dead, .dead, .dead, .dead, .dead, .dead, .dead, .dead, .dead, .dead, .row true 3 1 ((marks 1 wv.length).map encInt), .row true 3 1 ((marks (1 + wv.length) wn.length).map encInt), .cells [encL 1 encInt wv, encL 1 encInt wn]]) (by simp) (by simp [List.replicate])) ?_
    refine cw_seq (go_ok hT ?_); simp [List.replicate]
    refine cw_seq (go_ok hT ?_); simp [List.replicate]
    refine cw_seq (go_ok hT ?_); simp [List.replicate, y1, y2]
    refine cw_seq (go_ok hT ?_); simp [List.replicate, m2, m3]
    refine cw_seq (go_ok hT ?_); simp [List.replicate]
    refine go_ok hT ?_; simp [List.replicate]
end Go.Vm

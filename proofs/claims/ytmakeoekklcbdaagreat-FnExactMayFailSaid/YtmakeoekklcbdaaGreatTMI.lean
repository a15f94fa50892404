/- MayFail: the law. No condition. -/
import Derived.Test.YtmakeoekklcbdaaGreatTMH
import Derived.Test.YtmakeoekklcbdaaGreatTSN
set_option linter.unusedSimpArgs false
set_option linter.unusedVariables false
namespace Go.Vm
open Go.Proofs
def code_laws_FnExactMayFail : F := ⟨105, [.tmp 6],
 .seq (.reg [⟨some 4, .box (.t 1), none⟩,
    ⟨some 5, .box (.t 2), none⟩,
    ⟨some 6, .mov (.k (.bool false)), none⟩])
 (.seq (.reg [⟨some 7, .mov (.k (.int .i64 1048576)), none⟩])
  (.seq (.reg [⟨some 16, .mov (.t 0), none⟩,
      ⟨some 17, .mov (.t 7), none⟩,
      ⟨some 18, .call 4 [(.t 16), (.t 17)], none⟩,
      ⟨some 7, .mov (.t 18), none⟩])
   (.seq (.seq (.reg [⟨some 19, .mov (.t 7), none⟩,
        ⟨some 20, .bin .lss (.t 19) (.k (.int .i64 0)), none⟩])
     (.cond (.t 20)
      (.seq (.reg [⟨some 6, .mov (.k (.bool true)), none⟩])
       (.ret))
      (.skip)))
    (.seq (.reg [⟨some 21, .load 3 true (.t 4), none⟩,
        ⟨some 22, .mov (.t 7), none⟩,
        ⟨some 23, .call 5 [(.t 21), (.t 22)], none⟩,
        ⟨some 7, .mov (.t 23), none⟩])
     (.seq (.seq (.reg [⟨some 24, .mov (.t 7), none⟩,
          ⟨some 25, .bin .lss (.t 24) (.k (.int .i64 0)), none⟩])
       (.cond (.t 25)
        (.seq (.reg [⟨some 6, .mov (.k (.bool true)), none⟩])
         (.ret))
        (.skip)))
      (.seq (.reg [⟨some 26, .load 2 true (.t 5), none⟩,
          ⟨some 27, .mov (.t 7), none⟩,
          ⟨some 28, .call 6 [(.t 26), (.t 27)], none⟩,
          ⟨some 7, .mov (.t 28), none⟩])
       (.seq (.seq (.reg [⟨some 29, .mov (.t 7), none⟩,
            ⟨some 30, .bin .lss (.t 29) (.k (.int .i64 0)), none⟩])
         (.cond (.t 30)
          (.seq (.reg [⟨some 6, .mov (.k (.bool true)), none⟩])
           (.ret))
          (.skip)))
        (.seq (.dreg [false, false, false, false, false, true, true, true] [⟨some 31, .mov (.t 0), none⟩,
            ⟨some 32, .call 8 [(.t 31)], none⟩,
            ⟨some 33, .load 3 true (.t 4), none⟩,
            ⟨some 34, .call 9 [(.t 33)], none⟩,
            ⟨some 35, .load 2 true (.t 5), none⟩,
            ⟨some 36, .call 10 [(.t 35)], none⟩,
            ⟨some 37, .call 7 [(.t 32), (.t 34), (.t 36)], none⟩,
            ⟨some 8, .mov (.t 37), none⟩])
         (.seq (.reg [⟨some 38, .mov (.t 0), none⟩,
             ⟨some 39, .call 8 [(.t 38)], none⟩,
             ⟨some 9, .mov (.t 39), none⟩])
          (.seq (.reg [⟨some 40, .load 2 true (.t 5), none⟩,
              ⟨some 41, .call 10 [(.t 40)], none⟩,
              ⟨some 10, .alloc [(.sl .nil 0 []), (.sl .nil 0 [])], none⟩,
              ⟨none, .store 2 (.t 10) (.t 41), none⟩])
           (.seq (.dreg [false, false, false, false, true, true] [⟨some 42, .mov (.t 9), none⟩,
               ⟨some 43, .load 3 true (.t 4), none⟩,
               ⟨some 44, .call 9 [(.t 43)], none⟩,
               ⟨some 45, .load 2 true (.t 10), none⟩,
               ⟨some 46, .call 11 [(.t 42), (.t 44), (.t 45)], none⟩,
               ⟨some 11, .mov (.t 46), none⟩])
            (.seq (.seq (.reg [⟨some 47, .mov (.t 11), none⟩,
                 ⟨some 48, .mov (.t 8), none⟩,
                 ⟨some 49, .call 12 [(.t 47), (.t 48)], none⟩,
                 ⟨some 50, .not (.t 49), none⟩])
              (.cond (.t 50)
               (.seq (.reg [⟨some 6, .mov (.k (.bool false)), none⟩])
                (.ret))
               (.skip)))
             (.seq (.seq (.reg [⟨some 51, .mov (.t 9), none⟩,
                  ⟨some 52, .mov (.t 0), none⟩,
                  ⟨some 53, .call 8 [(.t 52)], none⟩,
                  ⟨some 54, .call 13 [(.t 51), (.t 53)], none⟩,
                  ⟨some 55, .not (.t 54), none⟩])
               (.cond (.t 55)
                (.seq (.reg [⟨some 6, .mov (.k (.bool false)), none⟩])
                 (.ret))
                (.skip)))
              (.seq (.seq (.dreg [false, false, false, true, true] [⟨some 56, .load 2 true (.t 10), none⟩,
                   ⟨some 57, .load 2 true (.t 5), none⟩,
                   ⟨some 58, .call 10 [(.t 57)], none⟩,
                   ⟨some 59, .call 14 [(.t 56), (.t 58)], none⟩,
                   ⟨some 60, .not (.t 59), none⟩])
                (.cond (.t 60)
                 (.seq (.reg [⟨some 6, .mov (.k (.bool false)), none⟩])
                  (.ret))
                 (.skip)))
               (.seq (.reg [⟨some 12, .mov (.k (.int .i64 1)), none⟩])
                (.seq (.reg [⟨some 61, .mov (.t 9), none⟩,
                    ⟨some 62, .mov (.t 12), none⟩,
                    ⟨some 63, .call 15 [(.t 61), (.t 62)], none⟩,
                    ⟨some 12, .mov (.t 63), none⟩])
                 (.seq (.reg [⟨some 64, .load 2 true (.t 10), none⟩,
                     ⟨some 65, .mov (.t 12), none⟩,
                     ⟨some 66, .call 16 [(.t 64), (.t 65)], none⟩,
                     ⟨some 12, .mov (.t 66), none⟩])
                  (.seq (.seq (.reg [⟨some 67, .mov (.t 12), none⟩,
                       ⟨some 68, .bin .lss (.t 67) (.k (.int .i64 0)), none⟩,
                       ⟨some 69, .mov (.t 68), none⟩,
                       ⟨some 70, .mov (.t 11), some (69, false)⟩,
                       ⟨some 71, .mov (.t 8), some (69, false)⟩,
                       ⟨some 72, .call 12 [(.t 70), (.t 71)], some (69, false)⟩,
                       ⟨some 73, .not (.t 72), some (69, false)⟩,
                       ⟨some 74, .pick (.t 69) (.k (.bool true)) (.t 73), none⟩])
                    (.cond (.t 74)
                     (.seq (.reg [⟨some 6, .mov (.k (.bool false)), none⟩])
                      (.ret))
                     (.skip)))
                   (.seq (.reg [⟨some 13, .mov (.k (.int .i64 1)), none⟩])
                    (.seq (.reg [⟨some 75, .mov (.t 11), none⟩,
                        ⟨some 76, .mov (.t 13), none⟩,
                        ⟨some 77, .call 17 [(.t 75), (.t 76)], none⟩,
                        ⟨some 13, .mov (.t 77), none⟩])
                     (.seq (.reg [⟨some 14, .mov (.k (.int .i64 1)), none⟩])
                      (.seq (.reg [⟨some 78, .mov (.t 11), none⟩,
                          ⟨some 79, .mov (.t 14), none⟩,
                          ⟨some 80, .call 18 [(.t 78), (.t 79)], none⟩,
                          ⟨some 14, .mov (.t 80), none⟩])
                       (.seq (.seq (.reg [⟨some 81, .mov (.t 14), none⟩,
                            ⟨some 82, .bin .lss (.t 81) (.k (.int .i64 0)), none⟩])
                         (.cond (.t 82)
                          (.seq (.reg [⟨some 6, .mov (.k (.bool false)), none⟩])
                           (.ret))
                          (.skip)))
                        (.seq (.seq (.reg [⟨some 83, .mov (.t 14), none⟩,
                             ⟨some 84, .mov (.t 13), none⟩,
                             ⟨some 85, .bin .neq (.t 83) (.t 84), none⟩])
                          (.cond (.t 85)
                           (.seq (.reg [⟨some 6, .mov (.k (.bool false)), none⟩])
                            (.ret))
                           (.skip)))
                         (.seq (.dreg [false, false, false, false, false, true, true, true] [⟨some 86, .mov (.t 0), none⟩,
                             ⟨some 87, .call 8 [(.t 86)], none⟩,
                             ⟨some 88, .load 3 true (.t 4), none⟩,
                             ⟨some 89, .call 9 [(.t 88)], none⟩,
                             ⟨some 90, .load 2 true (.t 5), none⟩,
                             ⟨some 91, .call 10 [(.t 90)], none⟩,
                             ⟨some 92, .call 11 [(.t 87), (.t 89), (.t 91)], none⟩,
                             ⟨some 15, .mov (.t 92), none⟩])
                          (.seq (.seq (.reg [⟨some 93, .mov (.t 15), none⟩,
                               ⟨some 94, .mov (.t 8), none⟩,
                               ⟨some 95, .call 12 [(.t 93), (.t 94)], none⟩,
                               ⟨some 96, .not (.t 95), none⟩])
                            (.cond (.t 96)
                             (.seq (.reg [⟨some 6, .mov (.k (.bool false)), none⟩])
                              (.ret))
                             (.skip)))
                           (.seq (.reg [⟨some 14, .mov (.k (.int .i64 1)), none⟩])
                            (.seq (.reg [⟨some 97, .mov (.t 11), none⟩,
                                ⟨some 98, .mov (.t 14), none⟩,
                                ⟨some 99, .call 18 [(.t 97), (.t 98)], none⟩,
                                ⟨some 14, .mov (.t 99), none⟩])
                             (.seq (.seq (.reg [⟨some 100, .mov (.t 14), none⟩,
                                  ⟨some 101, .bin .lss (.t 100) (.k (.int .i64 0)), none⟩])
                               (.cond (.t 101)
                                (.seq (.reg [⟨some 6, .mov (.k (.bool false)), none⟩])
                                 (.ret))
                                (.skip)))
                              (.seq (.seq (.reg [⟨some 102, .mov (.t 14), none⟩,
                                   ⟨some 103, .mov (.t 13), none⟩,
                                   ⟨some 104, .bin .neq (.t 102) (.t 103), none⟩])
                                (.cond (.t 104)
                                 (.seq (.reg [⟨some 6, .mov (.k (.bool false)), none⟩])
                                  (.ret))
                                 (.skip)))
                               (.seq (.reg [⟨some 6, .mov (.k (.bool true)), none⟩])
                                (.ret))))))))))))))))))))))))))))))))⟩
theorem fok_laws_FnExactMayFail : FOk Tryz.prog 3 code_laws_FnExactMayFail := fok Tryz.func3 (by kernel_rfl)
@[simp] def ct_markNil0 : CtH := ⟨17, Int, fun _ _ => True, fun k => [.sl .nil 0 [], .int .i64 k], fun k _ => .int .i64 k, fun _ H => H⟩
theorem ok_markNil0 : ct_markNil0.Ok Tryz.prog := by
  intro k H _
  change Int at k
  refine OkH.of_cw' fok_laws_markIntS (go_ok tab_nil ?_)
  simp [code_laws_markIntS, List.replicate]
  refine cw_round (fun (p : Nat) => ⟨slots 19 [(0, .sl .nil 0 []), (1, .int .i64 k), (5, .int .i64 p)], H⟩)
    (fun p => p = 0) (fun p => 0) 0 rfl ?_ ?_
  · exact weak_slots (by simp [List.replicate, less_undef, less_refl])
  · rintro N hN i hi
    subst hi
    refine go_ok tab_nil ?_
    simp [List.replicate, retH]
@[simp] noncomputable def ct_pMayFailP : Ct := ⟨11, List (List UInt8) × Stmt × Strc, fun x => szVarsOk x.1 ∧ szStrc x.2.2 ≤ 1048576, fun x => [encL 1 encStr x.1, encStmt x.2.1, encStrc x.2.2], fun x => encL 1 encInt (mayL x.1 x.2.1 x.2.2)⟩
theorem ok_pMayFailP : ct_pMayFailP.Ok Tryz.prog := by
  rintro ⟨vars, st, s⟩ hp
  have h0 := ok_pMayFail.ok (vars, st, s) hp
  cases c : stmtB vars st
  · have hL : mayL vars st s = [] := by simp [mayL, c]
    simp only [ct_pMayFailP, hL]
    simp only [ct_pMayFail, c] at h0
    exact Ok.of_okH h0 (by simp)
  · simp only [ct_pMayFail, c] at h0
    exact Ok.of_okH h0 (by simp)
@[simp] noncomputable def ct_pMayFail0 : CtN := ⟨11, List (List UInt8) × Stmt × Strc, fun x => (szVarsOk x.1 ∧ szStrc x.2.2 ≤ 1048576) ∧ stmtB x.1 x.2.1 = false, fun x => [encL 1 encStr x.1, encStmt x.2.1, encStrc x.2.2], fun _ => .sl .nil 0 [], fun _ => []⟩
theorem ok_pMayFail0 : ct_pMayFail0.Ok Tryz.prog := by
  refine ⟨fun x hp => ?_, fun _ _ => rfl, fun _ _ k hk => by cases hk⟩
  have h0 := ok_pMayFail.ok x hp.1
  obtain ⟨vars, st, s⟩ := x
  have hc : stmtB vars st = false := hp.2
  simp only [ct_pMayFail, hc] at h0
  exact h0
@[simp] noncomputable def ct_pMayFail1 : CtN := ⟨11, List (List UInt8) × Stmt × Strc, fun x => (szVarsOk x.1 ∧ szStrc x.2.2 ≤ 1048576) ∧ stmtB x.1 x.2.1 = true, fun x => [encL 1 encStr x.1, encStmt x.2.1, encStrc x.2.2],
  fun x => .slref 2 0 (mayL x.1 x.2.1 x.2.2).length (mayL x.1 x.2.1 x.2.2).length, fun x => [.dead, .dead, .row true 3 1 ((mayL x.1 x.2.1 x.2.2).map encInt)]⟩
theorem ok_pMayFail1 : ct_pMayFail1.Ok Tryz.prog := by
  refine ⟨fun x hp => ?_, fun _ _ => rfl, fun x _ k hk => ?_⟩
  · have h0 := ok_pMayFail.ok x hp.1
    obtain ⟨vars, st, s⟩ := x
    have hc : stmtB vars st = true := hp.2
    simp only [ct_pMayFail, hc] at h0
    exact h0
  · simp at hk
    rcases hk with rfl | rfl
    · rfl
    · simp [ownB, ownVL_all, ownV]
theorem mayL_len (vars : List (List UInt8)) (st : Stmt) (s : Strc) : (mayL vars st s).length ≤ 2 := by
  unfold mayL nullL faultL
  (repeat' split) <;> simp
@[simp] theorem shL_strs (n : Nat) (l : List (List UInt8)) : shL n (l.map encStr) = l.map encStr := by
  rw [shL_map, List.map_map]; rfl
set_option maxHeartbeats 16000000 in
set_option maxRecDepth 100000 in
theorem ok_lawMayFail (vars : List (List UInt8)) (hv : ∀ s ∈ vars, s.length ≤ 9223372036854775807) (st : Stmt) (hst : st.a.length ≤ 9223372036854775807 ∧ st.b.length ≤ 9223372036854775807) (x : Strc) :
    Ok Tryz.prog 3 [encL 1 encStr vars, encStmt st, encStrc x] (.bool true) := by
  have hS : TabOk Tryz.prog _ := tab_cons ok_szStrs (tab_cons ok_szStmt (tab_cons ok_szStrc (tab_cons ok_toStrs (tab_cons ok_toStmt (tab_cons ok_toStrc (tab_cons ok_sMayFail (tab_cons ok_pMayFailP (tab_cons ok_eqStrs (tab_cons ok_eqStrc (tab_cons ok_eqIntS (tab_cons ok_heldI tab_nil)))))))))))
  have q1 : strsOk vars := hv
  have q2 : stmtOk st := hst
  refine Ok.of_cw fok_laws_FnExactMayFail ?_
  simp only [code_laws_FnExactMayFail, frame, List.length_cons, List.length_nil, List.replicate, Nat.reduceSub, Nat.reduceAdd, List.cons_append, List.nil_append]
  refine cw_seq (go_ok hS ?_); simp
  refine cw_seq (go_ok hS ?_); simp
  by_cases h1 : (szStrs vars : Int) ≤ 1048576
  case neg =>
    refine cw_seq (go_ok hS ?_)
    simp [q1, left_neg (by omega : (1048576:Int) < szStrs vars)]
    refine cw_seq (go_ok hS ?_)
    simp
  have l1 := left_ge h1
  have n1 : ¬ (1048576 - (szStrs vars : Int) < 0) := by omega
  have n1' : ¬ (1048576 < (szStrs vars : Int)) := by omega
  have p1 : (0 : Int) ≤ 1048576 - szStrs vars := by omega
  refine cw_seq (go_ok hS ?_)
  simp [q1, l1]
  refine cw_seq (go_ok hS ?_)
  simp [n1, n1']
  by_cases h2 : (szStmtN st : Int) ≤ 1048576 - szStrs vars
  case neg =>
    refine cw_seq (go_ok hS ?_)
    simp [q2, h1, p1, left_neg (by omega : (1048576:Int) - szStrs vars < szStmtN st)]
    refine ⟨by omega, ?_⟩
    refine cw_seq (go_ok hS ?_)
    simp
  have l2 := left_ge h2
  have n2 : ¬ (1048576 - (szStrs vars : Int) - szStmtN st < 0) := by omega
  refine cw_seq (go_ok hS ?_)
  simp [q2, h1, p1, l2]
  refine ⟨by omega, ?_⟩
  refine cw_seq (go_ok hS ?_)
  simp [n2]
  have hvl : vars.length ≤ szStrs vars := by unfold szStrs; omega
  have hvs : szVarsOk vars := ⟨by omega, fun s hs => by
    have h := sum_mem List.length hs
    unfold szStrs at h1
    omega⟩
  by_cases h3 : (szStrc x : Int) ≤ 1048576 - szStrs vars - szStmtN st
  case neg =>
    refine cw_seq (go_ok hS ?_)
    simp [left_neg (by omega : (1048576:Int) - szStrs vars - szStmtN st < szStrc x)]
    refine ⟨by omega, by omega, ?_⟩
    refine cw_seq (go_ok hS ?_)
    simp
  have l3 := left_ge h3
  have n3 : ¬ (1048576 - (szStrs vars : Int) - szStmtN st - szStrc x < 0) := by omega
  have hx : szStrc x ≤ 1048576 := by omega
  have hvl2 : vars.length ≤ 1048576 := by omega
  refine cw_seq (go_ok hS ?_)
  simp [l3]
  refine ⟨by omega, by omega, ?_⟩
  refine cw_seq (go_ok hS ?_)
  simp [n3]
  refine cw_seq (go_ok hS ?_)
  simp [hx, hvl2, hvs]
  clear h1 h2 h3 l1 l2 l3 n1 n1' n2 n3 p1
  have hwl := mayL_len vars st x
  generalize hw : mayL vars st x = w0 at *
  refine cw_weak (weak_seal (n0 := 0) 2 (by simp) (t' := slots 105 [(0, encL 1 encStr vars), (4, .pbox 0 0), (5, .pbox 1 0), (8, encL 1 encInt w0)]) (H' := [.cells [.int .i64 st.kind, .str st.a, .str st.b], .cells [encL 4 encNode x.nodes, encL 1 encInt x.next]]) (by simp [List.replicate]) (by simp [List.replicate])) ?_
  refine cw_seq (go_ok (tab_h (CtN.hok ok_toStrsN) tab_nil) ?_); simp [List.replicate, hvl2]
  refine cw_seq (go_ok (tab_h (CtN.hok ok_toStrcN) tab_nil) ?_); simp [List.replicate, hx, strcAt]

  have sX : StrcIn (.cells [.int .i64 st.kind, .str st.a, .str st.b] :: .cells [encL 4 encNode x.nodes, encL 1 encInt x.next] :: .row true 9 1 (vars.map encStr) :: (List.map (shB 3) (strcBs x) ++ [.nrow, .nrow, .cells [.slref 10 0 x.nodes.length x.nodes.length, .slref (3 + (8 + 9 * x.nodes.length)) 0 x.next.length x.next.length]]) : List Blk) 3 x := strcIn_mk (A := [.cells [.int .i64 st.kind, .str st.a, .str st.b], .cells [encL 4 encNode x.nodes, encL 1 encInt x.next], .row true 9 1 (vars.map encStr)])
  have sL : (.cells [.int .i64 st.kind, .str st.a, .str st.b] :: .cells [encL 4 encNode x.nodes, encL 1 encInt x.next] :: .row true 9 1 (vars.map encStr) :: (List.map (shB 3) (strcBs x) ++ [.nrow, .nrow, .cells [.slref 10 0 x.nodes.length x.nodes.length, .slref (3 + (8 + 9 * x.nodes.length)) 0 x.next.length x.next.length]]) : List Blk).length = (strcBs x).length + 6 := by simp
  have s0 : (.cells [.int .i64 st.kind, .str st.a, .str st.b] :: .cells [encL 4 encNode x.nodes, encL 1 encInt x.next] :: .row true 9 1 (vars.map encStr) :: (List.map (shB 3) (strcBs x) ++ [.nrow, .nrow, .cells [.slref 10 0 x.nodes.length x.nodes.length, .slref (3 + (8 + 9 * x.nodes.length)) 0 x.next.length x.next.length]]) : List Blk)[(strcBs x).length + 1 + 1 + 1 + 2]? = some (.cells [.slref 10 0 x.nodes.length x.nodes.length, .slref (3 + (8 + 9 * x.nodes.length)) 0 x.next.length x.next.length]) := by
    rw [List.getElem?_cons_succ, List.getElem?_cons_succ, List.getElem?_cons_succ, List.getElem?_append_right (by simp)]
    simp
  have s1 : (.cells [.int .i64 st.kind, .str st.a, .str st.b] :: .cells [encL 4 encNode x.nodes, encL 1 encInt x.next] :: .row true 9 1 (vars.map encStr) :: (List.map (shB 3) (strcBs x) ++ [.nrow, .nrow, .cells [.slref 10 0 x.nodes.length x.nodes.length, .slref (3 + (8 + 9 * x.nodes.length)) 0 x.next.length x.next.length]]) : List Blk)[0]? = some (.cells [.int .i64 st.kind, .str st.a, .str st.b]) := rfl
  have s2 : (.cells [.int .i64 st.kind, .str st.a, .str st.b] :: .cells [encL 4 encNode x.nodes, encL 1 encInt x.next] :: .row true 9 1 (vars.map encStr) :: (List.map (shB 3) (strcBs x) ++ [.nrow, .nrow, .cells [.slref 10 0 x.nodes.length x.nodes.length, .slref (3 + (8 + 9 * x.nodes.length)) 0 x.next.length x.next.length]]) : List Blk)[1]? = some (.cells [encL 4 encNode x.nodes, encL 1 encInt x.next]) := rfl
  have s3 : (.cells [.int .i64 st.kind, .str st.a, .str st.b] :: .cells [encL 4 encNode x.nodes, encL 1 encInt x.next] :: .row true 9 1 (vars.map encStr) :: (List.map (shB 3) (strcBs x) ++ [.nrow, .nrow, .cells [.slref 10 0 x.nodes.length x.nodes.length, .slref (3 + (8 + 9 * x.nodes.length)) 0 x.next.length x.next.length]]) : List Blk)[2]? = some (.row true 9 1 (vars.map encStr)) := rfl
  generalize hG : (.cells [.int .i64 st.kind, .str st.a, .str st.b] :: .cells [encL 4 encNode x.nodes, encL 1 encInt x.next] :: .row true 9 1 (vars.map encStr) :: (List.map (shB 3) (strcBs x) ++ [.nrow, .nrow, .cells [.slref 10 0 x.nodes.length x.nodes.length, .slref (3 + (8 + 9 * x.nodes.length)) 0 x.next.length x.next.length]]) : List Blk) = G at *
  clear hG
  have hbx : (strcBs x).length = 9 + 9 * x.nodes.length := by simp [strcBs, lblk_len]; omega
  generalize hP0 : (strcBs x).length + 1 + 1 + 1 + 2 = P0 at *
  generalize hC0 : 3 + (8 + 9 * x.nodes.length) = C0 at *
  have lx : ∀ G', StrcIn G' 3 x → lendC (fun _ _ => true) G' 20 (.slref 10 0 x.nodes.length x.nodes.length) = some (encL 4 encNode x.nodes) ∧ lendC (fun _ _ => true) G' 20 (.slref C0 0 x.next.length x.next.length) = some (encL 1 encInt x.next) := fun G' h => by
    have := h.lend
    rwa [show 3 + 8 + 9 * x.nodes.length = C0 by omega] at this
  have ls : ∀ G' : List Blk, G'[2]? = some (.row true 9 1 (vars.map encStr)) → lendC (fun _ _ => true) G' 20 (.slref 2 0 vars.length vars.length) = some (encL 1 encStr vars) := fun G' h => by simp [lendC, h]
  obtain ⟨x1, x2⟩ := lx G sX
  have lsG := ls G s3
  have dP0 : P0 = 14 + 9 * x.nodes.length := by omega
  have dC0 : C0 = 11 + 9 * x.nodes.length := by omega
  have dL : G.length = 15 + 9 * x.nodes.length := by omega
  clear hP0 hC0 sL hbx
  have bX := szN_sum x.nodes
  have bX2 : szStrc x = szNodes x.nodes + x.next.length := rfl
  have bX3 : x.nodes.length ≤ 1048576 := by have := (strc_le x).1; omega
  cases c : stmtB vars st
  · have hw0 : w0 = [] := by rw [← hw]; simp [mayL, c]
    subst hw0
    refine cw_seq (go_ok (tab_h (CtN.hok ok_pMayFail0) (tab_cons ok_toStmt tab_nil)) ?_); simp (maxSteps := 2000000) [List.replicate, c, hx, hvs, hw, s0, s1, s2, s3, x1, x2, lsG]
    have v0 := s0
    have v1 := s1
    have v2 := s2
    have v3 := s3
    have vX := sX
    have hl3 : G.length ≤ G.length + 3 := by omega
    obtain ⟨x3, x4⟩ := lx G vX
    have ls3 := ls G v3
    refine cw_seq (go_ok hS ?_); simp [List.replicate]
    refine cw_seq (go_ok hS ?_); simp [List.replicate, hvl2, ls3]
    refine cw_seq (go_ok hS ?_); simp [List.replicate, hx, x3, x4, v0, v1, v2, v3]
    refine cw_seq (go_ok hS ?_); simp [List.replicate]
    refine cw_seq (go_ok (tab_h (ok_markSt 9) tab_nil) ?_); simp [List.replicate]
    refine ⟨vars, rfl, hvl2, v3, ?_⟩
    have e4 : ∀ j, j ≠ 2 → (G.set 2 (Blk.row true 9 1 (List.map encStr (markTs 1 vars.length))))[j]? = G[j]? := fun j hj => List.getElem?_set_ne (Ne.symm hj)
    have l4 : (G.set 2 (Blk.row true 9 1 (List.map encStr (markTs 1 vars.length)))).length = G.length := by simp
    generalize (G.set 2 (Blk.row true 9 1 (List.map encStr (markTs 1 vars.length)))) = G4 at *
    have w4 := (e4 P0 (by omega)).trans v0
    have wX : StrcIn G4 3 x := vX.congr fun j hj _ => e4 j (by omega)
    refine cw_seq (go_ok (tab_h ok_markStrc tab_nil) ?_); simp [List.replicate, w4]
    have rX : rowOk G4 10 C0 10 (x.nodes.map szN) := by have := wX.rowOk hx; rwa [show 3 + 8 + 9 * x.nodes.length = C0 by omega] at this
    have nX := wX.next
    rw [show 3 + 8 + 9 * x.nodes.length = C0 by omega] at nX
    refine ⟨x.nodes.map szN, by simp, 10, C0, x.next, rfl, by omega, by omega, by omega, by simp; omega, by omega, by omega, by omega, Nat.le_refl _, rX, nX, ?_⟩
    have e5 : ∀ j, j < 10 ∨ C0 < j → ((deadR 10 C0 G4).set C0 (Blk.row true 3 1 (List.map encInt (marks (1 + (vars.length : Int) + ((x.nodes.map szN).sum : Nat)) x.next.length))))[j]? = G4[j]? := fun j hj => by rw [List.getElem?_set_ne (by omega), deadR_get (by omega) (by omega), if_pos (by omega)]
    generalize ((deadR 10 C0 G4).set C0 (Blk.row true 3 1 (List.map encInt (marks (1 + (vars.length : Int) + ((x.nodes.map szN).sum : Nat)) x.next.length)))) = G5 at *
    have z1 := (e5 0 (by omega)).trans ((e4 0 (by omega)).trans v1)
    have z2 := (e5 1 (by omega)).trans ((e4 1 (by omega)).trans v2)
    have nk : ¬ (1 + (vars.length : Int) + (((x.nodes.map szN).sum : Nat) : Int) + x.next.length < 0) := by omega
    refine cw_seq (go_ok hS ?_); simp [List.replicate, nk]
    refine cw_seq (go_ok hS ?_); simp [List.replicate]
    refine cw_seq (go_ok (tab_h ok_markNil0 tab_nil) ?_); simp [List.replicate]
    refine cw_seq (go_ok hS ?_); simp [List.replicate]
    refine cw_seq (go_ok hS ?_); simp [List.replicate, marks]
    refine cw_seq (go_ok hS ?_); simp [List.replicate, marks]
    refine cw_seq (go_ok hS ?_); simp [List.replicate, marks]
    refine cw_seq (go_ok hS ?_); simp [List.replicate, hvl2, hvs, hx, z1, z2, hw]
    refine cw_seq (go_ok hS ?_); simp [List.replicate]
    refine cw_seq (go_ok hS ?_); simp [List.replicate]
    refine cw_seq (go_ok hS ?_); simp [List.replicate, marks]
    refine cw_seq (go_ok hS ?_); simp [List.replicate, marks]
    refine cw_seq (go_ok hS ?_); simp [List.replicate, marks]
    refine go_ok hS ?_; simp [List.replicate]
  · refine cw_seq (go_ok (tab_h (CtN.hok ok_pMayFail1) (tab_cons ok_toStmt tab_nil)) ?_); simp (maxSteps := 2000000) [List.replicate, c, hx, hvs, hw, s0, s1, s2, s3, x1, x2, lsG]
    have hpre : ∀ j, j < G.length → (G ++ [Blk.dead, Blk.dead, Blk.row true 3 1 (w0.map encInt)])[j]? = G[j]? := fun j hj => List.getElem?_append_left hj
    have hfr : (G ++ [Blk.dead, Blk.dead, Blk.row true 3 1 (w0.map encInt)])[G.length + 2]? = some (.row true 3 1 (w0.map encInt)) := by rw [getHk]; rfl
    have hl3 : (G ++ [Blk.dead, Blk.dead, Blk.row true 3 1 (w0.map encInt)]).length = G.length + 3 := by simp
    generalize (G ++ [Blk.dead, Blk.dead, Blk.row true 3 1 (w0.map encInt)]) = G3 at *
    have v0 := (hpre P0 (by omega)).trans s0
    have v1 := (hpre 0 (by omega)).trans s1
    have v2 := (hpre 1 (by omega)).trans s2
    have v3 := (hpre 2 (by omega)).trans s3
    have vX : StrcIn G3 3 x := sX.congr fun j _ hj => hpre j (by omega)
    generalize hf : G.length + 2 = f at *
    have lg : lendC (fun _ _ => true) G3 20 (.slref f 0 w0.length w0.length) = some (encL 1 encInt w0) := by simp [lendC, hfr]
    obtain ⟨x3, x4⟩ := lx G3 vX
    have ls3 := ls G3 v3
    refine cw_seq (go_ok hS ?_); simp [List.replicate, lg]
    refine cw_seq (go_ok hS ?_); simp [List.replicate, hvl2, ls3]
    refine cw_seq (go_ok hS ?_); simp [List.replicate, hx, x3, x4, v0, v1, v2, v3]
    refine cw_seq (go_ok hS ?_); simp [List.replicate]
    refine cw_seq (go_ok (tab_h (ok_markSt 9) tab_nil) ?_); simp [List.replicate]
    refine ⟨vars, rfl, hvl2, v3, ?_⟩
    have e4 : ∀ j, j ≠ 2 → (G3.set 2 (Blk.row true 9 1 (List.map encStr (markTs 1 vars.length))))[j]? = G3[j]? := fun j hj => List.getElem?_set_ne (Ne.symm hj)
    have l4 : (G3.set 2 (Blk.row true 9 1 (List.map encStr (markTs 1 vars.length)))).length = G3.length := by simp
    generalize (G3.set 2 (Blk.row true 9 1 (List.map encStr (markTs 1 vars.length)))) = G4 at *
    have w4 := (e4 P0 (by omega)).trans v0
    have wX : StrcIn G4 3 x := vX.congr fun j hj _ => e4 j (by omega)
    refine cw_seq (go_ok (tab_h ok_markStrc tab_nil) ?_); simp [List.replicate, w4]
    have rX : rowOk G4 10 C0 10 (x.nodes.map szN) := by have := wX.rowOk hx; rwa [show 3 + 8 + 9 * x.nodes.length = C0 by omega] at this
    have nX := wX.next
    rw [show 3 + 8 + 9 * x.nodes.length = C0 by omega] at nX
    refine ⟨x.nodes.map szN, by simp, 10, C0, x.next, rfl, by omega, by omega, by omega, by simp; omega, by omega, by omega, by omega, Nat.le_refl _, rX, nX, ?_⟩
    have e5 : ∀ j, j < 10 ∨ C0 < j → ((deadR 10 C0 G4).set C0 (Blk.row true 3 1 (List.map encInt (marks (1 + (vars.length : Int) + ((x.nodes.map szN).sum : Nat)) x.next.length))))[j]? = G4[j]? := fun j hj => by rw [List.getElem?_set_ne (by omega), deadR_get (by omega) (by omega), if_pos (by omega)]
    generalize ((deadR 10 C0 G4).set C0 (Blk.row true 3 1 (List.map encInt (marks (1 + (vars.length : Int) + ((x.nodes.map szN).sum : Nat)) x.next.length)))) = G5 at *
    have z1 := (e5 0 (by omega)).trans ((e4 0 (by omega)).trans v1)
    have z2 := (e5 1 (by omega)).trans ((e4 1 (by omega)).trans v2)
    have zf := (e5 f (by omega)).trans ((e4 f (by omega)).trans hfr)
    have lg5 : lendC (fun _ _ => true) G5 20 (.slref f 0 w0.length w0.length) = some (encL 1 encInt w0) := by simp [lendC, zf]
    have nk : ¬ (1 + (vars.length : Int) + (((x.nodes.map szN).sum : Nat) : Int) + x.next.length < 0) := by omega
    refine cw_seq (go_ok hS ?_); simp [List.replicate, nk, lg5]
    refine cw_seq (go_ok hS ?_); simp [List.replicate]
    have m9 : w0.length ≤ 1099511627776 := by omega
    refine cw_seq (go_ok (tab_h (ok_markI 3) tab_nil) ?_); simp [List.replicate]
    refine ⟨w0, rfl, m9, zf, ?_⟩
    have hfl : f < G5.length := (List.getElem?_eq_some_iff.1 zf).1
    have q1 := (show (G5.set f (Blk.row true 3 1 (List.map encInt (marks 1 w0.length))))[0]? = G5[0]? from List.getElem?_set_ne (by omega)).trans z1
    have q2 := (show (G5.set f (Blk.row true 3 1 (List.map encInt (marks 1 w0.length))))[1]? = G5[1]? from List.getElem?_set_ne (by omega)).trans z2
    have qf : (G5.set f (Blk.row true 3 1 (List.map encInt (marks 1 w0.length))))[f]? = some (.row true 3 1 (List.map encInt (marks 1 w0.length))) := List.getElem?_set_self hfl
    generalize (G5.set f (Blk.row true 3 1 (List.map encInt (marks 1 w0.length)))) = G6 at *
    have tm : List.take w0.length (List.map encInt (marks 1 w0.length)) = List.map encInt (marks 1 w0.length) := List.take_of_length_le (by simp)
    have lg6 : lendC (fun _ _ => true) G6 20 (.slref f 0 w0.length w0.length) = some (encL 1 encInt (marks 1 w0.length)) := by simp [lendC, qf, tm]
    have nm : ¬ ((1 : Int) + w0.length < 0) := by omega
    have nm' : ¬ ((w0.length : Int) + 1 < 0) := by omega
    refine cw_seq (go_ok hS ?_); simp [List.replicate]
    refine cw_seq (go_ok hS ?_); simp [List.replicate, lg6, m9, nm, nm']
    refine cw_seq (go_ok hS ?_); simp [List.replicate, lg6, m9, nm, nm']
    refine cw_seq (go_ok hS ?_); simp [List.replicate, lg6, m9, nm, nm']
    refine cw_seq (go_ok hS ?_); simp [List.replicate, hvl2, hvs, hx, q1, q2, hw]
    refine cw_seq (go_ok hS ?_); simp [List.replicate]
    refine cw_seq (go_ok hS ?_); simp [List.replicate]
    refine cw_seq (go_ok hS ?_); simp [List.replicate, lg6, m9, nm, nm']
    refine cw_seq (go_ok hS ?_); simp [List.replicate, lg6, m9, nm, nm']
    refine cw_seq (go_ok hS ?_); simp [List.replicate, lg6, m9, nm, nm']
    refine go_ok hS ?_; simp [List.replicate]
end Go.Vm

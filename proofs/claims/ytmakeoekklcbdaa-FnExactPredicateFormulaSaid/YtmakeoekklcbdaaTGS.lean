/- PredicateFormula: the law. No condition. -/
import Derived.Test.YtmakeoekklcbdaaTFS
import Derived.Test.YtmakeoekklcbdaaTGP
set_option linter.unusedSimpArgs false
set_option linter.unusedVariables false
namespace Go.Vm
open Go.Proofs
def code_laws_FnExactPredicateFormula : F := ⟨87, [.tmp 6],
 .seq (.reg [⟨some 4, .box (.t 1), none⟩,
    ⟨some 6, .mov (.k (.bool false)), none⟩])
 (.seq (.reg [⟨some 7, .mov (.k (.int .i64 1048576)), none⟩])
  (.seq (.reg [⟨some 15, .mov (.t 0), none⟩,
      ⟨some 16, .mov (.t 7), none⟩,
      ⟨some 17, .call 31 [(.t 15), (.t 16)], none⟩,
      ⟨some 7, .mov (.t 17), none⟩])
   (.seq (.seq (.reg [⟨some 18, .mov (.t 7), none⟩,
        ⟨some 19, .bin .lss (.t 18) (.k (.int .i64 0)), none⟩])
     (.cond (.t 19)
      (.seq (.reg [⟨some 6, .mov (.k (.bool true)), none⟩])
       (.ret))
      (.skip)))
    (.seq (.reg [⟨some 20, .load 3 true (.t 4), none⟩,
        ⟨some 21, .mov (.t 7), none⟩,
        ⟨some 22, .call 32 [(.t 20), (.t 21)], none⟩,
        ⟨some 7, .mov (.t 22), none⟩])
     (.seq (.seq (.reg [⟨some 23, .mov (.t 7), none⟩,
          ⟨some 24, .bin .lss (.t 23) (.k (.int .i64 0)), none⟩])
       (.cond (.t 24)
        (.seq (.reg [⟨some 6, .mov (.k (.bool true)), none⟩])
         (.ret))
        (.skip)))
      (.seq (.dreg [false, false, false, false, false, false, false, true] [false, true, false, true, false, true, false, false] [⟨some 25, .mov (.t 0), none⟩,
          ⟨some 26, .call 34 [(.t 25)], none⟩,
          ⟨some 27, .load 3 true (.t 4), none⟩,
          ⟨some 28, .call 35 [(.t 27)], none⟩,
          ⟨some 29, .mov (.t 2), none⟩,
          ⟨some 30, .call 42 [(.t 26), (.t 28), (.t 29)], none⟩,
          ⟨some 8, .alloc [(.int .i64 0), (.int .i64 0), (.int .i64 0), (.int .i64 0), (.sl .nil 0 [])], none⟩,
          ⟨none, .store 5 (.t 8) (.t 30), none⟩])
       (.seq (.reg [⟨some 31, .mov (.t 0), none⟩,
           ⟨some 32, .call 34 [(.t 31)], none⟩,
           ⟨some 9, .mov (.t 32), none⟩])
        (.seq (.reg [⟨some 33, .mov (.t 9), none⟩,
            ⟨some 34, .load 3 true (.t 4), none⟩,
            ⟨some 35, .call 35 [(.t 34)], none⟩,
            ⟨some 36, .mov (.t 2), none⟩,
            ⟨some 37, .call 43 [(.t 33), (.t 35), (.t 36)], none⟩,
            ⟨some 10, .alloc [(.int .i64 0), (.int .i64 0), (.int .i64 0), (.int .i64 0), (.sl .nil 0 [])], none⟩,
            ⟨none, .store 5 (.t 10) (.t 37), none⟩])
         (.seq (.seq (.reg [⟨some 38, .load 5 true (.t 10), none⟩,
              ⟨some 39, .load 5 true (.t 8), none⟩,
              ⟨some 40, .call 37 [(.t 38), (.t 39)], none⟩,
              ⟨some 41, .not (.t 40), none⟩])
           (.cond (.t 41)
            (.seq (.reg [⟨some 6, .mov (.k (.bool false)), none⟩])
             (.ret))
            (.skip)))
          (.seq (.seq (.reg [⟨some 42, .mov (.t 9), none⟩,
               ⟨some 43, .mov (.t 0), none⟩,
               ⟨some 44, .call 34 [(.t 43)], none⟩,
               ⟨some 45, .call 38 [(.t 42), (.t 44)], none⟩,
               ⟨some 46, .not (.t 45), none⟩])
            (.cond (.t 46)
             (.seq (.reg [⟨some 6, .mov (.k (.bool false)), none⟩])
              (.ret))
             (.skip)))
           (.seq (.reg [⟨some 11, .mov (.k (.int .i64 1)), none⟩])
            (.seq (.reg [⟨some 47, .mov (.t 9), none⟩,
                ⟨some 48, .mov (.t 11), none⟩,
                ⟨some 49, .call 39 [(.t 47), (.t 48)], none⟩,
                ⟨some 11, .mov (.t 49), none⟩])
             (.seq (.seq (.reg [⟨some 50, .mov (.t 11), none⟩,
                  ⟨some 51, .bin .lss (.t 50) (.k (.int .i64 0)), none⟩,
                  ⟨some 52, .mov (.t 51), none⟩,
                  ⟨some 53, .load 5 true (.t 10), some (52, false)⟩,
                  ⟨some 54, .load 5 true (.t 8), some (52, false)⟩,
                  ⟨some 55, .call 37 [(.t 53), (.t 54)], some (52, false)⟩,
                  ⟨some 56, .not (.t 55), some (52, false)⟩,
                  ⟨some 57, .pick (.t 52) (.k (.bool true)) (.t 56), none⟩])
               (.cond (.t 57)
                (.seq (.reg [⟨some 6, .mov (.k (.bool false)), none⟩])
                 (.ret))
                (.skip)))
              (.seq (.reg [⟨some 12, .mov (.k (.int .i64 1)), none⟩])
               (.seq (.reg [⟨some 58, .load 5 true (.t 10), none⟩,
                   ⟨some 59, .mov (.t 12), none⟩,
                   ⟨some 60, .call 40 [(.t 58), (.t 59)], none⟩,
                   ⟨some 12, .mov (.t 60), none⟩])
                (.seq (.reg [⟨some 13, .mov (.k (.int .i64 1)), none⟩])
                 (.seq (.reg [⟨some 61, .load 5 true (.t 10), none⟩,
                     ⟨some 62, .mov (.t 13), none⟩,
                     ⟨some 63, .call 41 [(.t 61), (.t 62)], none⟩,
                     ⟨some 13, .mov (.t 63), none⟩])
                  (.seq (.seq (.reg [⟨some 64, .mov (.t 13), none⟩,
                       ⟨some 65, .bin .lss (.t 64) (.k (.int .i64 0)), none⟩])
                    (.cond (.t 65)
                     (.seq (.reg [⟨some 6, .mov (.k (.bool false)), none⟩])
                      (.ret))
                     (.skip)))
                   (.seq (.seq (.reg [⟨some 66, .mov (.t 13), none⟩,
                        ⟨some 67, .mov (.t 12), none⟩,
                        ⟨some 68, .bin .neq (.t 66) (.t 67), none⟩])
                     (.cond (.t 68)
                      (.seq (.reg [⟨some 6, .mov (.k (.bool false)), none⟩])
                       (.ret))
                      (.skip)))
                    (.seq (.dreg [false, false, false, false, false, false, false, true] [false, true, false, true, false, true, false, false] [⟨some 69, .mov (.t 0), none⟩,
                        ⟨some 70, .call 34 [(.t 69)], none⟩,
                        ⟨some 71, .load 3 true (.t 4), none⟩,
                        ⟨some 72, .call 35 [(.t 71)], none⟩,
                        ⟨some 73, .mov (.t 2), none⟩,
                        ⟨some 74, .call 43 [(.t 70), (.t 72), (.t 73)], none⟩,
                        ⟨some 14, .alloc [(.int .i64 0), (.int .i64 0), (.int .i64 0), (.int .i64 0), (.sl .nil 0 [])], none⟩,
                        ⟨none, .store 5 (.t 14) (.t 74), none⟩])
                     (.seq (.seq (.reg [⟨some 75, .load 5 true (.t 14), none⟩,
                          ⟨some 76, .load 5 true (.t 8), none⟩,
                          ⟨some 77, .call 37 [(.t 75), (.t 76)], none⟩,
                          ⟨some 78, .not (.t 77), none⟩])
                       (.cond (.t 78)
                        (.seq (.reg [⟨some 6, .mov (.k (.bool false)), none⟩])
                         (.ret))
                        (.skip)))
                      (.seq (.reg [⟨some 13, .mov (.k (.int .i64 1)), none⟩])
                       (.seq (.reg [⟨some 79, .load 5 true (.t 10), none⟩,
                           ⟨some 80, .mov (.t 13), none⟩,
                           ⟨some 81, .call 41 [(.t 79), (.t 80)], none⟩,
                           ⟨some 13, .mov (.t 81), none⟩])
                        (.seq (.seq (.reg [⟨some 82, .mov (.t 13), none⟩,
                             ⟨some 83, .bin .lss (.t 82) (.k (.int .i64 0)), none⟩])
                          (.cond (.t 83)
                           (.seq (.reg [⟨some 6, .mov (.k (.bool false)), none⟩])
                            (.ret))
                           (.skip)))
                         (.seq (.seq (.reg [⟨some 84, .mov (.t 13), none⟩,
                              ⟨some 85, .mov (.t 12), none⟩,
                              ⟨some 86, .bin .neq (.t 84) (.t 85), none⟩])
                           (.cond (.t 86)
                            (.seq (.reg [⟨some 6, .mov (.k (.bool false)), none⟩])
                             (.ret))
                            (.skip)))
                          (.seq (.reg [⟨some 6, .mov (.k (.bool true)), none⟩])
                           (.ret)))))))))))))))))))))))))))⟩
theorem fok_laws_FnExactPredicateFormula : FOk Try.prog 7 code_laws_FnExactPredicateFormula := fok Try.func7 (by kernel_rfl)
def Sm (f : Fm) : Prop := deps f.args < 20 ∧ sizes f.args ≤ 100
theorem sm_ite {c : Prop} [Decidable c] {a b : Fm} : Sm (if c then a else b) ↔ if c then Sm a else Sm b := by split <;> rfl
theorem sm_mk (k a u v : Int) (args : List Fm) : Sm (.mk k a u v args) ↔ deps args < 20 ∧ sizes args ≤ 100 := Iff.rfl
theorem sm_on (kind a b x : Int) : Sm (pOnT kind a b x) := by
  simp [pOnT, sm_ite, sm_mk, falseT, cutReachT, cutSharedT, shL0, someL, frmL, andL, orL, notL, onL, nxtL, deps_cons, deps_nil, dep_mk, sizes_cons, sizes_nil, size_mk]
theorem sm_from (kind a b x : Int) : Sm (pFromT kind a b x) := by
  simp [pFromT, sm_ite, sm_mk, falseT, cutReachT, cutSharedT, shL0, someL, frmL, andL, orL, notL, onL, nxtL, deps_cons, deps_nil, dep_mk, sizes_cons, sizes_nil, size_mk]
theorem sm_shared (kind a b : Int) : Sm (pSharedT kind a b) := by
  simp [pSharedT, sm_ite, sm_mk, falseT, cutReachT, cutSharedT, shL0, someL, frmL, andL, orL, notL, onL, nxtL, deps_cons, deps_nil, dep_mk, sizes_cons, sizes_nil, size_mk]
theorem pred_small (vars : List (List UInt8)) (s : Stmt) (k : Int) : deps (predF vars s k).args < 20 ∧ sizes (predF vars s k).args ≤ 100 := by
  change Sm _
  simp [predF, predT, sm_ite, sm_on, sm_from, sm_shared, sm_mk, deps_nil, sizes_nil]
@[simp] noncomputable def ct_pPredP : Ct := ⟨43, List (List UInt8) × Stmt × Int, fun x => szVarsOk x.1, fun x => [encL 1 encStr x.1, encStmt x.2.1, .int .i64 x.2.2], fun x => encFm (predF x.1 x.2.1 x.2.2)⟩
theorem ok_pPredP : ct_pPredP.Ok Try.prog := fun x hx => made_ok (made_Pred x.1 x.2.1 x.2.2 hx) (pred_small x.1 x.2.1 x.2.2).1
theorem ok_pPred : (ctM 43 (List (List UInt8) × Stmt × Int) (fun x => szVarsOk x.1) (fun x => [encL 1 encStr x.1, encStmt x.2.1, .int .i64 x.2.2]) (fun x => predF x.1 x.2.1 x.2.2)).Ok Try.prog := ctM_ok fun x hx => made_Pred x.1 x.2.1 x.2.2 hx
set_option maxHeartbeats 8000000 in
set_option maxRecDepth 100000 in
theorem ok_lawPred (vars : List (List UInt8)) (hv : ∀ s ∈ vars, s.length ≤ 9223372036854775807) (st : Stmt) (hst : st.a.length ≤ 9223372036854775807 ∧ st.b.length ≤ 9223372036854775807) (kk : Int) :
    Ok Try.prog 7 [encL 1 encStr vars, encStmt st, .int .i64 kk] (.bool true) := by
  have q1 : strsOk vars := hv
  have q2 : stmtOk st := hst
  have hT : TabOk Try.prog _ := tab_cons ok_szStrs (tab_cons ok_szStmt (tab_cons ok_toStrs (tab_cons ok_toStmt (tab_cons ok_sPred (tab_cons ok_pPredP (tab_cons ok_eqStrs (tab_cons ok_eqFm (tab_cons ok_held tab_nil))))))))
  refine Ok.of_cw fok_laws_FnExactPredicateFormula ?_
  simp only [code_laws_FnExactPredicateFormula, frame, List.length_cons, List.length_nil, List.replicate, Nat.reduceSub, Nat.reduceAdd, List.cons_append, List.nil_append]
  refine cw_seq (go_ok hT ?_)
  simp
  refine cw_seq (go_ok hT ?_)
  simp
  by_cases h1 : (szStrs vars : Int) ≤ 1048576
  case neg =>
    refine cw_seq (go_ok hT ?_)
    simp [q1, left_neg (by omega : (1048576:Int) < szStrs vars)]
    refine cw_seq (go_ok hT ?_)
    simp
  have l1 := left_ge h1
  have n1 : ¬ (1048576 - (szStrs vars : Int) < 0) := by omega
  have n1' : ¬ (1048576 < (szStrs vars : Int)) := by omega
  have p1 : (0 : Int) ≤ 1048576 - szStrs vars := by omega
  refine cw_seq (go_ok hT ?_)
  simp [q1, l1]
  refine cw_seq (go_ok hT ?_)
  simp [n1, n1']
  by_cases h2 : (szStmtN st : Int) ≤ 1048576 - szStrs vars
  case neg =>
    refine cw_seq (go_ok hT ?_)
    simp [q2, h1, p1, left_neg (by omega : (1048576:Int) - szStrs vars < szStmtN st)]
    refine ⟨by omega, ?_⟩
    refine cw_seq (go_ok hT ?_)
    simp
  have l2 := left_ge h2
  have n2 : ¬ (1048576 - (szStrs vars : Int) - szStmtN st < 0) := by omega
  refine cw_seq (go_ok hT ?_)
  simp [q2, h1, p1, l2]
  refine ⟨by omega, ?_⟩
  refine cw_seq (go_ok hT ?_)
  simp [n2]
  have hvl : vars.length ≤ szStrs vars := by unfold szStrs; omega
  have hvs : szVarsOk vars := ⟨by omega, fun s hs => by
    have h := sum_mem List.length hs
    unfold szStrs at h1
    omega⟩
  have hvl2 : vars.length ≤ 1048576 := by omega
  obtain ⟨z1, z2⟩ := pred_small vars st kk
  have hM := madeOf_spec (made_Pred vars st kk hvs)
  generalize hp : madeOf 43 [encL 1 encStr vars, encStmt st, .int .i64 kk] (predF vars st kk) = p at *
  generalize hw : predF vars st kk = w0 at *
  obtain ⟨⟨x1, x2, x3, x4, sv⟩, N⟩ := p
  obtain ⟨w1, w2, w3, w4, ws⟩ := w0
  obtain ⟨-, -, e1, e2, e3, e4, R, hA⟩ := hM
  simp only [Fm.kind_mk, Fm.k_mk, Fm.u_mk, Fm.v_mk, Fm.args_mk] at e1 e2 e3 e4 hA z1 z2
  subst e1 e2 e3 e4
  refine cw_seq (go_ok hT ?_)
  simp [hvl2, hvs, hw, isH]
  refine cw_seq (go_ok (tab_h (CtN.hok ok_toStrsN) tab_nil) ?_)
  simp [hvl2]
  refine cw_weak (weak_seal (n0 := 0) 4 (by simp) (t' := slots 87 [(0, encL 1 encStr vars), (2, .int .i64 kk), (4, .pbox 0 0), (8, .pbox 2 0), (9, .slref 3 0 vars.length vars.length)]) (H' := [.cells [.int .i64 st.kind, .str st.a, .str st.b], .dead, .cells [.int .i64 x1, .int .i64 x2, .int .i64 x3, .int .i64 x4, encL 5 encFm ws], .row true 9 1 (vars.map encStr)]) (by simp) (by simp [List.replicate])) ?_
  rcases sv with _ | _ | ⟨i, o, l, t⟩
  · cases hA
  · refine cw_seq (go_ok (tab_h (CtN.hok ok_pPred) (tab_cons ok_toStmt tab_nil)) ?_)
    simp [List.replicate, hvs, hw, hp, FV.av, PS.av]
    have hG : AIn (.cells [.int .i64 st.kind, .str st.a, .str st.b] :: .dead :: .cells [.int .i64 x1, .int .i64 x2, .int .i64 x3, .int .i64 x4, encL 5 encFm ws] :: .row true 9 1 (vars.map encStr) :: (N.map (shB 4) ++ [.nrow, .cells [.int .i64 x1, .int .i64 x2, .int .i64 x3, .int .i64 x4, (.sl .any 0 [])]]) : List Blk) (.sl .any 0 []) ws (R.map (4 + ·)) := by
      have := (hA.sh [.cells [.int .i64 st.kind, .str st.a, .str st.b], .dead, .cells [.int .i64 x1, .int .i64 x2, .int .i64 x3, .int .i64 x4, encL 5 encFm ws], .row true 9 1 (vars.map encStr)]).app [.nrow, .cells [.int .i64 x1, .int .i64 x2, .int .i64 x3, .int .i64 x4, (.sl .any 0 [])]]
      simpa [PS.av] using this
    have g0 : (.cells [.int .i64 st.kind, .str st.a, .str st.b] :: .dead :: .cells [.int .i64 x1, .int .i64 x2, .int .i64 x3, .int .i64 x4, encL 5 encFm ws] :: .row true 9 1 (vars.map encStr) :: (N.map (shB 4) ++ [.nrow, .cells [.int .i64 x1, .int .i64 x2, .int .i64 x3, .int .i64 x4, (.sl .any 0 [])]]) : List Blk)[0]? = some (.cells [.int .i64 st.kind, .str st.a, .str st.b]) := rfl
    have g2 : (.cells [.int .i64 st.kind, .str st.a, .str st.b] :: .dead :: .cells [.int .i64 x1, .int .i64 x2, .int .i64 x3, .int .i64 x4, encL 5 encFm ws] :: .row true 9 1 (vars.map encStr) :: (N.map (shB 4) ++ [.nrow, .cells [.int .i64 x1, .int .i64 x2, .int .i64 x3, .int .i64 x4, (.sl .any 0 [])]]) : List Blk)[2]? = some (.cells [.int .i64 x1, .int .i64 x2, .int .i64 x3, .int .i64 x4, encL 5 encFm ws]) := rfl
    have g3 : (.cells [.int .i64 st.kind, .str st.a, .str st.b] :: .dead :: .cells [.int .i64 x1, .int .i64 x2, .int .i64 x3, .int .i64 x4, encL 5 encFm ws] :: .row true 9 1 (vars.map encStr) :: (N.map (shB 4) ++ [.nrow, .cells [.int .i64 x1, .int .i64 x2, .int .i64 x3, .int .i64 x4, (.sl .any 0 [])]]) : List Blk)[3]? = some (.row true 9 1 (vars.map encStr)) := rfl
    have gP : (.cells [.int .i64 st.kind, .str st.a, .str st.b] :: .dead :: .cells [.int .i64 x1, .int .i64 x2, .int .i64 x3, .int .i64 x4, encL 5 encFm ws] :: .row true 9 1 (vars.map encStr) :: (N.map (shB 4) ++ [.nrow, .cells [.int .i64 x1, .int .i64 x2, .int .i64 x3, .int .i64 x4, (.sl .any 0 [])]]) : List Blk)[N.length + 1 + 1 + 1 + 1 + 1]? = some (.cells [.int .i64 x1, .int .i64 x2, .int .i64 x3, .int .i64 x4, (.sl .any 0 [])]) := by
      rw [List.getElem?_cons_succ, List.getElem?_cons_succ, List.getElem?_cons_succ, List.getElem?_cons_succ, List.getElem?_append_right (by simp)]
      simp
    generalize (.cells [.int .i64 st.kind, .str st.a, .str st.b] :: .dead :: .cells [.int .i64 x1, .int .i64 x2, .int .i64 x3, .int .i64 x4, encL 5 encFm ws] :: .row true 9 1 (vars.map encStr) :: (N.map (shB 4) ++ [.nrow, .cells [.int .i64 x1, .int .i64 x2, .int .i64 x3, .int .i64 x4, (.sl .any 0 [])]]) : List Blk) = G at *
    generalize N.length + 1 + 1 + 1 + 1 + 1 = P at *
    generalize R.map (4 + ·) = R' at *
    have hS := hG.lend 20 z1
    refine cw_seq (go_ok hT ?_); simp [List.replicate, gP, g2, hS]
    have hX : lendC (fun _ _ => true) G 20 (.slref 3 0 vars.length vars.length) = some (encL 1 encStr vars) := by simp [lendC, g3]
    refine cw_seq (go_ok hT ?_); simp [List.replicate, hvl2, hX]
    refine cw_seq (go_ok hT ?_); simp [List.replicate]
    refine cw_seq (go_ok (tab_h (ok_markSt 9) tab_nil) ?_); simp [List.replicate, hvl2, g3]
    refine ⟨vars, rfl, hvl2, rfl, ?_⟩
    have nR : ∀ j k, G[j]? = some k → (∀ e els, k ≠ .row true e 5 els) → j ∉ R' := fun j k hk hne hj => by
      obtain ⟨els, he⟩ := hG.is5 j hj
      rw [hk] at he
      exact hne _ _ (Option.some.inj he)
    have n3 := nR 3 _ g3 (fun e els h => by simp at h)
    have nP : P ≠ 3 := fun e => by subst e; rw [g3] at gP; simp at gP
    have hG4 : AIn (G.set 3 (.row true 9 1 ((markTs 1 vars.length).map encStr))) (.sl .any 0 []) ws R' :=
      hG.congr (fun i hi => List.getElem?_set_ne (fun e => n3 (by cases e; exact hi))) (fun i hi => by rw [List.getElem?_set_ne (fun e => by subst e; rw [g3] at hi; simp at hi)]; exact hi)
    have f0 : (G.set 3 (.row true 9 1 ((markTs 1 vars.length).map encStr)))[0]? = _ := (List.getElem?_set_ne (by omega)).trans g0
    have f2 : (G.set 3 (.row true 9 1 ((markTs 1 vars.length).map encStr)))[2]? = _ := (List.getElem?_set_ne (by omega)).trans g2
    have fP : (G.set 3 (.row true 9 1 ((markTs 1 vars.length).map encStr)))[P]? = _ := (List.getElem?_set_ne (fun e => nP e.symm)).trans gP
    have m0 := nR 0 _ g0 (fun e els h => by simp at h)
    have m2 := nR 2 _ g2 (fun e els h => by simp at h)
    have mP := nR P _ gP (fun e els h => by simp at h)
    generalize G.set 3 (.row true 9 1 ((markTs 1 vars.length).map encStr)) = G4 at *
    have hS4 := hG4.lend 20 z1
    have nk : ¬ ((1 : Int) + vars.length < 0) := by omega
    refine cw_seq (go_ok hT ?_); simp [List.replicate, nk, fP, f2, hS4]
    refine cw_seq (go_ok hT ?_); simp [List.replicate]
    obtain ⟨H2, mk1, mk2, mk3, hA2⟩ := mark_good (a := x1) (b := x2) (c := x3) (d := x4) (s := .any) (H := G4) (xs := ws) (R := R') hG4 (k := 1) (by omega) (by omega)
    simp only [FV.av, PS.av] at mk1 hA2
    refine cw_seq (go_ok (tab_h (c := ⟨40, Unit, fun _ H => H = G4, fun _ => [.agg [.int .i64 x1, .int .i64 x2, .int .i64 x3, .int .i64 x4, (.sl .any 0 [])], .int .i64 1], fun _ _ => .int .i64 (1 + 4 * sizes ws), fun _ _ => H2⟩) (fun _ H e => by cases e; exact mk1) tab_nil) ?_)
    simp [List.replicate, fP]
    have u2 : H2[2]? = _ := (mk3 2 m2 (List.getElem?_eq_some_iff.1 f2).1).trans f2
    have u0 : H2[0]? = _ := (mk3 0 m0 (List.getElem?_eq_some_iff.1 f0).1).trans f0
    have uP : H2[P]? = _ := (mk3 P mP (List.getElem?_eq_some_iff.1 fP).1).trans fP
    have hS2 := hA2.lend 20 (by rw [deps_mkd]; exact z1)
    have hh := heldS_mkd ws 1 (by omega)
    have hz := mkdS_size ws 1
    have hb : (1 : Int) + 4 * sizes ws ≤ 1099511627776 := by omega
    have nq : ¬ ((1 : Int) + 4 * sizes ws < 0) := by omega
    refine cw_seq (go_ok hT ?_); simp [List.replicate]
    refine cw_seq (go_ok hT ?_); simp [List.replicate, uP, hS2, hz, hb, hh]
    refine cw_seq (go_ok hT ?_); simp [List.replicate, nq]
    refine cw_seq (go_ok hT ?_); simp [List.replicate]
    have u0L : ∀ L : List Blk, (H2 ++ L)[0]? = some (.cells [.int .i64 st.kind, .str st.a, .str st.b]) := fun L => (List.getElem?_append_left (List.getElem?_eq_some_iff.1 u0).1).trans u0
    refine cw_seq (go_ok hT ?_); simp [List.replicate, u0L, hvl2, hvs, hw, isH]
    have hA3 := hA2.app [Blk.nrow, Blk.cells [.int .i64 x1, .int .i64 x2, .int .i64 x3, .int .i64 x4, encL 5 encFm ws]]
    have t2 : (H2 ++ [Blk.nrow, Blk.cells [.int .i64 x1, .int .i64 x2, .int .i64 x3, .int .i64 x4, encL 5 encFm ws]])[2]? = _ := (List.getElem?_append_left (List.getElem?_eq_some_iff.1 u2).1).trans u2
    have tP : (H2 ++ [Blk.nrow, Blk.cells [.int .i64 x1, .int .i64 x2, .int .i64 x3, .int .i64 x4, encL 5 encFm ws]])[P]? = _ := (List.getElem?_append_left (List.getElem?_eq_some_iff.1 uP).1).trans uP
    have t6 : (H2 ++ [Blk.nrow, Blk.cells [.int .i64 x1, .int .i64 x2, .int .i64 x3, .int .i64 x4, encL 5 encFm ws]])[H2.length + 1]? = some (.cells [.int .i64 x1, .int .i64 x2, .int .i64 x3, .int .i64 x4, encL 5 encFm ws]) := by rw [getHk]; rfl
    generalize (H2 ++ [Blk.nrow, Blk.cells [.int .i64 x1, .int .i64 x2, .int .i64 x3, .int .i64 x4, encL 5 encFm ws]]) = H3 at *
    generalize H2.length + 1 = P6 at *
    have hS3 := hA3.lend 20 (by rw [deps_mkd]; exact z1)
    refine cw_seq (go_ok hT ?_); simp [List.replicate, t2, t6]
    refine cw_seq (go_ok hT ?_); simp [List.replicate]
    refine cw_seq (go_ok hT ?_); simp [List.replicate, tP, hS3, hz, hb, hh]
    refine cw_seq (go_ok hT ?_); simp [List.replicate, nq]
    refine cw_seq (go_ok hT ?_); simp [List.replicate]
    refine go_ok hT ?_; simp [List.replicate]
  · refine cw_seq (go_ok (tab_h (CtN.hok ok_pPred) (tab_cons ok_toStmt tab_nil)) ?_)
    simp [List.replicate, hvs, hw, hp, FV.av, PS.av]
    have hG : AIn (.cells [.int .i64 st.kind, .str st.a, .str st.b] :: .dead :: .cells [.int .i64 x1, .int .i64 x2, .int .i64 x3, .int .i64 x4, encL 5 encFm ws] :: .row true 9 1 (vars.map encStr) :: (N.map (shB 4) ++ [.nrow, .cells [.int .i64 x1, .int .i64 x2, .int .i64 x3, .int .i64 x4, (.slref (4 + i) o l t)]]) : List Blk) (.slref (4 + i) o l t) ws (R.map (4 + ·)) := by
      have := (hA.sh [.cells [.int .i64 st.kind, .str st.a, .str st.b], .dead, .cells [.int .i64 x1, .int .i64 x2, .int .i64 x3, .int .i64 x4, encL 5 encFm ws], .row true 9 1 (vars.map encStr)]).app [.nrow, .cells [.int .i64 x1, .int .i64 x2, .int .i64 x3, .int .i64 x4, (.slref (4 + i) o l t)]]
      simpa [PS.av] using this
    have g0 : (.cells [.int .i64 st.kind, .str st.a, .str st.b] :: .dead :: .cells [.int .i64 x1, .int .i64 x2, .int .i64 x3, .int .i64 x4, encL 5 encFm ws] :: .row true 9 1 (vars.map encStr) :: (N.map (shB 4) ++ [.nrow, .cells [.int .i64 x1, .int .i64 x2, .int .i64 x3, .int .i64 x4, (.slref (4 + i) o l t)]]) : List Blk)[0]? = some (.cells [.int .i64 st.kind, .str st.a, .str st.b]) := rfl
    have g2 : (.cells [.int .i64 st.kind, .str st.a, .str st.b] :: .dead :: .cells [.int .i64 x1, .int .i64 x2, .int .i64 x3, .int .i64 x4, encL 5 encFm ws] :: .row true 9 1 (vars.map encStr) :: (N.map (shB 4) ++ [.nrow, .cells [.int .i64 x1, .int .i64 x2, .int .i64 x3, .int .i64 x4, (.slref (4 + i) o l t)]]) : List Blk)[2]? = some (.cells [.int .i64 x1, .int .i64 x2, .int .i64 x3, .int .i64 x4, encL 5 encFm ws]) := rfl
    have g3 : (.cells [.int .i64 st.kind, .str st.a, .str st.b] :: .dead :: .cells [.int .i64 x1, .int .i64 x2, .int .i64 x3, .int .i64 x4, encL 5 encFm ws] :: .row true 9 1 (vars.map encStr) :: (N.map (shB 4) ++ [.nrow, .cells [.int .i64 x1, .int .i64 x2, .int .i64 x3, .int .i64 x4, (.slref (4 + i) o l t)]]) : List Blk)[3]? = some (.row true 9 1 (vars.map encStr)) := rfl
    have gP : (.cells [.int .i64 st.kind, .str st.a, .str st.b] :: .dead :: .cells [.int .i64 x1, .int .i64 x2, .int .i64 x3, .int .i64 x4, encL 5 encFm ws] :: .row true 9 1 (vars.map encStr) :: (N.map (shB 4) ++ [.nrow, .cells [.int .i64 x1, .int .i64 x2, .int .i64 x3, .int .i64 x4, (.slref (4 + i) o l t)]]) : List Blk)[N.length + 1 + 1 + 1 + 1 + 1]? = some (.cells [.int .i64 x1, .int .i64 x2, .int .i64 x3, .int .i64 x4, (.slref (4 + i) o l t)]) := by
      rw [List.getElem?_cons_succ, List.getElem?_cons_succ, List.getElem?_cons_succ, List.getElem?_cons_succ, List.getElem?_append_right (by simp)]
      simp
    generalize (.cells [.int .i64 st.kind, .str st.a, .str st.b] :: .dead :: .cells [.int .i64 x1, .int .i64 x2, .int .i64 x3, .int .i64 x4, encL 5 encFm ws] :: .row true 9 1 (vars.map encStr) :: (N.map (shB 4) ++ [.nrow, .cells [.int .i64 x1, .int .i64 x2, .int .i64 x3, .int .i64 x4, (.slref (4 + i) o l t)]]) : List Blk) = G at *
    generalize N.length + 1 + 1 + 1 + 1 + 1 = P at *
    generalize R.map (4 + ·) = R' at *
    have hS := hG.lend 20 z1
    refine cw_seq (go_ok hT ?_); simp [List.replicate, gP, g2, hS]
    have hX : lendC (fun _ _ => true) G 20 (.slref 3 0 vars.length vars.length) = some (encL 1 encStr vars) := by simp [lendC, g3]
    refine cw_seq (go_ok hT ?_); simp [List.replicate, hvl2, hX]
    refine cw_seq (go_ok hT ?_); simp [List.replicate]
    refine cw_seq (go_ok (tab_h (ok_markSt 9) tab_nil) ?_); simp [List.replicate, hvl2, g3]
    refine ⟨vars, rfl, hvl2, rfl, ?_⟩
    have nR : ∀ j k, G[j]? = some k → (∀ e els, k ≠ .row true e 5 els) → j ∉ R' := fun j k hk hne hj => by
      obtain ⟨els, he⟩ := hG.is5 j hj
      rw [hk] at he
      exact hne _ _ (Option.some.inj he)
    have n3 := nR 3 _ g3 (fun e els h => by simp at h)
    have nP : P ≠ 3 := fun e => by subst e; rw [g3] at gP; simp at gP
    have hG4 : AIn (G.set 3 (.row true 9 1 ((markTs 1 vars.length).map encStr))) (.slref (4 + i) o l t) ws R' :=
      hG.congr (fun i hi => List.getElem?_set_ne (fun e => n3 (by cases e; exact hi))) (fun i hi => by rw [List.getElem?_set_ne (fun e => by subst e; rw [g3] at hi; simp at hi)]; exact hi)
    have f0 : (G.set 3 (.row true 9 1 ((markTs 1 vars.length).map encStr)))[0]? = _ := (List.getElem?_set_ne (by omega)).trans g0
    have f2 : (G.set 3 (.row true 9 1 ((markTs 1 vars.length).map encStr)))[2]? = _ := (List.getElem?_set_ne (by omega)).trans g2
    have fP : (G.set 3 (.row true 9 1 ((markTs 1 vars.length).map encStr)))[P]? = _ := (List.getElem?_set_ne (fun e => nP e.symm)).trans gP
    have m0 := nR 0 _ g0 (fun e els h => by simp at h)
    have m2 := nR 2 _ g2 (fun e els h => by simp at h)
    have mP := nR P _ gP (fun e els h => by simp at h)
    generalize G.set 3 (.row true 9 1 ((markTs 1 vars.length).map encStr)) = G4 at *
    have hS4 := hG4.lend 20 z1
    have nk : ¬ ((1 : Int) + vars.length < 0) := by omega
    refine cw_seq (go_ok hT ?_); simp [List.replicate, nk, fP, f2, hS4]
    refine cw_seq (go_ok hT ?_); simp [List.replicate]
    obtain ⟨H2, mk1, mk2, mk3, hA2⟩ := mark_good (a := x1) (b := x2) (c := x3) (d := x4) (s := (.row (4 + i) o l t)) (H := G4) (xs := ws) (R := R') hG4 (k := 1) (by omega) (by omega)
    simp only [FV.av, PS.av] at mk1 hA2
    refine cw_seq (go_ok (tab_h (c := ⟨40, Unit, fun _ H => H = G4, fun _ => [.agg [.int .i64 x1, .int .i64 x2, .int .i64 x3, .int .i64 x4, (.slref (4 + i) o l t)], .int .i64 1], fun _ _ => .int .i64 (1 + 4 * sizes ws), fun _ _ => H2⟩) (fun _ H e => by cases e; exact mk1) tab_nil) ?_)
    simp [List.replicate, fP]
    have u2 : H2[2]? = _ := (mk3 2 m2 (List.getElem?_eq_some_iff.1 f2).1).trans f2
    have u0 : H2[0]? = _ := (mk3 0 m0 (List.getElem?_eq_some_iff.1 f0).1).trans f0
    have uP : H2[P]? = _ := (mk3 P mP (List.getElem?_eq_some_iff.1 fP).1).trans fP
    have hS2 := hA2.lend 20 (by rw [deps_mkd]; exact z1)
    have hh := heldS_mkd ws 1 (by omega)
    have hz := mkdS_size ws 1
    have hb : (1 : Int) + 4 * sizes ws ≤ 1099511627776 := by omega
    have nq : ¬ ((1 : Int) + 4 * sizes ws < 0) := by omega
    refine cw_seq (go_ok hT ?_); simp [List.replicate]
    refine cw_seq (go_ok hT ?_); simp [List.replicate, uP, hS2, hz, hb, hh]
    refine cw_seq (go_ok hT ?_); simp [List.replicate, nq]
    refine cw_seq (go_ok hT ?_); simp [List.replicate]
    have u0L : ∀ L : List Blk, (H2 ++ L)[0]? = some (.cells [.int .i64 st.kind, .str st.a, .str st.b]) := fun L => (List.getElem?_append_left (List.getElem?_eq_some_iff.1 u0).1).trans u0
    refine cw_seq (go_ok hT ?_); simp [List.replicate, u0L, hvl2, hvs, hw, isH]
    have hA3 := hA2.app [Blk.nrow, Blk.cells [.int .i64 x1, .int .i64 x2, .int .i64 x3, .int .i64 x4, encL 5 encFm ws]]
    have t2 : (H2 ++ [Blk.nrow, Blk.cells [.int .i64 x1, .int .i64 x2, .int .i64 x3, .int .i64 x4, encL 5 encFm ws]])[2]? = _ := (List.getElem?_append_left (List.getElem?_eq_some_iff.1 u2).1).trans u2
    have tP : (H2 ++ [Blk.nrow, Blk.cells [.int .i64 x1, .int .i64 x2, .int .i64 x3, .int .i64 x4, encL 5 encFm ws]])[P]? = _ := (List.getElem?_append_left (List.getElem?_eq_some_iff.1 uP).1).trans uP
    have t6 : (H2 ++ [Blk.nrow, Blk.cells [.int .i64 x1, .int .i64 x2, .int .i64 x3, .int .i64 x4, encL 5 encFm ws]])[H2.length + 1]? = some (.cells [.int .i64 x1, .int .i64 x2, .int .i64 x3, .int .i64 x4, encL 5 encFm ws]) := by rw [getHk]; rfl
    generalize (H2 ++ [Blk.nrow, Blk.cells [.int .i64 x1, .int .i64 x2, .int .i64 x3, .int .i64 x4, encL 5 encFm ws]]) = H3 at *
    generalize H2.length + 1 = P6 at *
    have hS3 := hA3.lend 20 (by rw [deps_mkd]; exact z1)
    refine cw_seq (go_ok hT ?_); simp [List.replicate, t2, t6]
    refine cw_seq (go_ok hT ?_); simp [List.replicate]
    refine cw_seq (go_ok hT ?_); simp [List.replicate, tP, hS3, hz, hb, hh]
    refine cw_seq (go_ok hT ?_); simp [List.replicate, nq]
    refine cw_seq (go_ok hT ?_); simp [List.replicate]
    refine go_ok hT ?_; simp [List.replicate]
end Go.Vm

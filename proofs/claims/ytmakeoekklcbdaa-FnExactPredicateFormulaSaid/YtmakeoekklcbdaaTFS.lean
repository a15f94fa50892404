/- EdgeFormula: the law. No condition. -/
import Derived.Test.YtmakeoekklcbdaaTFQ
import Derived.Test.YtmakeoekklcbdaaTSS
import Derived.Test.YtmakeoekklcbdaaTMX
set_option linter.unusedSimpArgs false
set_option linter.unusedVariables false
namespace Go.Vm
open Go.Proofs
def code_laws_FnExactEdgeFormula : F := ⟨82, [.tmp 4],
 .seq (.reg [⟨some 3, .box (.t 1), none⟩,
    ⟨some 4, .mov (.k (.bool false)), none⟩])
 (.seq (.reg [⟨some 5, .mov (.k (.int .i64 1048576)), none⟩])
  (.seq (.reg [⟨some 13, .mov (.t 0), none⟩,
      ⟨some 14, .mov (.t 5), none⟩,
      ⟨some 15, .call 31 [(.t 13), (.t 14)], none⟩,
      ⟨some 5, .mov (.t 15), none⟩])
   (.seq (.seq (.reg [⟨some 16, .mov (.t 5), none⟩,
        ⟨some 17, .bin .lss (.t 16) (.k (.int .i64 0)), none⟩])
     (.cond (.t 17)
      (.seq (.reg [⟨some 4, .mov (.k (.bool true)), none⟩])
       (.ret))
      (.skip)))
    (.seq (.reg [⟨some 18, .load 3 true (.t 3), none⟩,
        ⟨some 19, .mov (.t 5), none⟩,
        ⟨some 20, .call 32 [(.t 18), (.t 19)], none⟩,
        ⟨some 5, .mov (.t 20), none⟩])
     (.seq (.seq (.reg [⟨some 21, .mov (.t 5), none⟩,
          ⟨some 22, .bin .lss (.t 21) (.k (.int .i64 0)), none⟩])
       (.cond (.t 22)
        (.seq (.reg [⟨some 4, .mov (.k (.bool true)), none⟩])
         (.ret))
        (.skip)))
      (.seq (.dreg [false, false, false, false, false, false, true] [false, true, false, true, true, false, false] [⟨some 23, .mov (.t 0), none⟩,
          ⟨some 24, .call 34 [(.t 23)], none⟩,
          ⟨some 25, .load 3 true (.t 3), none⟩,
          ⟨some 26, .call 35 [(.t 25)], none⟩,
          ⟨some 27, .call 33 [(.t 24), (.t 26)], none⟩,
          ⟨some 6, .alloc [(.int .i64 0), (.int .i64 0), (.int .i64 0), (.int .i64 0), (.sl .nil 0 [])], none⟩,
          ⟨none, .store 5 (.t 6) (.t 27), none⟩])
       (.seq (.reg [⟨some 28, .mov (.t 0), none⟩,
           ⟨some 29, .call 34 [(.t 28)], none⟩,
           ⟨some 7, .mov (.t 29), none⟩])
        (.seq (.reg [⟨some 30, .mov (.t 7), none⟩,
            ⟨some 31, .load 3 true (.t 3), none⟩,
            ⟨some 32, .call 35 [(.t 31)], none⟩,
            ⟨some 33, .call 36 [(.t 30), (.t 32)], none⟩,
            ⟨some 8, .alloc [(.int .i64 0), (.int .i64 0), (.int .i64 0), (.int .i64 0), (.sl .nil 0 [])], none⟩,
            ⟨none, .store 5 (.t 8) (.t 33), none⟩])
         (.seq (.seq (.reg [⟨some 34, .load 5 true (.t 8), none⟩,
              ⟨some 35, .load 5 true (.t 6), none⟩,
              ⟨some 36, .call 37 [(.t 34), (.t 35)], none⟩,
              ⟨some 37, .not (.t 36), none⟩])
           (.cond (.t 37)
            (.seq (.reg [⟨some 4, .mov (.k (.bool false)), none⟩])
             (.ret))
            (.skip)))
          (.seq (.seq (.reg [⟨some 38, .mov (.t 7), none⟩,
               ⟨some 39, .mov (.t 0), none⟩,
               ⟨some 40, .call 34 [(.t 39)], none⟩,
               ⟨some 41, .call 38 [(.t 38), (.t 40)], none⟩,
               ⟨some 42, .not (.t 41), none⟩])
            (.cond (.t 42)
             (.seq (.reg [⟨some 4, .mov (.k (.bool false)), none⟩])
              (.ret))
             (.skip)))
           (.seq (.reg [⟨some 9, .mov (.k (.int .i64 1)), none⟩])
            (.seq (.reg [⟨some 43, .mov (.t 7), none⟩,
                ⟨some 44, .mov (.t 9), none⟩,
                ⟨some 45, .call 39 [(.t 43), (.t 44)], none⟩,
                ⟨some 9, .mov (.t 45), none⟩])
             (.seq (.seq (.reg [⟨some 46, .mov (.t 9), none⟩,
                  ⟨some 47, .bin .lss (.t 46) (.k (.int .i64 0)), none⟩,
                  ⟨some 48, .mov (.t 47), none⟩,
                  ⟨some 49, .load 5 true (.t 8), some (48, false)⟩,
                  ⟨some 50, .load 5 true (.t 6), some (48, false)⟩,
                  ⟨some 51, .call 37 [(.t 49), (.t 50)], some (48, false)⟩,
                  ⟨some 52, .not (.t 51), some (48, false)⟩,
                  ⟨some 53, .pick (.t 48) (.k (.bool true)) (.t 52), none⟩])
               (.cond (.t 53)
                (.seq (.reg [⟨some 4, .mov (.k (.bool false)), none⟩])
                 (.ret))
                (.skip)))
              (.seq (.reg [⟨some 10, .mov (.k (.int .i64 1)), none⟩])
               (.seq (.reg [⟨some 54, .load 5 true (.t 8), none⟩,
                   ⟨some 55, .mov (.t 10), none⟩,
                   ⟨some 56, .call 40 [(.t 54), (.t 55)], none⟩,
                   ⟨some 10, .mov (.t 56), none⟩])
                (.seq (.reg [⟨some 11, .mov (.k (.int .i64 1)), none⟩])
                 (.seq (.reg [⟨some 57, .load 5 true (.t 8), none⟩,
                     ⟨some 58, .mov (.t 11), none⟩,
                     ⟨some 59, .call 41 [(.t 57), (.t 58)], none⟩,
                     ⟨some 11, .mov (.t 59), none⟩])
                  (.seq (.seq (.reg [⟨some 60, .mov (.t 11), none⟩,
                       ⟨some 61, .bin .lss (.t 60) (.k (.int .i64 0)), none⟩])
                    (.cond (.t 61)
                     (.seq (.reg [⟨some 4, .mov (.k (.bool false)), none⟩])
                      (.ret))
                     (.skip)))
                   (.seq (.seq (.reg [⟨some 62, .mov (.t 11), none⟩,
                        ⟨some 63, .mov (.t 10), none⟩,
                        ⟨some 64, .bin .neq (.t 62) (.t 63), none⟩])
                     (.cond (.t 64)
                      (.seq (.reg [⟨some 4, .mov (.k (.bool false)), none⟩])
                       (.ret))
                      (.skip)))
                    (.seq (.dreg [false, false, false, false, false, false, true] [false, true, false, true, true, false, false] [⟨some 65, .mov (.t 0), none⟩,
                        ⟨some 66, .call 34 [(.t 65)], none⟩,
                        ⟨some 67, .load 3 true (.t 3), none⟩,
                        ⟨some 68, .call 35 [(.t 67)], none⟩,
                        ⟨some 69, .call 36 [(.t 66), (.t 68)], none⟩,
                        ⟨some 12, .alloc [(.int .i64 0), (.int .i64 0), (.int .i64 0), (.int .i64 0), (.sl .nil 0 [])], none⟩,
                        ⟨none, .store 5 (.t 12) (.t 69), none⟩])
                     (.seq (.seq (.reg [⟨some 70, .load 5 true (.t 12), none⟩,
                          ⟨some 71, .load 5 true (.t 6), none⟩,
                          ⟨some 72, .call 37 [(.t 70), (.t 71)], none⟩,
                          ⟨some 73, .not (.t 72), none⟩])
                       (.cond (.t 73)
                        (.seq (.reg [⟨some 4, .mov (.k (.bool false)), none⟩])
                         (.ret))
                        (.skip)))
                      (.seq (.reg [⟨some 11, .mov (.k (.int .i64 1)), none⟩])
                       (.seq (.reg [⟨some 74, .load 5 true (.t 8), none⟩,
                           ⟨some 75, .mov (.t 11), none⟩,
                           ⟨some 76, .call 41 [(.t 74), (.t 75)], none⟩,
                           ⟨some 11, .mov (.t 76), none⟩])
                        (.seq (.seq (.reg [⟨some 77, .mov (.t 11), none⟩,
                             ⟨some 78, .bin .lss (.t 77) (.k (.int .i64 0)), none⟩])
                          (.cond (.t 78)
                           (.seq (.reg [⟨some 4, .mov (.k (.bool false)), none⟩])
                            (.ret))
                           (.skip)))
                         (.seq (.seq (.reg [⟨some 79, .mov (.t 11), none⟩,
                              ⟨some 80, .mov (.t 10), none⟩,
                              ⟨some 81, .bin .neq (.t 79) (.t 80), none⟩])
                           (.cond (.t 81)
                            (.seq (.reg [⟨some 4, .mov (.k (.bool false)), none⟩])
                             (.ret))
                            (.skip)))
                          (.seq (.reg [⟨some 4, .mov (.k (.bool true)), none⟩])
                           (.ret)))))))))))))))))))))))))))⟩
theorem fok_laws_FnExactEdgeFormula : FOk Try.prog 6 code_laws_FnExactEdgeFormula := fok Try.func6 (by kernel_rfl)
theorem AIn.is5 {H : List Blk} {s : AV} {xs : List Fm} {R : List Nat} (h : AIn H s xs R) : ∀ i ∈ R, ∃ els, H[i]? = some (.row true 57 5 els) := by
  induction h with
  | any => simp
  | nil b h => simp
  | row1 m a b c d s xs R h h1 h2 ih =>
    intro i hi
    rcases List.mem_cons.1 hi with rfl | hi
    · exact ⟨_, h⟩
    · exact ih i hi
  | row2 m a b c d s xs R a' b' c' d' s' xs' R' h h1 h1' h2 h2' h3 ih ih' =>
    intro i hi
    rcases List.mem_cons.1 hi with rfl | hi
    · exact ⟨_, h⟩
    · rcases List.mem_append.1 hi with hi | hi
      · exact ih i hi
      · exact ih' i hi
theorem made_ok {f : Nat} {args : List AV} {fm : Fm} (h : ∃ p, MadeP f args fm p) (hd : deps fm.args < 20) : Ok Try.prog f args (encFm fm) := by
  obtain ⟨⟨⟨a, b, c, d, s⟩, N⟩, h1, h2, e1, e2, e3, e4, R, h3⟩ := h
  refine Ok.of_okH h1 ?_
  have := h3.lend 20 hd
  simp only at e1 e2 e3 e4
  subst e1 e2 e3 e4
  rw [encFm_eq]
  simp [FV.av, lendCs, lendC, this]
theorem edge_small (vars : List (List UInt8)) (s : Stmt) : deps (edgeF vars s).args < 20 ∧ sizes (edgeF vars s).args ≤ 100 := by
  unfold edgeF edgeT
  (repeat' split) <;> simp [andL, orL, notL, onL, nxtL, deps_cons, deps_nil, dep_mk, sizes_cons, sizes_nil, size_mk]
@[simp] noncomputable def ct_pEdgeP : Ct := ⟨36, List (List UInt8) × Stmt, fun x => szVarsOk x.1, fun x => [encL 1 encStr x.1, encStmt x.2], fun x => encFm (edgeF x.1 x.2)⟩
theorem ok_pEdgeP : ct_pEdgeP.Ok Try.prog := fun x hx => made_ok (made_Edge x.1 x.2 hx) (edge_small x.1 x.2).1
theorem ok_pEdge : (ctM 36 (List (List UInt8) × Stmt) (fun x => szVarsOk x.1) (fun x => [encL 1 encStr x.1, encStmt x.2]) (fun x => edgeF x.1 x.2)).Ok Try.prog := ctM_ok fun x hx => made_Edge x.1 x.2 hx
@[simp] theorem shL_strs {n : Nat} {xs : List (List UInt8)} : shL n (xs.map encStr) = xs.map encStr := by
  rw [shL_map, List.map_map]; congr 1
theorem AIn.app {H : List Blk} {s : AV} {xs : List Fm} {R : List Nat} (h : AIn H s xs R) (L : List Blk) : AIn (H ++ L) s xs R :=
  h.congr (fun i hi => List.getElem?_append_left (h.lt i hi)) (fun i hi => by rw [List.getElem?_append_left (List.getElem?_eq_some_iff.1 hi).1]; exact hi)
set_option maxHeartbeats 8000000 in
set_option maxRecDepth 100000 in
theorem ok_lawEdge (vars : List (List UInt8)) (hv : ∀ s ∈ vars, s.length ≤ 9223372036854775807) (st : Stmt) (hst : st.a.length ≤ 9223372036854775807 ∧ st.b.length ≤ 9223372036854775807) :
    Ok Try.prog 6 [encL 1 encStr vars, encStmt st] (.bool true) := by
  have q1 : strsOk vars := hv
  have q2 : stmtOk st := hst
  have hT : TabOk Try.prog _ := tab_cons ok_szStrs (tab_cons ok_szStmt (tab_cons ok_toStrs (tab_cons ok_toStmt (tab_cons ok_sEdge (tab_cons ok_pEdgeP (tab_cons ok_eqStrs (tab_cons ok_eqFm (tab_cons ok_held tab_nil))))))))
  refine Ok.of_cw fok_laws_FnExactEdgeFormula ?_
  simp only [code_laws_FnExactEdgeFormula, frame, List.length_cons, List.length_nil, List.replicate, Nat.reduceSub, Nat.reduceAdd, List.cons_append, List.nil_append]
  refine cw_seq (go_ok hT ?_)
  simp
  refine cw_seq (go_ok hT ?_)
  simp
  by_cases h1 : (szStrs vars : Int) ≤ 1048576
  case neg =>
    refine cw_seq (go_ok hT ?_)
    simp [q1, left_neg (by omega : (1048576:Int) < szStrs vars)]
    refine cw_seq (go_ok hT ?_)
    simp
  have l1 := left_ge h1
  have n1 : ¬ (1048576 - (szStrs vars : Int) < 0) := by omega
  have n1' : ¬ (1048576 < (szStrs vars : Int)) := by omega
  have p1 : (0 : Int) ≤ 1048576 - szStrs vars := by omega
  refine cw_seq (go_ok hT ?_)
  simp [q1, l1]
  refine cw_seq (go_ok hT ?_)
  simp [n1, n1']
  by_cases h2 : (szStmtN st : Int) ≤ 1048576 - szStrs vars
  case neg =>
    refine cw_seq (go_ok hT ?_)
    simp [q2, h1, p1, left_neg (by omega : (1048576:Int) - szStrs vars < szStmtN st)]
    refine ⟨by omega, ?_⟩
    refine cw_seq (go_ok hT ?_)
    simp
  have l2 := left_ge h2
  have n2 : ¬ (1048576 - (szStrs vars : Int) - szStmtN st < 0) := by omega
  refine cw_seq (go_ok hT ?_)
  simp [q2, h1, p1, l2]
  refine ⟨by omega, ?_⟩
  refine cw_seq (go_ok hT ?_)
  simp [n2]
  have hvl : vars.length ≤ szStrs vars := by unfold szStrs; omega
  have hvs : szVarsOk vars := ⟨by omega, fun s hs => by
    have h := sum_mem List.length hs
    unfold szStrs at h1
    omega⟩
  have hvl2 : vars.length ≤ 1048576 := by omega
  obtain ⟨z1, z2⟩ := edge_small vars st
  have hM := madeOf_spec (made_Edge vars st hvs)
  generalize hp : madeOf 36 [encL 1 encStr vars, encStmt st] (edgeF vars st) = p at *
  generalize hw : edgeF vars st = w0 at *
  obtain ⟨⟨x1, x2, x3, x4, sv⟩, N⟩ := p
  obtain ⟨w1, w2, w3, w4, ws⟩ := w0
  obtain ⟨-, -, e1, e2, e3, e4, R, hA⟩ := hM
  simp only [Fm.kind_mk, Fm.k_mk, Fm.u_mk, Fm.v_mk, Fm.args_mk] at e1 e2 e3 e4 hA z1 z2
  subst e1 e2 e3 e4
  refine cw_seq (go_ok hT ?_)
  simp [hvl2, hvs, hw, isH]
  refine cw_seq (go_ok (tab_h (CtN.hok ok_toStrsN) tab_nil) ?_)
  simp [hvl2]
  refine cw_weak (weak_seal (n0 := 0) 4 (by simp) (t' := slots 82 [(0, encL 1 encStr vars), (3, .pbox 0 0), (6, .pbox 2 0), (7, .slref 3 0 vars.length vars.length)]) (H' := [.cells [.int .i64 st.kind, .str st.a, .str st.b], .dead, .cells [.int .i64 x1, .int .i64 x2, .int .i64 x3, .int .i64 x4, encL 5 encFm ws], .row true 9 1 (vars.map encStr)]) (by simp) (by simp [List.replicate])) ?_
  rcases sv with _ | _ | ⟨i, o, l, t⟩
  · cases hA
  · refine cw_seq (go_ok (tab_h (CtN.hok ok_pEdge) (tab_cons ok_toStmt tab_nil)) ?_)
    simp [List.replicate, hvs, hw, hp, FV.av, PS.av]
    have hG : AIn (.cells [.int .i64 st.kind, .str st.a, .str st.b] :: .dead :: .cells [.int .i64 x1, .int .i64 x2, .int .i64 x3, .int .i64 x4, encL 5 encFm ws] :: .row true 9 1 (vars.map encStr) :: (N.map (shB 4) ++ [.nrow, .cells [.int .i64 x1, .int .i64 x2, .int .i64 x3, .int .i64 x4, (.sl .any 0 [])]]) : List Blk) (.sl .any 0 []) ws (R.map (4 + ·)) := by
      have := (hA.sh [.cells [.int .i64 st.kind, .str st.a, .str st.b], .dead, .cells [.int .i64 x1, .int .i64 x2, .int .i64 x3, .int .i64 x4, encL 5 encFm ws], .row true 9 1 (vars.map encStr)]).app [.nrow, .cells [.int .i64 x1, .int .i64 x2, .int .i64 x3, .int .i64 x4, (.sl .any 0 [])]]
      simpa [PS.av] using this
    have g0 : (.cells [.int .i64 st.kind, .str st.a, .str st.b] :: .dead :: .cells [.int .i64 x1, .int .i64 x2, .int .i64 x3, .int .i64 x4, encL 5 encFm ws] :: .row true 9 1 (vars.map encStr) :: (N.map (shB 4) ++ [.nrow, .cells [.int .i64 x1, .int .i64 x2, .int .i64 x3, .int .i64 x4, (.sl .any 0 [])]]) : List Blk)[0]? = some (.cells [.int .i64 st.kind, .str st.a, .str st.b]) := rfl
    have g2 : (.cells [.int .i64 st.kind, .str st.a, .str st.b] :: .dead :: .cells [.int .i64 x1, .int .i64 x2, .int .i64 x3, .int .i64 x4, encL 5 encFm ws] :: .row true 9 1 (vars.map encStr) :: (N.map (shB 4) ++ [.nrow, .cells [.int .i64 x1, .int .i64 x2, .int .i64 x3, .int .i64 x4, (.sl .any 0 [])]]) : List Blk)[2]? = some (.cells [.int .i64 x1, .int .i64 x2, .int .i64 x3, .int .i64 x4, encL 5 encFm ws]) := rfl
    have g3 : (.cells [.int .i64 st.kind, .str st.a, .str st.b] :: .dead :: .cells [.int .i64 x1, .int .i64 x2, .int .i64 x3, .int .i64 x4, encL 5 encFm ws] :: .row true 9 1 (vars.map encStr) :: (N.map (shB 4) ++ [.nrow, .cells [.int .i64 x1, .int .i64 x2, .int .i64 x3, .int .i64 x4, (.sl .any 0 [])]]) : List Blk)[3]? = some (.row true 9 1 (vars.map encStr)) := rfl
    have gP : (.cells [.int .i64 st.kind, .str st.a, .str st.b] :: .dead :: .cells [.int .i64 x1, .int .i64 x2, .int .i64 x3, .int .i64 x4, encL 5 encFm ws] :: .row true 9 1 (vars.map encStr) :: (N.map (shB 4) ++ [.nrow, .cells [.int .i64 x1, .int .i64 x2, .int .i64 x3, .int .i64 x4, (.sl .any 0 [])]]) : List Blk)[N.length + 1 + 1 + 1 + 1 + 1]? = some (.cells [.int .i64 x1, .int .i64 x2, .int .i64 x3, .int .i64 x4, (.sl .any 0 [])]) := by
      rw [List.getElem?_cons_succ, List.getElem?_cons_succ, List.getElem?_cons_succ, List.getElem?_cons_succ, List.getElem?_append_right (by simp)]
      simp
    generalize (.cells [.int .i64 st.kind, .str st.a, .str st.b] :: .dead :: .cells [.int .i64 x1, .int .i64 x2, .int .i64 x3, .int .i64 x4, encL 5 encFm ws] :: .row true 9 1 (vars.map encStr) :: (N.map (shB 4) ++ [.nrow, .cells [.int .i64 x1, .int .i64 x2, .int .i64 x3, .int .i64 x4, (.sl .any 0 [])]]) : List Blk) = G at *
    generalize N.length + 1 + 1 + 1 + 1 + 1 = P at *
    generalize R.map (4 + ·) = R' at *
    have hS := hG.lend 20 z1
    refine cw_seq (go_ok hT ?_); simp [List.replicate, gP, g2, hS]
    have hX : lendC (fun _ _ => true) G 20 (.slref 3 0 vars.length vars.length) = some (encL 1 encStr vars) := by simp [lendC, g3]
    refine cw_seq (go_ok hT ?_); simp [List.replicate, hvl2, hX]
    refine cw_seq (go_ok hT ?_); simp [List.replicate]
    refine cw_seq (go_ok (tab_h (ok_markSt 9) tab_nil) ?_); simp [List.replicate, hvl2, g3]
    refine ⟨vars, rfl, hvl2, rfl, ?_⟩
    have nR : ∀ j k, G[j]? = some k → (∀ e els, k ≠ .row true e 5 els) → j ∉ R' := fun j k hk hne hj => by
      obtain ⟨els, he⟩ := hG.is5 j hj
      rw [hk] at he
      exact hne _ _ (Option.some.inj he)
    have n3 := nR 3 _ g3 (fun e els h => by simp at h)
    have nP : P ≠ 3 := fun e => by subst e; rw [g3] at gP; simp at gP
    have hG4 : AIn (G.set 3 (.row true 9 1 ((markTs 1 vars.length).map encStr))) (.sl .any 0 []) ws R' :=
      hG.congr (fun i hi => List.getElem?_set_ne (fun e => n3 (by cases e; exact hi))) (fun i hi => by rw [List.getElem?_set_ne (fun e => by subst e; rw [g3] at hi; simp at hi)]; exact hi)
    have f0 : (G.set 3 (.row true 9 1 ((markTs 1 vars.length).map encStr)))[0]? = _ := (List.getElem?_set_ne (by omega)).trans g0
    have f2 : (G.set 3 (.row true 9 1 ((markTs 1 vars.length).map encStr)))[2]? = _ := (List.getElem?_set_ne (by omega)).trans g2
    have fP : (G.set 3 (.row true 9 1 ((markTs 1 vars.length).map encStr)))[P]? = _ := (List.getElem?_set_ne (fun e => nP e.symm)).trans gP
    have m0 := nR 0 _ g0 (fun e els h => by simp at h)
    have m2 := nR 2 _ g2 (fun e els h => by simp at h)
    have mP := nR P _ gP (fun e els h => by simp at h)
    generalize G.set 3 (.row true 9 1 ((markTs 1 vars.length).map encStr)) = G4 at *
    have hS4 := hG4.lend 20 z1
    have nk : ¬ ((1 : Int) + vars.length < 0) := by omega
    refine cw_seq (go_ok hT ?_); simp [List.replicate, nk, fP, f2, hS4]
    refine cw_seq (go_ok hT ?_); simp [List.replicate]
    obtain ⟨H2, mk1, mk2, mk3, hA2⟩ := mark_good (a := x1) (b := x2) (c := x3) (d := x4) (s := .any) (H := G4) (xs := ws) (R := R') hG4 (k := 1) (by omega) (by omega)
    simp only [FV.av, PS.av] at mk1 hA2
    refine cw_seq (go_ok (tab_h (c := ⟨40, Unit, fun _ H => H = G4, fun _ => [.agg [.int .i64 x1, .int .i64 x2, .int .i64 x3, .int .i64 x4, (.sl .any 0 [])], .int .i64 1], fun _ _ => .int .i64 (1 + 4 * sizes ws), fun _ _ => H2⟩) (fun _ H e => by cases e; exact mk1) tab_nil) ?_)
    simp [List.replicate, fP]
    have u2 : H2[2]? = _ := (mk3 2 m2 (List.getElem?_eq_some_iff.1 f2).1).trans f2
    have u0 : H2[0]? = _ := (mk3 0 m0 (List.getElem?_eq_some_iff.1 f0).1).trans f0
    have uP : H2[P]? = _ := (mk3 P mP (List.getElem?_eq_some_iff.1 fP).1).trans fP
    have hS2 := hA2.lend 20 (by rw [deps_mkd]; exact z1)
    have hh := heldS_mkd ws 1 (by omega)
    have hz := mkdS_size ws 1
    have hb : (1 : Int) + 4 * sizes ws ≤ 1099511627776 := by omega
    have nq : ¬ ((1 : Int) + 4 * sizes ws < 0) := by omega
    refine cw_seq (go_ok hT ?_); simp [List.replicate]
    refine cw_seq (go_ok hT ?_); simp [List.replicate, uP, hS2, hz, hb, hh]
    refine cw_seq (go_ok hT ?_); simp [List.replicate, nq]
    refine cw_seq (go_ok hT ?_); simp [List.replicate]
    have u0L : ∀ L : List Blk, (H2 ++ L)[0]? = some (.cells [.int .i64 st.kind, .str st.a, .str st.b]) := fun L => (List.getElem?_append_left (List.getElem?_eq_some_iff.1 u0).1).trans u0
    refine cw_seq (go_ok hT ?_); simp [List.replicate, u0L, hvl2, hvs, hw, isH]
    have hA3 := hA2.app [Blk.nrow, Blk.cells [.int .i64 x1, .int .i64 x2, .int .i64 x3, .int .i64 x4, encL 5 encFm ws]]
    have t2 : (H2 ++ [Blk.nrow, Blk.cells [.int .i64 x1, .int .i64 x2, .int .i64 x3, .int .i64 x4, encL 5 encFm ws]])[2]? = _ := (List.getElem?_append_left (List.getElem?_eq_some_iff.1 u2).1).trans u2
    have tP : (H2 ++ [Blk.nrow, Blk.cells [.int .i64 x1, .int .i64 x2, .int .i64 x3, .int .i64 x4, encL 5 encFm ws]])[P]? = _ := (List.getElem?_append_left (List.getElem?_eq_some_iff.1 uP).1).trans uP
    have t6 : (H2 ++ [Blk.nrow, Blk.cells [.int .i64 x1, .int .i64 x2, .int .i64 x3, .int .i64 x4, encL 5 encFm ws]])[H2.length + 1]? = some (.cells [.int .i64 x1, .int .i64 x2, .int .i64 x3, .int .i64 x4, encL 5 encFm ws]) := by rw [getHk]; rfl
    generalize (H2 ++ [Blk.nrow, Blk.cells [.int .i64 x1, .int .i64 x2, .int .i64 x3, .int .i64 x4, encL 5 encFm ws]]) = H3 at *
    generalize H2.length + 1 = P6 at *
    have hS3 := hA3.lend 20 (by rw [deps_mkd]; exact z1)
    refine cw_seq (go_ok hT ?_); simp [List.replicate, t2, t6]
    refine cw_seq (go_ok hT ?_); simp [List.replicate]
    refine cw_seq (go_ok hT ?_); simp [List.replicate, tP, hS3, hz, hb, hh]
    refine cw_seq (go_ok hT ?_); simp [List.replicate, nq]
    refine cw_seq (go_ok hT ?_); simp [List.replicate]
    refine go_ok hT ?_; simp [List.replicate]
  · refine cw_seq (go_ok (tab_h (CtN.hok ok_pEdge) (tab_cons ok_toStmt tab_nil)) ?_)
    simp [List.replicate, hvs, hw, hp, FV.av, PS.av]
    have hG : AIn (.cells [.int .i64 st.kind, .str st.a, .str st.b] :: .dead :: .cells [.int .i64 x1, .int .i64 x2, .int .i64 x3, .int .i64 x4, encL 5 encFm ws] :: .row true 9 1 (vars.map encStr) :: (N.map (shB 4) ++ [.nrow, .cells [.int .i64 x1, .int .i64 x2, .int .i64 x3, .int .i64 x4, (.slref (4 + i) o l t)]]) : List Blk) (.slref (4 + i) o l t) ws (R.map (4 + ·)) := by
      have := (hA.sh [.cells [.int .i64 st.kind, .str st.a, .str st.b], .dead, .cells [.int .i64 x1, .int .i64 x2, .int .i64 x3, .int .i64 x4, encL 5 encFm ws], .row true 9 1 (vars.map encStr)]).app [.nrow, .cells [.int .i64 x1, .int .i64 x2, .int .i64 x3, .int .i64 x4, (.slref (4 + i) o l t)]]
      simpa [PS.av] using this
    have g0 : (.cells [.int .i64 st.kind, .str st.a, .str st.b] :: .dead :: .cells [.int .i64 x1, .int .i64 x2, .int .i64 x3, .int .i64 x4, encL 5 encFm ws] :: .row true 9 1 (vars.map encStr) :: (N.map (shB 4) ++ [.nrow, .cells [.int .i64 x1, .int .i64 x2, .int .i64 x3, .int .i64 x4, (.slref (4 + i) o l t)]]) : List Blk)[0]? = some (.cells [.int .i64 st.kind, .str st.a, .str st.b]) := rfl
    have g2 : (.cells [.int .i64 st.kind, .str st.a, .str st.b] :: .dead :: .cells [.int .i64 x1, .int .i64 x2, .int .i64 x3, .int .i64 x4, encL 5 encFm ws] :: .row true 9 1 (vars.map encStr) :: (N.map (shB 4) ++ [.nrow, .cells [.int .i64 x1, .int .i64 x2, .int .i64 x3, .int .i64 x4, (.slref (4 + i) o l t)]]) : List Blk)[2]? = some (.cells [.int .i64 x1, .int .i64 x2, .int .i64 x3, .int .i64 x4, encL 5 encFm ws]) := rfl
    have g3 : (.cells [.int .i64 st.kind, .str st.a, .str st.b] :: .dead :: .cells [.int .i64 x1, .int .i64 x2, .int .i64 x3, .int .i64 x4, encL 5 encFm ws] :: .row true 9 1 (vars.map encStr) :: (N.map (shB 4) ++ [.nrow, .cells [.int .i64 x1, .int .i64 x2, .int .i64 x3, .int .i64 x4, (.slref (4 + i) o l t)]]) : List Blk)[3]? = some (.row true 9 1 (vars.map encStr)) := rfl
    have gP : (.cells [.int .i64 st.kind, .str st.a, .str st.b] :: .dead :: .cells [.int .i64 x1, .int .i64 x2, .int .i64 x3, .int .i64 x4, encL 5 encFm ws] :: .row true 9 1 (vars.map encStr) :: (N.map (shB 4) ++ [.nrow, .cells [.int .i64 x1, .int .i64 x2, .int .i64 x3, .int .i64 x4, (.slref (4 + i) o l t)]]) : List Blk)[N.length + 1 + 1 + 1 + 1 + 1]? = some (.cells [.int .i64 x1, .int .i64 x2, .int .i64 x3, .int .i64 x4, (.slref (4 + i) o l t)]) := by
      rw [List.getElem?_cons_succ, List.getElem?_cons_succ, List.getElem?_cons_succ, List.getElem?_cons_succ, List.getElem?_append_right (by simp)]
      simp
    generalize (.cells [.int .i64 st.kind, .str st.a, .str st.b] :: .dead :: .cells [.int .i64 x1, .int .i64 x2, .int .i64 x3, .int .i64 x4, encL 5 encFm ws] :: .row true 9 1 (vars.map encStr) :: (N.map (shB 4) ++ [.nrow, .cells [.int .i64 x1, .int .i64 x2, .int .i64 x3, .int .i64 x4, (.slref (4 + i) o l t)]]) : List Blk) = G at *
    generalize N.length + 1 + 1 + 1 + 1 + 1 = P at *
    generalize R.map (4 + ·) = R' at *
    have hS := hG.lend 20 z1
    refine cw_seq (go_ok hT ?_); simp [List.replicate, gP, g2, hS]
    have hX : lendC (fun _ _ => true) G 20 (.slref 3 0 vars.length vars.length) = some (encL 1 encStr vars) := by simp [lendC, g3]
    refine cw_seq (go_ok hT ?_); simp [List.replicate, hvl2, hX]
    refine cw_seq (go_ok hT ?_); simp [List.replicate]
    refine cw_seq (go_ok (tab_h (ok_markSt 9) tab_nil) ?_); simp [List.replicate, hvl2, g3]
    refine ⟨vars, rfl, hvl2, rfl, ?_⟩
    have nR : ∀ j k, G[j]? = some k → (∀ e els, k ≠ .row true e 5 els) → j ∉ R' := fun j k hk hne hj => by
      obtain ⟨els, he⟩ := hG.is5 j hj
      rw [hk] at he
      exact hne _ _ (Option.some.inj he)
    have n3 := nR 3 _ g3 (fun e els h => by simp at h)
    have nP : P ≠ 3 := fun e => by subst e; rw [g3] at gP; simp at gP
    have hG4 : AIn (G.set 3 (.row true 9 1 ((markTs 1 vars.length).map encStr))) (.slref (4 + i) o l t) ws R' :=
      hG.congr (fun i hi => List.getElem?_set_ne (fun e => n3 (by cases e; exact hi))) (fun i hi => by rw [List.getElem?_set_ne (fun e => by subst e; rw [g3] at hi; simp at hi)]; exact hi)
    have f0 : (G.set 3 (.row true 9 1 ((markTs 1 vars.length).map encStr)))[0]? = _ := (List.getElem?_set_ne (by omega)).trans g0
    have f2 : (G.set 3 (.row true 9 1 ((markTs 1 vars.length).map encStr)))[2]? = _ := (List.getElem?_set_ne (by omega)).trans g2
    have fP : (G.set 3 (.row true 9 1 ((markTs 1 vars.length).map encStr)))[P]? = _ := (List.getElem?_set_ne (fun e => nP e.symm)).trans gP
    have m0 := nR 0 _ g0 (fun e els h => by simp at h)
    have m2 := nR 2 _ g2 (fun e els h => by simp at h)
    have mP := nR P _ gP (fun e els h => by simp at h)
    generalize G.set 3 (.row true 9 1 ((markTs 1 vars.length).map encStr)) = G4 at *
    have hS4 := hG4.lend 20 z1
    have nk : ¬ ((1 : Int) + vars.length < 0) := by omega
    refine cw_seq (go_ok hT ?_); simp [List.replicate, nk, fP, f2, hS4]
    refine cw_seq (go_ok hT ?_); simp [List.replicate]
    obtain ⟨H2, mk1, mk2, mk3, hA2⟩ := mark_good (a := x1) (b := x2) (c := x3) (d := x4) (s := (.row (4 + i) o l t)) (H := G4) (xs := ws) (R := R') hG4 (k := 1) (by omega) (by omega)
    simp only [FV.av, PS.av] at mk1 hA2
    refine cw_seq (go_ok (tab_h (c := ⟨40, Unit, fun _ H => H = G4, fun _ => [.agg [.int .i64 x1, .int .i64 x2, .int .i64 x3, .int .i64 x4, (.slref (4 + i) o l t)], .int .i64 1], fun _ _ => .int .i64 (1 + 4 * sizes ws), fun _ _ => H2⟩) (fun _ H e => by cases e; exact mk1) tab_nil) ?_)
    simp [List.replicate, fP]
    have u2 : H2[2]? = _ := (mk3 2 m2 (List.getElem?_eq_some_iff.1 f2).1).trans f2
    have u0 : H2[0]? = _ := (mk3 0 m0 (List.getElem?_eq_some_iff.1 f0).1).trans f0
    have uP : H2[P]? = _ := (mk3 P mP (List.getElem?_eq_some_iff.1 fP).1).trans fP
    have hS2 := hA2.lend 20 (by rw [deps_mkd]; exact z1)
    have hh := heldS_mkd ws 1 (by omega)
    have hz := mkdS_size ws 1
    have hb : (1 : Int) + 4 * sizes ws ≤ 1099511627776 := by omega
    have nq : ¬ ((1 : Int) + 4 * sizes ws < 0) := by omega
    refine cw_seq (go_ok hT ?_); simp [List.replicate]
    refine cw_seq (go_ok hT ?_); simp [List.replicate, uP, hS2, hz, hb, hh]
    refine cw_seq (go_ok hT ?_); simp [List.replicate, nq]
    refine cw_seq (go_ok hT ?_); simp [List.replicate]
    have u0L : ∀ L : List Blk, (H2 ++ L)[0]? = some (.cells [.int .i64 st.kind, .str st.a, .str st.b]) := fun L => (List.getElem?_append_left (List.getElem?_eq_some_iff.1 u0).1).trans u0
    refine cw_seq (go_ok hT ?_); simp [List.replicate, u0L, hvl2, hvs, hw, isH]
    have hA3 := hA2.app [Blk.nrow, Blk.cells [.int .i64 x1, .int .i64 x2, .int .i64 x3, .int .i64 x4, encL 5 encFm ws]]
    have t2 : (H2 ++ [Blk.nrow, Blk.cells [.int .i64 x1, .int .i64 x2, .int .i64 x3, .int .i64 x4, encL 5 encFm ws]])[2]? = _ := (List.getElem?_append_left (List.getElem?_eq_some_iff.1 u2).1).trans u2
    have tP : (H2 ++ [Blk.nrow, Blk.cells [.int .i64 x1, .int .i64 x2, .int .i64 x3, .int .i64 x4, encL 5 encFm ws]])[P]? = _ := (List.getElem?_append_left (List.getElem?_eq_some_iff.1 uP).1).trans uP
    have t6 : (H2 ++ [Blk.nrow, Blk.cells [.int .i64 x1, .int .i64 x2, .int .i64 x3, .int .i64 x4, encL 5 encFm ws]])[H2.length + 1]? = some (.cells [.int .i64 x1, .int .i64 x2, .int .i64 x3, .int .i64 x4, encL 5 encFm ws]) := by rw [getHk]; rfl
    generalize (H2 ++ [Blk.nrow, Blk.cells [.int .i64 x1, .int .i64 x2, .int .i64 x3, .int .i64 x4, encL 5 encFm ws]]) = H3 at *
    generalize H2.length + 1 = P6 at *
    have hS3 := hA3.lend 20 (by rw [deps_mkd]; exact z1)
    refine cw_seq (go_ok hT ?_); simp [List.replicate, t2, t6]
    refine cw_seq (go_ok hT ?_); simp [List.replicate]
    refine cw_seq (go_ok hT ?_); simp [List.replicate, tP, hS3, hz, hb, hh]
    refine cw_seq (go_ok hT ?_); simp [List.replicate, nq]
    refine cw_seq (go_ok hT ?_); simp [List.replicate]
    refine go_ok hT ?_; simp [List.replicate]
end Go.Vm

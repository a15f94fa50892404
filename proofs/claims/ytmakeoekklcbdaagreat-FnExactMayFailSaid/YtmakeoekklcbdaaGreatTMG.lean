/- The formulas of faults: the functions. No condition. -/
import Derived.Test.YtmakeoekklcbdaaGreatTMF
set_option linter.unusedSimpArgs false
set_option linter.unusedVariables false
namespace Go.Vm
open Go.Proofs
@[simp] def ct_faultF : Ct := ⟨31, List (List UInt8) × Stmt, fun x => x.1.length ≤ 4, fun x => [encL 1 encStr x.1, encStmt x.2], fun x => .tup [encFm (faultF x.1 x.2), .int .i64 (faultC x.2.kind), .bool (faultB x.2.kind)]⟩
set_option maxHeartbeats 4000000 in
set_option maxRecDepth 100000 in
theorem ok_faultF : ct_faultF.Ok Tryz.prog := by
  rintro ⟨vars, ⟨k, sa, sb⟩⟩ hv
  change vars.length ≤ 4 at hv
  have hT : TabOk Tryz.prog _ := tab_cons ok_pIndexOf (tab_cons ok_onP (tab_cons ok_fromP (tab_cons ok_nextP (tab_cons ok_fmAndP (tab_cons ok_fmSomeP (tab_cons ok_fmOrP (tab_cons ok_joined tab_nil)))))))
  refine Ok.of_cw fok_impl_faultFormula ?_
  simp only [code_impl_faultFormula, frame, List.length_cons, List.length_nil, List.replicate, Nat.reduceSub, Nat.reduceAdd, List.cons_append, List.nil_append]
  refine cw_seq (go_ok hT ?_)
  simp
  refine cw_seq (go_ok hT ?_)
  simp
  by_cases k7 : k = 7
  · subst k7
    refine cw_seq (go_ok hT ?_)
    simp [faultF, faultC, faultB, linkF, -encFm_mk]
    exact encFm_eq _
  by_cases k8 : k = 8
  case neg =>
    refine cw_seq (go_ok hT ?_)
    simp [k7, k8]
    refine go_ok hT ?_
    simp [faultF, faultC, faultB, k7, k8]
  subst k8
  have hF : faultF vars ⟨8, sa, sb⟩ = freeF (ixS vars sa) vars.length := by simp [faultF]
  have hC : faultC 8 = 5 := by simp [faultC]
  have hB : faultB 8 = true := by simp [faultB]
  change CW _ _ _ (retP _ (.tup [encFm (faultF vars ⟨8, sa, sb⟩), .int .i64 (faultC 8), .bool (faultB 8)])) _
  rw [hF, hC, hB]
  generalize ixS vars sa = a
  generalize ixS vars sb = b
  refine cw_seq ?_
  refine cw_seq (go_ok hT ?_)
  simp
  refine cw_block ?_
  refine cw_seq (go_ok hT ?_)
  simp
  refine cw_cond (b := false) rfl (fun h => by cases h) (fun _ => ?_)
  refine cw_seq (go_ok hT ?_)
  simp
  refine cw_cond (b := true) rfl (fun _ => ?_) (fun h => by cases h)
  refine cw_seq (go_ok hT ?_)
  simp
  refine cw_cut_weak (α := Unit) (fun _ => ⟨slots 62 [(4, .pbox 2 0), (7, .int .i64 a), (9, encL 5 encFm (restTo a vars.length))], [.dead, .nrow, .cells [.int .i64 0, .int .i64 0, .int .i64 0, .int .i64 0, .slref 1 0 0 0]]⟩) (fun _ => True) (go_ok hT ?_) ?_
  · simp
    refine cw_round (fun (p : Nat) => ⟨slots 62 [(4, .pbox 2 0), (7, .int .i64 a), (9, .slref 3 0 (restTo a p).length (restTo a p).length), (34, .int .i64 vars.length), (35, .int .i64 p)], [.dead, .nrow, .cells [.int .i64 0, .int .i64 0, .int .i64 0, .int .i64 0, .slref 1 0 0 0], .row true 52 5 ((restTo a p).map encFm)]⟩)
      (fun p => p ≤ vars.length) (fun p => vars.length - p) 0 (by simp) ?_ ?_
    · refine weak_seal 4 (by simp) ?_ ?_
      · simp [restTo]
      · simp [List.replicate, restTo]
    rintro N hN p hp
    have hw : IntKind.i64.wrap ((p : Int) + 1) = ((p + 1 : Nat) : Int) := by rw [wrap_i64] <;> omega
    have hl := restTo_len a p
    have hby : ((restTo a p).length + 1) * 56 ≤ 140737488355328 := by omega
    refine go_ok hT ?_
    by_cases g : p < vars.length
    · have g2 : ¬ vars.length ≤ p := by omega
      by_cases ha : (p : Int) = a
      · have hm := restTo_hit ha
        subst ha
        simp [List.replicate, hw, g, g2]
        refine hN p (p + 1) _ (by omega) (by omega) (weak_seal 4 (by simp) ?_ ?_)
        · rw [hm]; simp
        · rw [hm]; simp [List.replicate]
      · simp [List.replicate, hw, g, g2, ha, hby, app1, -encFm_mk]
        have hm := restTo_miss ha
        have htk : List.take (restTo a p).length (List.map encFm (restTo a p)) = List.map encFm (restTo a p) := List.take_of_length_le (by simp)
        refine hN p (p + 1) _ (by omega) (by omega) (weak_seal 4 (by simp) ?_ ?_)
        · rw [hm]; simp [htk, varF]
        · rw [hm]; simp [List.replicate, varF]
    · have e : p = vars.length := by omega
      subst e
      simp [List.replicate]
      refine weak_seal 3 (by simp) ?_ ?_
      · simp
      · simp [List.replicate]
  intro _ _
  generalize hL : restTo a vars.length = L
  have hLl : L.length ≤ 1048576 := by have := restTo_len a vars.length; rw [hL] at this; omega
  have hLF : freeF a vars.length = .mk 11 0 0 0 [.mk 9 0 0 0 [.mk 2 a 0 0 [], othersF L]] := by unfold freeF; rw [hL]
  rw [hLF]
  refine cw_seq (go_ok hT ?_)
  simp [List.replicate, -encFm_mk]
  refine cw_seq (go_ok hT ?_)
  by_cases hn : L = []
  · subst hn
    simp [-encFm_mk]
    refine go_ok hT ?_
    simp [-encFm_mk, othersF, intoF]
    exact encFm_eq _
  · have hpos : 0 < L.length := List.length_pos_iff.2 hn
    have hne : ¬ L.length = 0 := by omega
    simp [hpos, hn, hLl, hne, -encFm_mk]
    refine go_ok hT ?_
    simp [-encFm_mk, othersF, hn, orF, intoF]
    exact encFm_eq _
@[simp] def ct_l22Bad : Ct := ⟨25, List (List UInt8) × Stmt, fun x => x.1.length ≤ 4, fun x => [encL 1 encStr x.1, encStmt x.2], fun x => .tup [encFm (faultF x.1 x.2), .int .i64 (faultC x.2.kind)]⟩
set_option maxHeartbeats 4000000 in
set_option maxRecDepth 100000 in
theorem ok_l22Bad : ct_l22Bad.Ok Tryz.prog := by
  rintro ⟨vars, ⟨k, sa, sb⟩⟩ hv
  change vars.length ≤ 4 at hv
  have hT : TabOk Tryz.prog _ := tab_cons ok_sIndexOf (tab_cons ok_l14Var (tab_cons ok_l14Reach (tab_cons ok_l14Next (tab_cons ok_l14And (tab_cons ok_l14Some (tab_cons ok_l14Or tab_nil))))))
  refine Ok.of_cw fok_spec_l22Bad ?_
  simp only [code_spec_l22Bad, frame, List.length_cons, List.length_nil, List.replicate, Nat.reduceSub, Nat.reduceAdd, List.cons_append, List.nil_append]
  refine cw_seq (go_ok hT ?_)
  simp
  refine cw_seq (go_ok hT ?_)
  simp
  by_cases k7 : k = 7
  · subst k7
    refine cw_seq (go_ok hT ?_)
    simp [faultF, faultC, linkF, -encFm_mk, size_mk, sizes_cons, sizes_nil]
    exact encFm_eq _
  by_cases k8 : k = 8
  case neg =>
    refine cw_seq (go_ok hT ?_)
    simp [k7, k8]
    refine go_ok hT ?_
    simp [faultF, faultC, k7, k8]
  subst k8
  have hF : faultF vars ⟨8, sa, sb⟩ = freeF (ixS vars sa) vars.length := by simp [faultF]
  have hC : faultC 8 = 5 := by simp [faultC]
  change CW _ _ _ (retP _ (.tup [encFm (faultF vars ⟨8, sa, sb⟩), .int .i64 (faultC 8)])) _
  rw [hF, hC]
  generalize ixS vars sa = a
  refine cw_seq ?_
  refine cw_seq (go_ok hT ?_)
  simp
  refine cw_block ?_
  refine cw_seq (go_ok hT ?_)
  simp
  refine cw_cond (b := false) rfl (fun h => by cases h) (fun _ => ?_)
  refine cw_seq (go_ok hT ?_)
  simp
  refine cw_cond (b := true) rfl (fun _ => ?_) (fun h => by cases h)
  refine cw_seq (go_ok hT ?_)
  simp [-encFm_mk, size_mk, sizes_cons, sizes_nil]
  refine cw_seq (go_ok hT ?_)
  simp
  refine cw_cut_weak (α := Unit) (fun _ => ⟨slots 62 [(4, .pbox 2 0), (6, .int .i64 a), (7, .pbox 4 0), (8, .pbox 6 0)], [.dead, .nrow, .cells [.int .i64 0, .int .i64 0, .int .i64 0, .int .i64 0, .slref 1 0 0 0], .dead, .cells [.int .i64 11, .int .i64 0, .int .i64 1, .int .i64 0, encL 5 encFm [.mk 5 0 1 0 []]], .dead,
    .cells [.int .i64 (joinL (restTo a vars.length)).kind, .int .i64 (joinL (restTo a vars.length)).k, .int .i64 (joinL (restTo a vars.length)).u, .int .i64 (joinL (restTo a vars.length)).v, encL 5 encFm (joinL (restTo a vars.length)).args]]⟩) (fun _ => True) (go_ok hT ?_) ?_
  · simp
    refine cw_round (fun (p : Nat) => ⟨slots 62 [(0, encL 1 encStr vars), (4, .pbox 2 0), (6, .int .i64 a), (7, .pbox 4 0), (8, .pbox 6 0), (9, .int .i64 p)], [.dead, .nrow, .cells [.int .i64 0, .int .i64 0, .int .i64 0, .int .i64 0, .slref 1 0 0 0], .dead, .cells [.int .i64 11, .int .i64 0, .int .i64 1, .int .i64 0, encL 5 encFm [.mk 5 0 1 0 []]], .dead,
    .cells [.int .i64 (joinL (restTo a p)).kind, .int .i64 (joinL (restTo a p)).k, .int .i64 (joinL (restTo a p)).u, .int .i64 (joinL (restTo a p)).v, encL 5 encFm (joinL (restTo a p)).args]]⟩)
      (fun p => p ≤ vars.length) (fun p => vars.length - p) 0 (by simp) ?_ ?_
    · refine weak_seal 7 (by simp) ?_ ?_
      · simp [restTo, joinL]
      · simp [List.replicate]
    rintro N hN p hp
    have hw : IntKind.i64.wrap ((p : Int) + 1) = ((p + 1 : Nat) : Int) := by rw [wrap_i64] <;> omega
    have hl := restTo_len a p
    have hsz := joinL_size _ _ (Nat.le_refl (restTo a p).length) restTo_var
    have hsz2 : (joinL (restTo a p)).size ≤ 1048576 := by omega
    refine go_ok hT ?_
    by_cases g : p < vars.length
    · have g2 : ¬ vars.length ≤ p := by omega
      by_cases ha : (p : Int) = a
      · have hm := restTo_hit ha
        subst ha
        simp [List.replicate, hw, g, g2]
        refine hN p (p + 1) _ (by omega) (by omega) (weak_seal 7 (by simp) ?_ ?_)
        · rw [hm]; simp
        · simp [List.replicate]
      · have hm := restTo_miss ha
        by_cases hn : restTo a p = []
        · rw [hn] at hm
          simp [List.replicate, hw, g, g2, ha, hn, joinL]
          refine hN p (p + 1) _ (by omega) (by omega) (weak_seal 7 (by simp) ?_ ?_)
          · rw [hm]; simp [joinL, varF]
          · simp [List.replicate]
        · have hk := joinL_kind hn restTo_var
          have hk0 : ¬ (joinL (restTo a p)).kind = 0 := by omega
          have hj := joinL_snoc hn (varF p)
          rw [← hm] at hj
          simp [List.replicate, hw, g, g2, ha, hk0, -encFm_mk, hsz2, size_mk, sizes_nil]
          refine hN p (p + 1) _ (by omega) (by omega) (weak_seal 7 (by simp) ?_ ?_)
          · rw [hj]; simp [orF, varF]
          · simp [List.replicate]
    · have e : p = vars.length := by omega
      subst e
      simp [List.replicate]
      refine weak_seal 7 (by simp) ?_ ?_
      · simp
      · simp [List.replicate]
  intro _ _
  have hl := restTo_len a vars.length
  have hsz := joinL_size _ _ (Nat.le_refl (restTo a vars.length).length) restTo_var
  generalize hL : restTo a vars.length = L at *
  have hsz2 : (joinL L).size ≤ 1048576 := by omega
  have hLF : freeF a vars.length = .mk 11 0 0 0 [.mk 9 0 0 0 [.mk 2 a 0 0 [], othersF L]] := by unfold freeF; rw [hL]
  rw [hLF]
  refine cw_seq (go_ok hT ?_)
  by_cases hn : L = []
  · subst hn
    simp [List.replicate, joinL]
    refine go_ok hT ?_
    simp [-encFm_mk, othersF, intoF, size_mk, sizes_cons, sizes_nil]
    try exact encFm_eq _
  · have hk : (joinL L).kind = 2 ∨ (joinL L).kind = 10 := joinL_kind hn (by rw [← hL]; exact restTo_var)
    have hk0 : ¬ (joinL L).kind = 0 := by omega
    have hs3 : 1 + ((joinL L).size + (1 + 1)) ≤ 1048576 := by omega
    have hs4 : 1 + (1 + (1 + ((joinL L).size + (1 + 1)))) ≤ 1048576 := by omega
    simp [List.replicate, hk0, -encFm_mk, hsz2]
    refine ⟨by simp [Fm.size, sizes], ?_⟩
    refine go_ok hT ?_
    simp [-encFm_mk, othersF, hn, orF, intoF, size_mk, sizes_cons, sizes_nil]
    exact ⟨by omega, by omega, encFm_eq _⟩
end Go.Vm

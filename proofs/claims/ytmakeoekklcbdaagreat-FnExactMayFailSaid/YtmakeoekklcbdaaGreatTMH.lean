/- MayFail: both. No condition. -/
import Derived.Test.YtmakeoekklcbdaaGreatTMG
import Derived.Test.YtmakeoekklcbdaaGreatTMX
set_option linter.unusedSimpArgs false
set_option linter.unusedVariables false
namespace Go.Vm
open Go.Proofs
def code_impl_MayFail : F := ⟨53, [.tmp 6],
 .seq (.reg [⟨some 4, .box (.t 1), none⟩,
    ⟨some 5, .box (.t 2), none⟩,
    ⟨some 6, .mov (.k (.sl .nil 0 [])), none⟩])
 (.seq (.seq (.reg [⟨some 13, .mov (.t 0), none⟩,
      ⟨some 14, .load 3 true (.t 4), none⟩,
      ⟨some 15, .call 28 [(.t 13), (.t 14)], none⟩,
      ⟨some 16, .not (.t 15), none⟩])
   (.cond (.t 16)
    (.seq (.reg [⟨some 6, .mov (.k (.sl .nil 0 [])), none⟩])
     (.ret))
    (.skip)))
  (.seq (.reg [⟨some 17, .bsl 3 1 0 (.int .i64 0) [], none⟩,
      ⟨some 7, .mov (.t 17), none⟩])
   (.seq (.seq (.reg [⟨some 19, .mov (.t 0), none⟩,
        ⟨some 20, .load 3 true (.t 4), none⟩,
        ⟨some 21, .call 29 [(.t 19), (.t 20)], none⟩,
        ⟨some 18, .mov (.t 21), none⟩,
        ⟨some 22, .extr (.t 18) 0, none⟩,
        ⟨some 23, .extr (.t 18) 1, none⟩,
        ⟨some 8, .alloc [(.int .i64 0), (.int .i64 0), (.int .i64 0), (.int .i64 0), (.sl .nil 0 [])], none⟩,
        ⟨none, .store 5 (.t 8) (.t 22), none⟩,
        ⟨some 9, .mov (.t 23), none⟩])
     (.seq (.reg [⟨some 24, .mov (.t 9), none⟩,
         ⟨some 25, .mov (.t 24), none⟩,
         ⟨some 26, .load 2 true (.t 5), some (25, true)⟩,
         ⟨some 27, .load 5 true (.t 8), some (25, true)⟩,
         ⟨some 28, .call 30 [(.t 26), (.t 27)], some (25, true)⟩,
         ⟨some 29, .bin .neq (.t 28) (.k (.int .i64 2)), some (25, true)⟩,
         ⟨some 30, .pick (.t 25) (.t 29) (.k (.bool false)), none⟩])
      (.cond (.t 30)
       (.reg [⟨some 31, .mov (.t 7), none⟩,
          ⟨some 32, .bsl 3 1 1 (.int .i64 0) [(0, (.k (.int .i64 2)))], none⟩,
          ⟨some 33, .append 3 1 8 (.t 31) (.t 32), none⟩,
          ⟨some 7, .mov (.t 33), none⟩])
       (.skip))))
    (.seq (.seq (.reg [⟨some 35, .mov (.t 0), none⟩,
         ⟨some 36, .load 3 true (.t 4), none⟩,
         ⟨some 37, .call 31 [(.t 35), (.t 36)], none⟩,
         ⟨some 34, .mov (.t 37), none⟩,
         ⟨some 38, .extr (.t 34) 0, none⟩,
         ⟨some 39, .extr (.t 34) 1, none⟩,
         ⟨some 40, .extr (.t 34) 2, none⟩,
         ⟨some 10, .alloc [(.int .i64 0), (.int .i64 0), (.int .i64 0), (.int .i64 0), (.sl .nil 0 [])], none⟩,
         ⟨none, .store 5 (.t 10) (.t 38), none⟩,
         ⟨some 11, .mov (.t 39), none⟩,
         ⟨some 12, .mov (.t 40), none⟩])
      (.seq (.reg [⟨some 41, .mov (.t 12), none⟩,
          ⟨some 42, .mov (.t 41), none⟩,
          ⟨some 43, .load 2 true (.t 5), some (42, true)⟩,
          ⟨some 44, .load 5 true (.t 10), some (42, true)⟩,
          ⟨some 45, .call 30 [(.t 43), (.t 44)], some (42, true)⟩,
          ⟨some 46, .bin .neq (.t 45) (.k (.int .i64 0)), some (42, true)⟩,
          ⟨some 47, .pick (.t 42) (.t 46) (.k (.bool false)), none⟩])
       (.cond (.t 47)
        (.reg [⟨some 48, .mov (.t 7), none⟩,
           ⟨some 49, .mov (.t 11), none⟩,
           ⟨some 50, .bsl 3 1 1 (.int .i64 0) [(0, (.t 49))], none⟩,
           ⟨some 51, .append 3 1 8 (.t 48) (.t 50), none⟩,
           ⟨some 7, .mov (.t 51), none⟩])
        (.skip))))
     (.seq (.reg [⟨some 52, .mov (.t 7), none⟩,
         ⟨some 6, .mov (.t 52), none⟩])
      (.ret))))))⟩
theorem fok_impl_MayFail : FOk Tryz.prog 11 code_impl_MayFail := fok Tryz.func11 (by kernel_rfl)
def code_spec_MayFail : F := ⟨51, [.tmp 6],
 .seq (.reg [⟨some 4, .box (.t 1), none⟩,
    ⟨some 5, .box (.t 2), none⟩,
    ⟨some 6, .mov (.k (.sl .nil 0 [])), none⟩])
 (.seq (.reg [⟨some 11, .bsl 3 1 0 (.int .i64 0) [], none⟩,
     ⟨some 7, .mov (.t 11), none⟩])
  (.seq (.seq (.reg [⟨some 12, .mov (.t 0), none⟩,
       ⟨some 13, .load 3 true (.t 4), none⟩,
       ⟨some 14, .call 21 [(.t 12), (.t 13)], none⟩,
       ⟨some 15, .not (.t 14), none⟩])
    (.cond (.t 15)
     (.seq (.reg [⟨some 16, .mov (.t 7), none⟩,
         ⟨some 6, .mov (.t 16), none⟩])
      (.ret))
     (.skip)))
   (.seq (.reg [⟨some 17, .mov (.t 0), none⟩,
       ⟨some 18, .load 3 true (.t 4), none⟩,
       ⟨some 19, .call 22 [(.t 17), (.t 18)], none⟩,
       ⟨some 8, .mov (.t 19), none⟩])
    (.seq (.seq (.dreg [true, true, true, false, false, false, true, true, true] [⟨some 20, .mov (.t 8), none⟩,
         ⟨some 21, .bin .geq (.t 20) (.k (.int .i64 0)), none⟩,
         ⟨some 22, .mov (.t 21), none⟩,
         ⟨some 23, .load 2 true (.t 5), some (22, true)⟩,
         ⟨some 24, .mov (.t 8), some (22, true)⟩,
         ⟨some 25, .call 24 [(.t 24)], some (22, true)⟩,
         ⟨some 26, .call 23 [(.t 23), (.t 25)], some (22, true)⟩,
         ⟨some 27, .bin .neq (.t 26) (.k (.int .i64 2)), some (22, true)⟩,
         ⟨some 28, .pick (.t 22) (.t 27) (.k (.bool false)), none⟩])
      (.cond (.t 28)
       (.reg [⟨some 29, .mov (.t 7), none⟩,
          ⟨some 30, .bsl 3 1 1 (.int .i64 0) [(0, (.k (.int .i64 2)))], none⟩,
          ⟨some 31, .append 3 1 8 (.t 29) (.t 30), none⟩,
          ⟨some 7, .mov (.t 31), none⟩])
       (.skip)))
     (.seq (.reg [⟨some 33, .mov (.t 0), none⟩,
         ⟨some 34, .load 3 true (.t 4), none⟩,
         ⟨some 35, .call 25 [(.t 33), (.t 34)], none⟩,
         ⟨some 32, .mov (.t 35), none⟩,
         ⟨some 36, .extr (.t 32) 0, none⟩,
         ⟨some 37, .extr (.t 32) 1, none⟩,
         ⟨some 9, .alloc [(.int .i64 0), (.int .i64 0), (.int .i64 0), (.int .i64 0), (.sl .nil 0 [])], none⟩,
         ⟨none, .store 5 (.t 9) (.t 36), none⟩,
         ⟨some 10, .mov (.t 37), none⟩])
      (.seq (.seq (.reg [⟨some 38, .mov (.t 10), none⟩,
           ⟨some 39, .bin .neq (.t 38) (.k (.int .i64 0)), none⟩,
           ⟨some 40, .mov (.t 39), none⟩,
           ⟨some 41, .load 2 true (.t 5), some (40, true)⟩,
           ⟨some 42, .load 5 true (.t 9), some (40, true)⟩,
           ⟨some 43, .call 23 [(.t 41), (.t 42)], some (40, true)⟩,
           ⟨some 44, .bin .neq (.t 43) (.k (.int .i64 0)), some (40, true)⟩,
           ⟨some 45, .pick (.t 40) (.t 44) (.k (.bool false)), none⟩])
        (.cond (.t 45)
         (.reg [⟨some 46, .mov (.t 7), none⟩,
            ⟨some 47, .mov (.t 10), none⟩,
            ⟨some 48, .bsl 3 1 1 (.int .i64 0) [(0, (.t 47))], none⟩,
            ⟨some 49, .append 3 1 8 (.t 46) (.t 48), none⟩,
            ⟨some 7, .mov (.t 49), none⟩])
         (.skip)))
       (.seq (.reg [⟨some 50, .mov (.t 7), none⟩,
           ⟨some 6, .mov (.t 50), none⟩])
        (.ret))))))))⟩
theorem fok_spec_MayFail : FOk Tryz.prog 7 code_spec_MayFail := fok Tryz.func7 (by kernel_rfl)
noncomputable def nullL (vars : List (List UInt8)) (s : Stmt) (x : Strc) : List Int := if nullB s.kind = true ∧ evalT x (someF (nullK vars s)) [] ≠ 2 then [2] else []
noncomputable def faultL (vars : List (List UInt8)) (s : Stmt) (x : Strc) : List Int := if faultB s.kind = true ∧ evalT x (faultF vars s) [] ≠ 0 then [faultC s.kind] else []
noncomputable def mayL (vars : List (List UInt8)) (s : Stmt) (x : Strc) : List Int := if stmtB vars s = true then nullL vars s x ++ faultL vars s x else []
theorem stmt_vars {vars : List (List UInt8)} {s : Stmt} (h : stmtB vars s = true) : vars.length ≤ 4 := by
  simp only [stmtB, varsB, Bool.and_eq_true, decide_eq_true_eq] at h
  omega
theorem faultC_code {k : Int} (h : faultB k = false) : faultC k = 0 := by
  simp [faultB] at h
  simp [faultC, h]
theorem faultC_code2 {k : Int} (h : faultB k = true) : faultC k ≠ 0 := by
  simp [faultB] at h
  unfold faultC
  rcases h with rfl | rfl <;> simp
@[simp] noncomputable def ct_sMayFail : Ct := ⟨7, List (List UInt8) × Stmt × Strc, fun x => szVarsOk x.1 ∧ szStrc x.2.2 ≤ 1048576, fun x => [encL 1 encStr x.1, encStmt x.2.1, encStrc x.2.2], fun x => encL 1 encInt (mayL x.1 x.2.1 x.2.2)⟩
set_option maxHeartbeats 8000000 in
set_option maxRecDepth 100000 in
theorem ok_sMayFail : ct_sMayFail.Ok Tryz.prog := by
  rintro ⟨vars, ⟨k, a, b⟩, s⟩ ⟨hv, hs⟩
  change szVarsOk vars at hv
  change szStrc s ≤ 1048576 at hs
  have hT : TabOk Tryz.prog _ := tab_cons ok_sIsStmt (tab_cons ok_l22Some (tab_cons (ok_sHolds ok_noPathS) (tab_cons ok_l22Null (tab_cons ok_l22Bad tab_nil))))
  refine Ok.of_cw fok_spec_MayFail ?_
  simp only [code_spec_MayFail, frame, List.length_cons, List.length_nil, List.replicate, Nat.reduceSub, Nat.reduceAdd, List.cons_append, List.nil_append]
  refine cw_seq (go_ok hT ?_)
  simp
  refine cw_seq (go_ok hT ?_)
  simp
  refine cw_seq (go_ok hT ?_)
  cases c : stmtB vars ⟨k, a, b⟩
  · simp [hv, c, mayL]
  have hE : mayL vars ⟨k, a, b⟩ s = nullL vars ⟨k, a, b⟩ s ++ faultL vars ⟨k, a, b⟩ s := by simp [mayL, c]
  have hv4 := stmt_vars c
  have hfp := faultF_noPath vars ⟨k, a, b⟩
  change go _ _ _ _ (thenS _ (retP _ (encL 1 encInt (mayL vars ⟨k, a, b⟩ s)))) _
  rw [hE]
  simp [hv, c]
  refine cw_seq (go_ok hT ?_)
  simp
  refine cw_cut_weak (α := Unit) (fun _ => ⟨slots 51 [(0, encL 1 encStr vars), (4, .pbox 0 0), (5, .pbox 1 0), (7, .slref 2 0 (nullL vars ⟨k, a, b⟩ s).length (nullL vars ⟨k, a, b⟩ s).length)], [.cells [.int .i64 k, .str a, .str b], .cells [encL 4 encNode s.nodes, encL 1 encInt s.next], .row true 3 1 ((nullL vars ⟨k, a, b⟩ s).map encInt)]⟩) (fun _ => True) (go_ok hT ?_) ?_
  · cases d : nullB k
    · have hn := nullK_not (vars := vars) (a := a) (b := b) d
      have hL : nullL vars ⟨k, a, b⟩ s = [] := by simp [nullL, d]
      rw [hL]
      simp [hn]
      exact weak_seal 3 (by simp) (by simp) (by simp [List.replicate])
    · have hn := stmt_null c d
      by_cases e : evalT s (someF (nullK vars ⟨k, a, b⟩)) [] = 2
      · have hL : nullL vars ⟨k, a, b⟩ s = [] := by simp [nullL, d, e]
        rw [hL]
        simp [hn, hs, e]
        exact weak_seal 3 (by simp) (by simp) (by simp [List.replicate])
      · have hL : nullL vars ⟨k, a, b⟩ s = [2] := by simp [nullL, d, e]
        rw [hL]
        simp [hn, hs, e, app1]
        exact weak_seal 3 (by simp) (by simp) (by simp [List.replicate])
  intro _ _
  generalize hl1 : nullL vars ⟨k, a, b⟩ s = l1
  have hl1l : l1.length ≤ 1 := by rw [← hl1]; unfold nullL; split <;> simp
  have hby : (l1.length + 1) * 8 ≤ 140737488355328 := by omega
  have htk : List.take l1.length (List.map encInt l1) = List.map encInt l1 := List.take_of_length_le (by simp)
  refine cw_seq (go_ok hT ?_)
  simp [List.replicate, hv4, -encFm_mk]
  refine cw_seq (go_ok hT ?_)
  cases d : faultB k
  · have hc := faultC_code d
    have hL : faultL vars ⟨k, a, b⟩ s = [] := by simp [faultL, d]
    rw [hL]
    simp [hc]
    refine go_ok hT ?_
    simp
  · have hc := faultC_code2 d
    by_cases e : evalT s (faultF vars ⟨k, a, b⟩) [] = 0
    · have hL : faultL vars ⟨k, a, b⟩ s = [] := by simp [faultL, d, e]
      rw [hL]
      simp [hc, hs, hfp, e]
      refine go_ok hT ?_
      simp
    · have hL : faultL vars ⟨k, a, b⟩ s = [faultC k] := by simp [faultL, d, e]
      rw [hL]
      have htk2 : List.take (l1.length + 1) (List.map encInt l1 ++ [AV.int .i64 (faultC k)]) = List.map encInt l1 ++ [AV.int .i64 (faultC k)] := List.take_of_length_le (by simp)
      simp [hc, hs, hfp, e, app1, hby, htk]
      refine go_ok hT ?_
      simp [htk2]
      simp [encL]
@[simp] noncomputable def ct_pMayFail : CtN := ⟨11, List (List UInt8) × Stmt × Strc, fun x => szVarsOk x.1 ∧ szStrc x.2.2 ≤ 1048576, fun x => [encL 1 encStr x.1, encStmt x.2.1, encStrc x.2.2],
  fun x => if stmtB x.1 x.2.1 = true then .slref 2 0 (mayL x.1 x.2.1 x.2.2).length (mayL x.1 x.2.1 x.2.2).length else .sl .nil 0 [],
  fun x => if stmtB x.1 x.2.1 = true then [.dead, .dead, .row true 3 1 ((mayL x.1 x.2.1 x.2.2).map encInt)] else []⟩
set_option maxHeartbeats 8000000 in
set_option maxRecDepth 100000 in
theorem ok_pMayFail : ct_pMayFail.Ok Tryz.prog := by
  refine ⟨?_, ?_, ?_⟩
  · rintro ⟨vars, ⟨k, a, b⟩, s⟩ ⟨hv, hs⟩
    change szVarsOk vars at hv
    change szStrc s ≤ 1048576 at hs
    have hT : TabOk Tryz.prog _ := tab_cons ok_pIsStmt (tab_cons (ok_pHolds ok_noPath) (tab_cons ok_nullF (tab_cons ok_faultF tab_nil)))
    refine OkH.of_cw fok_impl_MayFail ?_
    simp only [code_impl_MayFail, frame, List.length_cons, List.length_nil, List.replicate, Nat.reduceSub, Nat.reduceAdd, List.cons_append, List.nil_append]
    refine cw_seq (go_ok hT ?_)
    simp
    refine cw_seq (go_ok hT ?_)
    cases c : stmtB vars ⟨k, a, b⟩
    · simp [hv, c]
      refine ⟨⟨slots 53 [(6, .sl .nil 0 [])], []⟩, weak_seal 0 (by simp) (by simp) (by simp [List.replicate]), ?_⟩
      simp [retH, List.replicate]
    have hE : mayL vars ⟨k, a, b⟩ s = nullL vars ⟨k, a, b⟩ s ++ faultL vars ⟨k, a, b⟩ s := by simp [mayL, c]
    have hv4 := stmt_vars c
    have hfp := faultF_noPath vars ⟨k, a, b⟩
    change go _ _ _ _ (thenS _ _) _
    simp [hv, c]
    refine cw_seq (go_ok hT ?_)
    simp
    refine cw_cut_weak (α := Unit) (fun _ => ⟨slots 53 [(0, encL 1 encStr vars), (4, .pbox 0 0), (5, .pbox 1 0), (7, .slref 2 0 (nullL vars ⟨k, a, b⟩ s).length (nullL vars ⟨k, a, b⟩ s).length)], [.cells [.int .i64 k, .str a, .str b], .cells [encL 4 encNode s.nodes, encL 1 encInt s.next], .row true 3 1 ((nullL vars ⟨k, a, b⟩ s).map encInt)]⟩) (fun _ => True) (go_ok hT ?_) ?_
    · cases d : nullB k
      · have hL : nullL vars ⟨k, a, b⟩ s = [] := by simp [nullL, d]
        rw [hL]
        simp [d]
        exact weak_seal 3 (by simp) (by simp) (by simp [List.replicate])
      · by_cases e : evalT s (someF (nullK vars ⟨k, a, b⟩)) [] = 2
        · have hL : nullL vars ⟨k, a, b⟩ s = [] := by simp [nullL, d, e]
          rw [hL]
          simp [d, hs, e, -encFm_mk]
          exact weak_seal 3 (by simp) (by simp) (by simp [List.replicate])
        · have hL : nullL vars ⟨k, a, b⟩ s = [2] := by simp [nullL, d, e]
          rw [hL]
          simp [d, hs, e, app1, -encFm_mk]
          exact weak_seal 3 (by simp) (by simp) (by simp [List.replicate])
    intro _ _
    rw [hE]
    generalize hl1 : nullL vars ⟨k, a, b⟩ s = l1
    have hl1l : l1.length ≤ 1 := by rw [← hl1]; unfold nullL; split <;> simp
    have hby : (l1.length + 1) * 8 ≤ 140737488355328 := by omega
    have htk : List.take l1.length (List.map encInt l1) = List.map encInt l1 := List.take_of_length_le (by simp)
    have fin : ∀ (l : List Int) (t : List AV) (H : List Blk), All2 (SlV 3 H) t (slots 53 [(6, .slref 2 0 l.length l.length)]) → All2 (SlB 3 H) (H.take 3) [.dead, .dead, .row true 3 1 (l.map encInt)] →
        ∃ st', Weak ([] : List Blk).length ⟨t, H⟩ st' ∧ retH [.tmp 6] (.slref 2 0 l.length l.length) [.dead, .dead, .row true 3 1 (l.map encInt)] .ret st' := fun l t H ht hH =>
      ⟨_, weak_seal 3 (by simp) hH ht, by simp [retH, List.replicate]⟩
    have htkZ : ∀ x, List.take (l1.length + 1) (List.map encInt l1 ++ [AV.int .i64 x]) = List.map encInt l1 ++ [AV.int .i64 x] := fun x => List.take_of_length_le (by simp)
    refine cw_seq (go_ok hT ?_)
    cases d : faultB k
    · have hL : faultL vars ⟨k, a, b⟩ s = [] := by simp [faultL, d]
      rw [hL, List.append_nil]
      simp [List.replicate, hv4, d, -encFm_mk]
      refine go_ok hT ?_
      simp
      exact fin l1 _ _ (by simp [List.replicate]) (by simp)
    · by_cases e : evalT s (faultF vars ⟨k, a, b⟩) [] = 0
      · have hL : faultL vars ⟨k, a, b⟩ s = [] := by simp [faultL, d, e]
        rw [hL, List.append_nil]
        simp [List.replicate, hv4, d, hs, hfp, e, -encFm_mk]
        refine go_ok hT ?_
        simp
        exact fin l1 _ _ (by simp [List.replicate]) (by simp)
      · have hL : faultL vars ⟨k, a, b⟩ s = [faultC k] := by simp [faultL, d, e]
        rw [hL]
        simp [List.replicate, hv4, d, hs, hfp, e, app1, hby, htk, -encFm_mk]
        refine go_ok hT ?_
        simp
        have := fin (l1 ++ [faultC k])
        simp only [List.length_append, List.length_cons, List.length_nil, Nat.zero_add, List.map_append, List.map_cons, List.map_nil] at this
        refine this _ _ (by simp [List.replicate]) (by simp)
  · rintro ⟨vars, st, s⟩ -
    simp only [ct_pMayFail]
    split <;> simp [ownV]
  · rintro ⟨vars, st, s⟩ -
    simp only [ct_pMayFail]
    split
    · intro k hk
      simp at hk
      rcases hk with rfl | rfl
      · rfl
      · simp [ownB, ownVL_all, ownV]
    · simp
end Go.Vm

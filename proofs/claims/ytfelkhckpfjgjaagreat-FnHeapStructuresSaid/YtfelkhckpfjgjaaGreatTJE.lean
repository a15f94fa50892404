/- The law FnHeapStructures. No condition. -/
import Derived.Test.YtfelkhckpfjgjaaGreatTPT
import Derived.Test.YtfelkhckpfjgjaaGreatTJC
import Derived.Test.YtfelkhckpfjgjaaGreatTGL
import Derived.Test.YtfelkhckpfjgjaaGreatTCI
import Derived.Test.YtfelkhckpfjgjaaGreatTHQ
set_option linter.unusedSimpArgs false
set_option linter.unusedVariables false
namespace Go.Vm
open Go.Proofs
/-- impl.HeapOf, told without blocks. -/
@[simp] def ct_pHeapOfJ : Ct := ⟨9, Int × Strc, fun x => szStrc x.2 ≤ 1048576, fun x => [.int .i64 x.1, encStrc x.2], fun x => .tup [encHeap (heapOfT x.1 x.2), .bool (heapOfB x.1 x.2)]⟩
theorem hofA_geJ (v : Int) (x : Strc) : 4 ≤ hofA v x := by unfold hofA; split <;> (try split) <;> (try split) <;> omega
theorem hofN_vJ (v : Int) (x : Strc) : (hofN v x)[hofA v x]? = some (.row true 3 1 ((heapOfT v x).vars.map encInt)) := by
  have := hofA_geJ v x
  rw [hofN, List.getElem?_append_right (by simp; omega)]
  simp [show hofA v x - (hofA v x - 4 + 4) = 0 by omega]
theorem hofN_nJ (v : Int) (x : Strc) : (hofN v x)[hofA v x + 1]? = some (.row true 3 1 ((heapOfT v x).next.map encInt)) := by
  have := hofA_geJ v x
  rw [hofN, List.getElem?_append_right (by simp; omega)]
  simp [show hofA v x + 1 - (hofA v x - 4 + 4) = 1 by omega]
theorem ok_pHeapOfJ : ct_pHeapOfJ.Ok Tryz.prog := by
  rintro ⟨v, x⟩ hp
  have h0 := ok_pHeapOf.ok (v, x) hp
  rw [show ct_pHeapOf.res (v, x) = hofR v x from rfl, hofR] at h0
  refine Ok.of_okHT h0 ?_
  rw [show ct_pHeapOf.new (v, x) = hofN v x from rfl]
  simp [hofN_vJ, hofN_nJ, encHeap]
theorem sum_leJ {α : Type} {f : α → Nat} {c : Nat} : ∀ {l : List α}, (∀ x ∈ l, f x ≤ c) → (l.map f).sum ≤ l.length * c
  | [], _ => by simp
  | a :: l, h => by
    have h1 := h a (by simp)
    have h2 := sum_leJ (l := l) fun x hx => h x (by simp [hx])
    simp only [List.map_cons, List.sum_cons, List.length_cons, Nat.add_mul]
    omega
theorem strcOf_szJ (h : Heap) : szStrc (strcOf h) ≤ 1048576 := by
  unfold strcOf
  split
  · rename_i hf
    unfold fitS at hf
    simp only [Bool.and_eq_true, decide_eq_true_eq] at hf
    obtain ⟨⟨hc, h1⟩, h2, h3⟩ := hf
    have e1 : ((nodesT h.vars h.next h.next.length).map szNode).sum ≤ (nodesT h.vars h.next h.next.length).length * 8 := by
      apply sum_leJ
      intro x hx
      simp only [nodesT, List.mem_map] at hx
      obtain ⟨c, _, rfl⟩ := hx
      simp [szNode, nodeT]; omega
    rw [nodesT_len] at e1
    have e2 : (nextsT h.next h.next.length).length ≤ 100 := by rw [nextsT_len]; exact Nat.mul_le_mul h1 h1
    have e3 : (nodesT h.vars h.next h.next.length).length = h.next.length := nodesT_len _ _ _
    simp only [szStrc, szNodes]
    omega
  · simp [szStrc, szNodes]
theorem nexts_truthJ (nx : List Int) : ∀ n, ∀ x ∈ nextsT nx n, isTruth x = true
  | 0, x, h => by simp [nextsT] at h
  | n + 1, x, h => by
    rw [nextsT_succ] at h
    rcases List.mem_append.1 h with h | h
    · exact nexts_truthJ nx n x h
    · simp only [rowT, List.mem_map] at h
      obtain ⟨d, _, rfl⟩ := h
      exact isTruth_trI _
theorem strcOf_truthJ (h : Heap) : truthS (strcOf h) := by
  unfold truthS strcOf
  split
  · exact nexts_truthJ _ _
  · intro x hx; simp at hx
theorem meets_heap {n : Int} {h : Heap} (hh : isHeapB n h = true) : meetsT (strcOf h) = 2 := by
  obtain ⟨hcl, hv⟩ := canon_cells (isHeap_parts hh).1
  rw [strcOf_fit (heap_fit hh)]
  exact meets_strc hcl hv
def code_laws_big : F := ⟨6, [.tmp 2],
 .seq (.reg [⟨some 2, .mov (.k (.bool false)), none⟩])
 (.seq (.reg [⟨some 3, .mov (.t 0), none⟩,
     ⟨some 4, .len (.t 3), none⟩,
     ⟨some 5, .bin .gtr (.t 4) (.k (.int .i64 1048576)), none⟩,
     ⟨some 2, .mov (.t 5), none⟩])
  (.ret))⟩
theorem fok_laws_big : FOk Tryz.prog 5 code_laws_big := fok Tryz.func5 (by kernel_rfl)
@[simp] def ct_bigJ : Ct := ⟨5, List UInt8, fun _ => True, fun bs => [encL 1 encU bs], fun bs => .bool (decide (1048576 < bs.length))⟩
theorem ok_bigJ : ct_bigJ.Ok Tryz.prog := by
  intro bs _
  change List UInt8 at bs
  refine Ok.of_cw fok_laws_big (go_ok tab_nil ?_)
  simp [code_laws_big, List.replicate]
  omega
def code_laws_FnHeapStructures : F := ⟨88, [.tmp 2],
 .seq (.reg [⟨some 2, .mov (.k (.bool false)), none⟩])
 (.seq (.seq (.reg [⟨some 14, .mov (.t 0), none⟩,
      ⟨some 15, .call 5 [(.t 14)], none⟩])
   (.cond (.t 15)
    (.seq (.reg [⟨some 2, .mov (.k (.bool true)), none⟩])
     (.ret))
    (.skip)))
  (.seq (.reg [⟨some 16, .mov (.t 0), none⟩,
      ⟨some 17, .call 6 [(.t 16)], none⟩,
      ⟨some 3, .alloc [(.sl .nil 0 []), (.sl .nil 0 [])], none⟩,
      ⟨none, .store 2 (.t 3) (.t 17), none⟩])
   (.seq (.reg [⟨some 18, .load 2 true (.t 3), none⟩,
       ⟨some 19, .call 7 [(.t 18)], none⟩,
       ⟨some 4, .alloc [(.sl .nil 0 []), (.sl .nil 0 [])], none⟩,
       ⟨none, .store 2 (.t 4) (.t 19), none⟩])
    (.seq (.reg [⟨some 21, .mov (.t 0), none⟩,
        ⟨some 22, .call 8 [(.t 21)], none⟩,
        ⟨some 20, .mov (.t 22), none⟩,
        ⟨some 23, .extr (.t 20) 0, none⟩,
        ⟨some 24, .extr (.t 20) 1, none⟩,
        ⟨some 6, .alloc [(.sl .nil 0 []), (.sl .nil 0 [])], none⟩,
        ⟨some 5, .mov (.t 23), none⟩,
        ⟨none, .store 2 (.t 6) (.t 24), none⟩])
     (.seq (.reg [⟨some 26, .mov (.t 5), none⟩,
         ⟨some 27, .load 2 true (.t 6), none⟩,
         ⟨some 28, .call 9 [(.t 26), (.t 27)], none⟩,
         ⟨some 25, .mov (.t 28), none⟩,
         ⟨some 29, .extr (.t 25) 0, none⟩,
         ⟨some 30, .extr (.t 25) 1, none⟩,
         ⟨some 7, .alloc [(.sl .nil 0 []), (.sl .nil 0 [])], none⟩,
         ⟨none, .store 2 (.t 7) (.t 29), none⟩,
         ⟨some 8, .mov (.t 30), none⟩])
      (.seq (.reg [⟨some 32, .mov (.t 5), none⟩,
          ⟨some 33, .load 2 true (.t 6), none⟩,
          ⟨some 34, .call 10 [(.t 32), (.t 33)], none⟩,
          ⟨some 31, .mov (.t 34), none⟩,
          ⟨some 35, .extr (.t 31) 0, none⟩,
          ⟨some 36, .extr (.t 31) 1, none⟩,
          ⟨some 9, .alloc [(.sl .nil 0 []), (.sl .nil 0 [])], none⟩,
          ⟨none, .store 2 (.t 9) (.t 35), none⟩,
          ⟨some 10, .mov (.t 36), none⟩])
       (.seq (.reg [⟨some 37, .mov (.t 0), none⟩,
           ⟨some 38, .call 11 [(.t 37)], none⟩,
           ⟨some 11, .mov (.t 38), none⟩])
        (.seq (.seq (.dreg [false, false, false, true, true, true, false, false, true, true, true, false, false, true, true, true, true, false, false, false, true, true, true, true, true, true, true, true, true, true] [false, false, true, true, false, false, false, false, false, false, false, false, false, true, false, false, false, false, true, false, true, true, false, false, false, true, true, true, false, false] [⟨some 39, .load 2 true (.t 4), none⟩,
             ⟨some 40, .load 2 true (.t 3), none⟩,
             ⟨some 41, .call 13 [(.t 40)], none⟩,
             ⟨some 42, .call 12 [(.t 39), (.t 41)], none⟩,
             ⟨some 43, .not (.t 42), none⟩,
             ⟨some 44, .mov (.t 43), none⟩,
             ⟨some 45, .mov (.t 8), some (44, false)⟩,
             ⟨some 46, .mov (.t 10), some (44, false)⟩,
             ⟨some 47, .beq true (.t 45) (.t 46), some (44, false)⟩,
             ⟨some 48, .pick (.t 44) (.k (.bool true)) (.t 47), none⟩,
             ⟨some 49, .mov (.t 48), none⟩,
             ⟨some 50, .load 2 true (.t 7), some (49, false)⟩,
             ⟨some 51, .load 2 true (.t 9), some (49, false)⟩,
             ⟨some 52, .call 14 [(.t 50), (.t 51)], some (49, false)⟩,
             ⟨some 53, .not (.t 52), some (49, false)⟩,
             ⟨some 54, .pick (.t 49) (.k (.bool true)) (.t 53), none⟩,
             ⟨some 55, .mov (.t 54), none⟩,
             ⟨some 56, .mov (.t 11), some (55, false)⟩,
             ⟨some 57, .call 16 [(.t 56)], some (55, false)⟩,
             ⟨some 58, .mov (.t 11), some (55, false)⟩,
             ⟨some 59, .call 17 [(.t 58)], some (55, false)⟩,
             ⟨some 60, .call 15 [(.t 57), (.t 59)], some (55, false)⟩,
             ⟨some 61, .not (.t 60), some (55, false)⟩,
             ⟨some 62, .pick (.t 55) (.k (.bool true)) (.t 61), none⟩,
             ⟨some 63, .mov (.t 62), none⟩,
             ⟨some 64, .call 18 [], some (63, false)⟩,
             ⟨some 65, .call 19 [], some (63, false)⟩,
             ⟨some 66, .call 15 [(.t 64), (.t 65)], some (63, false)⟩,
             ⟨some 67, .not (.t 66), some (63, false)⟩,
             ⟨some 68, .pick (.t 63) (.k (.bool true)) (.t 67), none⟩])
          (.cond (.t 68)
           (.seq (.reg [⟨some 2, .mov (.k (.bool false)), none⟩])
            (.ret))
           (.skip)))
         (.seq (.seq (.reg [⟨some 69, .load 2 true (.t 3), none⟩,
              ⟨some 70, .call 20 [(.k (.int .i64 3)), (.t 69)], none⟩,
              ⟨some 71, .not (.t 70), none⟩])
           (.cond (.t 71)
            (.seq (.reg [⟨some 2, .mov (.k (.bool true)), none⟩])
             (.ret))
            (.skip)))
          (.seq (.reg [⟨some 73, .load 2 true (.t 4), none⟩,
              ⟨some 74, .call 9 [(.k (.int .i64 3)), (.t 73)], none⟩,
              ⟨some 72, .mov (.t 74), none⟩,
              ⟨some 75, .extr (.t 72) 0, none⟩,
              ⟨some 76, .extr (.t 72) 1, none⟩,
              ⟨some 12, .alloc [(.sl .nil 0 []), (.sl .nil 0 [])], none⟩,
              ⟨none, .store 2 (.t 12) (.t 75), none⟩,
              ⟨some 13, .mov (.t 76), none⟩])
           (.seq (.reg [⟨some 77, .mov (.t 13), none⟩,
               ⟨some 78, .mov (.t 77), none⟩,
               ⟨some 79, .load 2 true (.t 12), some (78, true)⟩,
               ⟨some 80, .load 2 true (.t 3), some (78, true)⟩,
               ⟨some 81, .call 14 [(.t 79), (.t 80)], some (78, true)⟩,
               ⟨some 82, .pick (.t 78) (.t 81) (.k (.bool false)), none⟩,
               ⟨some 83, .mov (.t 82), none⟩,
               ⟨some 84, .load 2 true (.t 4), some (83, true)⟩,
               ⟨some 85, .call 21 [(.t 84)], some (83, true)⟩,
               ⟨some 86, .bin .eql (.t 85) (.k (.int .i64 2)), some (83, true)⟩,
               ⟨some 87, .pick (.t 83) (.t 86) (.k (.bool false)), none⟩,
               ⟨some 2, .mov (.t 87), none⟩])
            (.ret))))))))))))⟩
theorem fok_laws_FnHeapStructures : FOk Tryz.prog 3 code_laws_FnHeapStructures := fok Tryz.func3 (by kernel_rfl)
set_option maxHeartbeats 8000000 in
set_option maxRecDepth 100000 in
theorem ok_lawHeapStructures (bs : List UInt8) : Ok Tryz.prog 3 [encL 1 encU bs] (.bool true) := by
  by_cases hbs : bs.length ≤ 1048576
  case neg =>
    have hb2 : 1048576 < bs.length := by omega
    refine Ok.of_cw fok_laws_FnHeapStructures (go_ok (tab_cons ok_bigJ tab_nil) ?_)
    simp [code_laws_FnHeapStructures, List.replicate, hb2]
  have hb2 : ¬ 1048576 < bs.length := by omega
  have hT : TabOk Tryz.prog _ := tab_cons ok_bigJ (tab_cons ok_DrawStructureOf (tab_cons ok_DrawHeapOf (tab_cons ok_DrawReachFormula (tab_cons ok_pStructureOf (tab_cons ok_sStructureOf (tab_cons ok_pHeapOfJ (tab_cons ok_sHeapOf (tab_cons ok_spec_EqualStructure (tab_cons ok_sEqualHeapJ (tab_cons ok_pReachP (tab_cons ok_sReach (tab_cons ok_pSharedP (tab_cons ok_sShared (tab_cons (ok_eqSame 100) (tab_cons ok_sIsHeap (tab_cons ok_sMeets tab_nil))))))))))))))))
  obtain ⟨b1, b2, -⟩ := bent_len (cur0 bs)
  have l1 : (drawCan bs).2.vars.length = 3 := b1
  have l2 : (drawCan bs).2.next.length ≤ 6 := b2
  have z1 : szHeap (drawCan bs).2 ≤ 1048576 := by change (drawCan bs).2.vars.length + (drawCan bs).2.next.length ≤ _; omega
  have z2 : szStrc (drawHO bs) ≤ 1048576 := by
    unfold drawHO
    split
    · exact strcOf_szJ _
    · exact (bent12_sz _).1
  have z3 := strcOf_szJ (drawCan bs).2
  have z4 := strcOf_truthJ (drawCan bs).2
  have z5 : isHeapB 3 (drawCan bs).2 = true → heapOfB 3 (strcOf (drawCan bs).2) = true ∧ heapOfT 3 (strcOf (drawCan bs).2) = (drawCan bs).2 := by
    have := heapOf_strc (h := (drawCan bs).2)
    rw [l1] at this
    exact this
  have z6 := meets_heap (n := 3) (h := (drawCan bs).2)
  have s1 : ∀ k, (reachFm k).size ≤ 100 := fun k => by simp [reachFm, Fm.size, sizes]
  have s2 : sharedFm.size ≤ 100 := by simp [sharedFm, Fm.size, sizes]
  have s3 : ∀ k, (reachFm k).size ≤ 1048576 := fun k => Nat.le_trans (s1 k) (by omega)
  have s4 : sharedFm.size ≤ 1048576 := Nat.le_trans s2 (by omega)
  refine Ok.of_cw fok_laws_FnHeapStructures ?_
  simp only [code_laws_FnHeapStructures, frame, List.length_cons, List.length_nil, List.replicate, Nat.reduceSub, Nat.reduceAdd, List.cons_append, List.nil_append]
  refine cw_seq (go_ok hT ?_); simp [List.replicate]
  refine cw_seq (go_ok hT ?_); simp [List.replicate, hbs, hb2]
  refine cw_seq (go_ok hT ?_); simp [List.replicate, hbs]
  refine cw_seq (go_ok hT ?_); simp [List.replicate, z1]
  refine cw_seq (go_ok hT ?_); simp [List.replicate, hbs]
  refine cw_seq (go_ok hT ?_); simp [List.replicate, z2]
  refine cw_seq (go_ok hT ?_); simp [List.replicate, z2]
  refine cw_seq (go_ok hT ?_); simp [List.replicate, hbs]
  generalize hS : strcOf (drawCan bs).2 = s at *
  generalize (drawCan bs).2 = h at *
  generalize heapOfT 3 (drawHO bs) = g at *
  generalize heapOfB 3 (drawHO bs) = gb at *
  generalize drawHO bs = x at *
  generalize (cur0 bs).below 4 = k at *
  refine cw_weak (weak_seal (n0 := 0) 15 (by simp) (t' := slots 88 [(3, .pbox 2 0), (4, .pbox 5 0), (7, .pbox 11 0), (8, .bool gb), (9, .pbox 14 0), (10, .bool gb), (11, .int .i64 k)]) (H' := [.dead, .dead, .cells [encL 1 encInt h.vars, encL 1 encInt h.next], .dead, .dead, .cells [encL 4 encNode s.nodes, encL 1 encInt s.next], .dead, .dead, .dead, .dead, .dead, .cells [encL 1 encInt g.vars, encL 1 encInt g.next], .dead, .dead, .cells [encL 1 encInt g.vars, encL 1 encInt g.next]]) (by simp) (by simp [List.replicate])) ?_
  refine cw_seq (cw_seq (go_ok hT ?_)); simp (maxSteps := 4000000) [List.replicate, z1, s1, s2, s3, s4, hS]
  refine go_ok hT ?_; simp [List.replicate]
  by_cases hh : isHeapB 3 h = true
  · obtain ⟨y1, y2⟩ := z5 hh
    have y3 := z6 hh
    refine cw_seq (cw_seq (go_ok hT ?_)); simp [List.replicate, z1, hh]
    refine go_ok hT ?_; simp [List.replicate]
    refine cw_seq (go_ok hT ?_); simp [List.replicate, z3, y1, y2]
    refine cw_seq (go_ok hT ?_); simp [List.replicate, z3, z4, y3]
    refine go_ok hT ?_; simp [List.replicate]
  · refine cw_seq (cw_seq (go_ok hT ?_)); simp [List.replicate, z1, hh]
    refine go_ok hT ?_; simp [List.replicate]
end Go.Vm

/- CanonHeap: the law. No condition. -/
import Derived.Test.YtnopihjhglhopaaTCH
set_option linter.unusedSimpArgs false
set_option linter.unusedVariables false
namespace Go.Vm
open Go.Proofs
def code_laws_FnExactCanonHeap : F := ⟨69, [.tmp 2],
 .seq (.reg [⟨some 1, .box (.t 0), none⟩,
    ⟨some 2, .mov (.k (.bool false)), none⟩])
 (.seq (.reg [⟨some 3, .mov (.k (.int .i64 1048576)), none⟩])
  (.seq (.reg [⟨some 11, .load 2 true (.t 1), none⟩,
      ⟨some 12, .mov (.t 3), none⟩,
      ⟨some 13, .call 12 [(.t 11), (.t 12)], none⟩,
      ⟨some 3, .mov (.t 13), none⟩])
   (.seq (.seq (.reg [⟨some 14, .mov (.t 3), none⟩,
        ⟨some 15, .bin .lss (.t 14) (.k (.int .i64 0)), none⟩])
     (.cond (.t 15)
      (.seq (.reg [⟨some 2, .mov (.k (.bool true)), none⟩])
       (.ret))
      (.skip)))
    (.seq (.reg [⟨some 16, .load 2 true (.t 1), none⟩,
        ⟨some 17, .call 14 [(.t 16)], none⟩,
        ⟨some 18, .call 13 [(.t 17)], none⟩,
        ⟨some 4, .alloc [(.sl .nil 0 []), (.sl .nil 0 [])], none⟩,
        ⟨none, .store 2 (.t 4) (.t 18), none⟩])
     (.seq (.reg [⟨some 19, .load 2 true (.t 1), none⟩,
         ⟨some 20, .call 14 [(.t 19)], none⟩,
         ⟨some 5, .alloc [(.sl .nil 0 []), (.sl .nil 0 [])], none⟩,
         ⟨none, .store 2 (.t 5) (.t 20), none⟩])
      (.seq (.reg [⟨some 21, .load 2 true (.t 5), none⟩,
          ⟨some 22, .call 15 [(.t 21)], none⟩,
          ⟨some 6, .alloc [(.sl .nil 0 []), (.sl .nil 0 [])], none⟩,
          ⟨none, .store 2 (.t 6) (.t 22), none⟩])
       (.seq (.seq (.reg [⟨some 23, .load 2 true (.t 6), none⟩,
            ⟨some 24, .load 2 true (.t 4), none⟩,
            ⟨some 25, .call 16 [(.t 23), (.t 24)], none⟩,
            ⟨some 26, .not (.t 25), none⟩])
         (.cond (.t 26)
          (.seq (.reg [⟨some 2, .mov (.k (.bool false)), none⟩])
           (.ret))
          (.skip)))
        (.seq (.seq (.dreg [false, false, false, true, true] [⟨some 27, .load 2 true (.t 5), none⟩,
             ⟨some 28, .load 2 true (.t 1), none⟩,
             ⟨some 29, .call 14 [(.t 28)], none⟩,
             ⟨some 30, .call 16 [(.t 27), (.t 29)], none⟩,
             ⟨some 31, .not (.t 30), none⟩])
          (.cond (.t 31)
           (.seq (.reg [⟨some 2, .mov (.k (.bool false)), none⟩])
            (.ret))
           (.skip)))
         (.seq (.reg [⟨some 7, .mov (.k (.int .i64 1)), none⟩])
          (.seq (.reg [⟨some 32, .load 2 true (.t 5), none⟩,
              ⟨some 33, .mov (.t 7), none⟩,
              ⟨some 34, .call 17 [(.t 32), (.t 33)], none⟩,
              ⟨some 7, .mov (.t 34), none⟩])
           (.seq (.seq (.reg [⟨some 35, .mov (.t 7), none⟩,
                ⟨some 36, .bin .lss (.t 35) (.k (.int .i64 0)), none⟩,
                ⟨some 37, .mov (.t 36), none⟩,
                ⟨some 38, .load 2 true (.t 6), some (37, false)⟩,
                ⟨some 39, .load 2 true (.t 4), some (37, false)⟩,
                ⟨some 40, .call 16 [(.t 38), (.t 39)], some (37, false)⟩,
                ⟨some 41, .not (.t 40), some (37, false)⟩,
                ⟨some 42, .pick (.t 37) (.k (.bool true)) (.t 41), none⟩])
             (.cond (.t 42)
              (.seq (.reg [⟨some 2, .mov (.k (.bool false)), none⟩])
               (.ret))
              (.skip)))
            (.seq (.reg [⟨some 8, .mov (.k (.int .i64 1)), none⟩])
             (.seq (.reg [⟨some 43, .load 2 true (.t 6), none⟩,
                 ⟨some 44, .mov (.t 8), none⟩,
                 ⟨some 45, .call 17 [(.t 43), (.t 44)], none⟩,
                 ⟨some 8, .mov (.t 45), none⟩])
              (.seq (.reg [⟨some 9, .mov (.k (.int .i64 1)), none⟩])
               (.seq (.reg [⟨some 46, .load 2 true (.t 6), none⟩,
                   ⟨some 47, .mov (.t 9), none⟩,
                   ⟨some 48, .call 18 [(.t 46), (.t 47)], none⟩,
                   ⟨some 9, .mov (.t 48), none⟩])
                (.seq (.seq (.reg [⟨some 49, .mov (.t 9), none⟩,
                     ⟨some 50, .bin .lss (.t 49) (.k (.int .i64 0)), none⟩])
                  (.cond (.t 50)
                   (.seq (.reg [⟨some 2, .mov (.k (.bool false)), none⟩])
                    (.ret))
                   (.skip)))
                 (.seq (.seq (.reg [⟨some 51, .mov (.t 9), none⟩,
                      ⟨some 52, .mov (.t 8), none⟩,
                      ⟨some 53, .bin .neq (.t 51) (.t 52), none⟩])
                   (.cond (.t 53)
                    (.seq (.reg [⟨some 2, .mov (.k (.bool false)), none⟩])
                     (.ret))
                    (.skip)))
                  (.seq (.reg [⟨some 54, .load 2 true (.t 1), none⟩,
                      ⟨some 55, .call 14 [(.t 54)], none⟩,
                      ⟨some 56, .call 15 [(.t 55)], none⟩,
                      ⟨some 10, .alloc [(.sl .nil 0 []), (.sl .nil 0 [])], none⟩,
                      ⟨none, .store 2 (.t 10) (.t 56), none⟩])
                   (.seq (.seq (.reg [⟨some 57, .load 2 true (.t 10), none⟩,
                        ⟨some 58, .load 2 true (.t 4), none⟩,
                        ⟨some 59, .call 16 [(.t 57), (.t 58)], none⟩,
                        ⟨some 60, .not (.t 59), none⟩])
                     (.cond (.t 60)
                      (.seq (.reg [⟨some 2, .mov (.k (.bool false)), none⟩])
                       (.ret))
                      (.skip)))
                    (.seq (.reg [⟨some 9, .mov (.k (.int .i64 1)), none⟩])
                     (.seq (.reg [⟨some 61, .load 2 true (.t 6), none⟩,
                         ⟨some 62, .mov (.t 9), none⟩,
                         ⟨some 63, .call 18 [(.t 61), (.t 62)], none⟩,
                         ⟨some 9, .mov (.t 63), none⟩])
                      (.seq (.seq (.reg [⟨some 64, .mov (.t 9), none⟩,
                           ⟨some 65, .bin .lss (.t 64) (.k (.int .i64 0)), none⟩])
                        (.cond (.t 65)
                         (.seq (.reg [⟨some 2, .mov (.k (.bool false)), none⟩])
                          (.ret))
                         (.skip)))
                       (.seq (.seq (.reg [⟨some 66, .mov (.t 9), none⟩,
                            ⟨some 67, .mov (.t 8), none⟩,
                            ⟨some 68, .bin .neq (.t 66) (.t 67), none⟩])
                         (.cond (.t 68)
                          (.seq (.reg [⟨some 2, .mov (.k (.bool false)), none⟩])
                           (.ret))
                          (.skip)))
                        (.seq (.reg [⟨some 2, .mov (.k (.bool true)), none⟩])
                         (.ret)))))))))))))))))))))))))⟩
theorem fok_laws_FnExactCanonHeap : FOk Try.prog 4 code_laws_FnExactCanonHeap := fok Try.func4 (by kernel_rfl)
@[simp] theorem take_marks (k : Int) (n : Nat) : List.take n (List.map encInt (marks k n)) = List.map encInt (marks k n) := List.take_of_length_le (by simp)
theorem met_le (h : Heap) : (met h).length ≤ h.next.length := goodC_len (met_good h)
theorem canon_len (h : Heap) : (canonH h).vars.length ≤ h.vars.length ∧ (canonH h).next.length ≤ h.next.length := by
  unfold canonH
  split
  · have := met_le h
    simp [this]
  · simp
set_option maxHeartbeats 8000000 in
set_option maxRecDepth 100000 in
theorem ok_lawCanonHeap (x : Heap) : Ok Try.prog 4 [encHeap x] (.bool true) := by
  by_cases h1 : (szHeap x : Int) ≤ 1048576
  case neg =>
    refine Ok.of_cw fok_laws_FnExactCanonHeap (go_ok (tab_cons ok_szHeap tab_nil) ?_)
    simp [code_laws_FnExactCanonHeap, List.replicate, left_neg (by omega : (1048576:Int) < szHeap x)]
  have l1 := left_ge h1
  have hx : szHeap x ≤ 1048576 := by omega
  have l1n : ¬ ((1048576 : Int) - szHeap x < 0) := by omega
  have l1m : ¬ ((1048576 : Int) < szHeap x) := by omega
  have hz : x.vars.length + x.next.length ≤ 1048576 := hx
  obtain ⟨c1, c2⟩ := canon_len x
  have z1 : x.vars.length ≤ 1048576 := by omega
  have z2 : x.next.length ≤ 1048576 := by omega
  have z3 : (canonH x).vars.length ≤ 1048576 := by omega
  have z4 : (canonH x).next.length ≤ 1048576 := by omega
  have n1 : ¬ ((1 : Int) + x.vars.length + x.next.length < 0) := by omega
  have n1' : ¬ ((x.vars.length : Int) + x.next.length + 1 < 0) := by omega
  have n2' : ¬ (((canonH x).vars.length : Int) + (canonH x).next.length + 1 < 0) := by omega
  have n1' : ¬ ((x.vars.length : Int) + x.next.length + 1 < 0) := by omega
  have n2' : ¬ (((canonH x).vars.length : Int) + (canonH x).next.length + 1 < 0) := by omega
  have n1' : ¬ ((x.vars.length : Int) + x.next.length + 1 < 0) := by omega
  have n2' : ¬ (((canonH x).vars.length : Int) + (canonH x).next.length + 1 < 0) := by omega
  have n2 : ¬ ((1 : Int) + (canonH x).vars.length + (canonH x).next.length < 0) := by omega
  have hT : TabOk Try.prog _ := tab_h (CtN.hok ok_toHeapN) (tab_h (CtN.hok ok_pCanon) (tab_h (ok_markHp 3) (tab_cons ok_szHeap (tab_cons ok_sCanon (tab_cons ok_eqHeap (tab_cons ok_heldHp tab_nil))))))
  refine Ok.of_cw fok_laws_FnExactCanonHeap ?_
  simp only [code_laws_FnExactCanonHeap, frame, List.length_cons, List.length_nil, List.replicate, Nat.reduceSub, Nat.reduceAdd, List.cons_append, List.nil_append]
  refine cw_seq (go_ok hT ?_); simp [List.replicate]
  refine cw_seq (go_ok hT ?_); simp
  refine cw_seq (go_ok hT ?_); simp [l1, h1]
  refine cw_seq (go_ok hT ?_); simp [l1n, l1m]
  refine cw_seq (go_ok hT ?_); simp [hx, Blk.freeze, Blk.frozen]
  refine cw_weak (weak_seal (n0 := 0) 13 (by simp) (t' := slots 69 [(1, .pbox 0 0), (4, .pbox 12 0)]) (H' := [.cells [encL 1 encInt x.vars, encL 1 encInt x.next]] ++ List.replicate 11 .dead ++ [.cells [encL 1 encInt (canonH x).vars, encL 1 encInt (canonH x).next]]) (by simp [List.replicate]) (by simp [List.replicate])) ?_
  refine cw_seq (go_ok hT ?_); simp [List.replicate, hx]
  refine cw_weak (weak_seal (n0 := 0) 25 (by simp) (t' := slots 69 [(1, .pbox 0 0), (4, .pbox 12 0), (5, .pbox 24 0)]) (H' := [.cells [encL 1 encInt x.vars, encL 1 encInt x.next]] ++ List.replicate 11 .dead ++ [.cells [encL 1 encInt (canonH x).vars, encL 1 encInt (canonH x).next]] ++ List.replicate 7 .dead ++ [.row true 3 1 (x.vars.map encInt), .row true 3 1 (x.next.map encInt), .dead, .dead, .cells [.slref 20 0 x.vars.length x.vars.length, .slref 21 0 x.next.length x.next.length]]) (by simp [List.replicate]) (by simp [List.replicate])) ?_
  cases hc : cellsB x
  case false =>
    have hr : canonH x = ⟨[], []⟩ := by simp [canonH, hc]
    have hR : canonR x = .agg [.slref 4 0 (canonH x).vars.length (canonH x).vars.length, .slref 5 0 (canonH x).next.length (canonH x).next.length] := by rw [hr]; simp [canonR, hc]
    have hN : canonN x = [.dead, .dead, .dead, .cells [.slref 4 0 (canonH x).vars.length (canonH x).vars.length, .slref 5 0 (canonH x).next.length (canonH x).next.length], .row true 3 1 ((canonH x).vars.map encInt), .row true 3 1 ((canonH x).next.map encInt)] := by rw [hr]; simp [canonN, hc]
    refine cw_seq (go_ok hT ?_); simp [List.replicate, hx, hR, hN]
    refine cw_weak (weak_seal (n0 := 0) 34 (by simp) (t' := slots 69 [(1, .pbox 0 0), (4, .pbox 12 0), (5, .pbox 24 0), (6, .pbox 33 0)]) (H' := [.cells [encL 1 encInt x.vars, encL 1 encInt x.next]] ++ List.replicate 11 .dead ++ [.cells [encL 1 encInt (canonH x).vars, encL 1 encInt (canonH x).next]] ++ List.replicate 7 .dead ++ [.row true 3 1 (x.vars.map encInt), .row true 3 1 (x.next.map encInt), .dead, .dead, .cells [.slref 20 0 x.vars.length x.vars.length, .slref 21 0 x.next.length x.next.length]] ++ List.replicate 4 .dead ++ [.row true 3 1 ((canonH x).vars.map encInt), .row true 3 1 ((canonH x).next.map encInt), .dead, .dead, .cells [.slref 29 0 (canonH x).vars.length (canonH x).vars.length, .slref 30 0 (canonH x).next.length (canonH x).next.length]]) (by simp [List.replicate]) (by simp [List.replicate])) ?_
    refine cw_seq (go_ok hT ?_); simp [List.replicate]
    refine cw_seq (go_ok hT ?_); simp [List.replicate, hx, needs1, isH, z1, z2]
    refine cw_weak (weak_seal (n0 := 0) 34 (by simp) (t' := slots 69 [(1, .pbox 0 0), (4, .pbox 12 0), (5, .pbox 24 0), (6, .pbox 33 0)]) (H' := [.cells [encL 1 encInt x.vars, encL 1 encInt x.next]] ++ List.replicate 11 .dead ++ [.cells [encL 1 encInt (canonH x).vars, encL 1 encInt (canonH x).next]] ++ List.replicate 7 .dead ++ [.row true 3 1 (x.vars.map encInt), .row true 3 1 (x.next.map encInt), .dead, .dead, .cells [.slref 20 0 x.vars.length x.vars.length, .slref 21 0 x.next.length x.next.length]] ++ List.replicate 4 .dead ++ [.row true 3 1 ((canonH x).vars.map encInt), .row true 3 1 ((canonH x).next.map encInt), .dead, .dead, .cells [.slref 29 0 (canonH x).vars.length (canonH x).vars.length, .slref 30 0 (canonH x).next.length (canonH x).next.length]]) (by simp [List.replicate]) (by simp [List.replicate])) ?_
    refine cw_seq (go_ok hT ?_); simp [List.replicate]
    refine cw_seq (go_ok hT ?_); simp [List.replicate, z1, z2]
    refine ⟨x.vars, rfl, x.next, rfl, z1, z2, rfl, rfl, ?_⟩
    refine cw_seq (go_ok hT ?_); simp [List.replicate, n1, n1']
    refine cw_weak (weak_seal (n0 := 0) 34 (by simp) (t' := slots 69 [(1, .pbox 0 0), (4, .pbox 12 0), (6, .pbox 33 0)]) (H' := [.cells [encL 1 encInt x.vars, encL 1 encInt x.next]] ++ List.replicate 11 .dead ++ [.cells [encL 1 encInt (canonH x).vars, encL 1 encInt (canonH x).next]] ++ List.replicate 12 .dead ++ List.replicate 4 .dead ++ [.row true 3 1 ((canonH x).vars.map encInt), .row true 3 1 ((canonH x).next.map encInt), .dead, .dead, .cells [.slref 29 0 (canonH x).vars.length (canonH x).vars.length, .slref 30 0 (canonH x).next.length (canonH x).next.length]]) (by simp [List.replicate]) (by simp [List.replicate])) ?_
    refine cw_seq (go_ok hT ?_); simp [List.replicate]
    refine cw_seq (go_ok hT ?_); simp [List.replicate, z3, z4]
    refine ⟨(canonH x).vars, rfl, (canonH x).next, rfl, z3, z4, rfl, rfl, ?_⟩
    refine cw_weak (weak_seal (n0 := 0) 34 (by simp) (t' := slots 69 [(1, .pbox 0 0), (4, .pbox 12 0), (6, .pbox 33 0), (8, .int .i64 (1 + (canonH x).vars.length + (canonH x).next.length))]) (H' := [.cells [encL 1 encInt x.vars, encL 1 encInt x.next]] ++ List.replicate 11 .dead ++ [.cells [encL 1 encInt (canonH x).vars, encL 1 encInt (canonH x).next]] ++ List.replicate 12 .dead ++ List.replicate 4 .dead ++ [.row true 3 1 ((marks 1 (canonH x).vars.length).map encInt), .row true 3 1 ((marks (1 + (canonH x).vars.length) (canonH x).next.length).map encInt), .dead, .dead, .cells [.slref 29 0 (canonH x).vars.length (canonH x).vars.length, .slref 30 0 (canonH x).next.length (canonH x).next.length]]) (by simp [List.replicate]) (by simp [List.replicate])) ?_
    refine cw_seq (go_ok hT ?_); simp [List.replicate]
    refine cw_seq (go_ok hT ?_); simp [List.replicate, z3, z4]
    refine cw_seq (go_ok hT ?_); simp [List.replicate, n2, n2']
    refine cw_seq (go_ok hT ?_); simp [List.replicate]
    refine cw_weak (weak_seal (n0 := 0) 34 (by simp) (t' := slots 69 [(1, .pbox 0 0), (4, .pbox 12 0), (6, .pbox 33 0), (8, .int .i64 (1 + (canonH x).vars.length + (canonH x).next.length))]) (H' := [.cells [encL 1 encInt x.vars, encL 1 encInt x.next]] ++ List.replicate 11 .dead ++ [.cells [encL 1 encInt (canonH x).vars, encL 1 encInt (canonH x).next]] ++ List.replicate 12 .dead ++ List.replicate 4 .dead ++ [.row true 3 1 ((marks 1 (canonH x).vars.length).map encInt), .row true 3 1 ((marks (1 + (canonH x).vars.length) (canonH x).next.length).map encInt), .dead, .dead, .cells [.slref 29 0 (canonH x).vars.length (canonH x).vars.length, .slref 30 0 (canonH x).next.length (canonH x).next.length]]) (by simp [List.replicate]) (by simp [List.replicate])) ?_
    refine cw_seq (go_ok hT ?_); simp [List.replicate, hx, hR, hN]
    refine cw_seq (go_ok hT ?_); simp [List.replicate]
    refine cw_weak (weak_seal (n0 := 0) 34 (by simp) (t' := slots 69 [(1, .pbox 0 0), (4, .pbox 12 0), (6, .pbox 33 0), (8, .int .i64 (1 + (canonH x).vars.length + (canonH x).next.length))]) (H' := [.cells [encL 1 encInt x.vars, encL 1 encInt x.next]] ++ List.replicate 11 .dead ++ [.cells [encL 1 encInt (canonH x).vars, encL 1 encInt (canonH x).next]] ++ List.replicate 12 .dead ++ List.replicate 4 .dead ++ [.row true 3 1 ((marks 1 (canonH x).vars.length).map encInt), .row true 3 1 ((marks (1 + (canonH x).vars.length) (canonH x).next.length).map encInt), .dead, .dead, .cells [.slref 29 0 (canonH x).vars.length (canonH x).vars.length, .slref 30 0 (canonH x).next.length (canonH x).next.length]]) (by simp [List.replicate]) (by simp [List.replicate])) ?_
    refine cw_seq (go_ok hT ?_); simp [List.replicate]
    refine cw_seq (go_ok hT ?_); simp [List.replicate, z3, z4]
    refine cw_seq (go_ok hT ?_); simp [List.replicate, n2, n2']
    refine cw_seq (go_ok hT ?_); simp [List.replicate]
    refine cw_seq (go_ok hT ?_); simp [List.replicate]
    refine go_ok hT ?_; simp [List.replicate]
  case true =>
    have hR : canonR x = .agg [.slref 9 0 (canonH x).vars.length (canonH x).vars.length, .slref 10 0 (canonH x).next.length (canonH x).next.length] := by simp only [canonR, hc, if_true]
    have hN : canonN x = [.dead, .dead, .dead, .cells [.slref 9 0 (canonH x).vars.length (canonH x).vars.length, .slref 10 0 (canonH x).next.length (canonH x).next.length], .dead, .dead, .dead, .dead, .dead, .row true 3 1 ((canonH x).vars.map encInt), .row true 3 1 ((canonH x).next.map encInt)] := by simp only [canonN, hc, if_true]
    refine cw_seq (go_ok hT ?_); simp [List.replicate, hx, hR, hN]
    refine cw_weak (weak_seal (n0 := 0) 39 (by simp) (t' := slots 69 [(1, .pbox 0 0), (4, .pbox 12 0), (5, .pbox 24 0), (6, .pbox 38 0)]) (H' := [.cells [encL 1 encInt x.vars, encL 1 encInt x.next]] ++ List.replicate 11 .dead ++ [.cells [encL 1 encInt (canonH x).vars, encL 1 encInt (canonH x).next]] ++ List.replicate 7 .dead ++ [.row true 3 1 (x.vars.map encInt), .row true 3 1 (x.next.map encInt), .dead, .dead, .cells [.slref 20 0 x.vars.length x.vars.length, .slref 21 0 x.next.length x.next.length]] ++ List.replicate 9 .dead ++ [.row true 3 1 ((canonH x).vars.map encInt), .row true 3 1 ((canonH x).next.map encInt), .dead, .dead, .cells [.slref 34 0 (canonH x).vars.length (canonH x).vars.length, .slref 35 0 (canonH x).next.length (canonH x).next.length]]) (by simp [List.replicate]) (by simp [List.replicate])) ?_
    refine cw_seq (go_ok hT ?_); simp [List.replicate]
    refine cw_seq (go_ok hT ?_); simp [List.replicate, hx, needs1, isH, z1, z2]
    refine cw_weak (weak_seal (n0 := 0) 39 (by simp) (t' := slots 69 [(1, .pbox 0 0), (4, .pbox 12 0), (5, .pbox 24 0), (6, .pbox 38 0)]) (H' := [.cells [encL 1 encInt x.vars, encL 1 encInt x.next]] ++ List.replicate 11 .dead ++ [.cells [encL 1 encInt (canonH x).vars, encL 1 encInt (canonH x).next]] ++ List.replicate 7 .dead ++ [.row true 3 1 (x.vars.map encInt), .row true 3 1 (x.next.map encInt), .dead, .dead, .cells [.slref 20 0 x.vars.length x.vars.length, .slref 21 0 x.next.length x.next.length]] ++ List.replicate 9 .dead ++ [.row true 3 1 ((canonH x).vars.map encInt), .row true 3 1 ((canonH x).next.map encInt), .dead, .dead, .cells [.slref 34 0 (canonH x).vars.length (canonH x).vars.length, .slref 35 0 (canonH x).next.length (canonH x).next.length]]) (by simp [List.replicate]) (by simp [List.replicate])) ?_
    refine cw_seq (go_ok hT ?_); simp [List.replicate]
    refine cw_seq (go_ok hT ?_); simp [List.replicate, z1, z2]
    refine ⟨x.vars, rfl, x.next, rfl, z1, z2, rfl, rfl, ?_⟩
    refine cw_seq (go_ok hT ?_); simp [List.replicate, n1, n1']
    refine cw_weak (weak_seal (n0 := 0) 39 (by simp) (t' := slots 69 [(1, .pbox 0 0), (4, .pbox 12 0), (6, .pbox 38 0)]) (H' := [.cells [encL 1 encInt x.vars, encL 1 encInt x.next]] ++ List.replicate 11 .dead ++ [.cells [encL 1 encInt (canonH x).vars, encL 1 encInt (canonH x).next]] ++ List.replicate 12 .dead ++ List.replicate 9 .dead ++ [.row true 3 1 ((canonH x).vars.map encInt), .row true 3 1 ((canonH x).next.map encInt), .dead, .dead, .cells [.slref 34 0 (canonH x).vars.length (canonH x).vars.length, .slref 35 0 (canonH x).next.length (canonH x).next.length]]) (by simp [List.replicate]) (by simp [List.replicate])) ?_
    refine cw_seq (go_ok hT ?_); simp [List.replicate]
    refine cw_seq (go_ok hT ?_); simp [List.replicate, z3, z4]
    refine ⟨(canonH x).vars, rfl, (canonH x).next, rfl, z3, z4, rfl, rfl, ?_⟩
    refine cw_weak (weak_seal (n0 := 0) 39 (by simp) (t' := slots 69 [(1, .pbox 0 0), (4, .pbox 12 0), (6, .pbox 38 0), (8, .int .i64 (1 + (canonH x).vars.length + (canonH x).next.length))]) (H' := [.cells [encL 1 encInt x.vars, encL 1 encInt x.next]] ++ List.replicate 11 .dead ++ [.cells [encL 1 encInt (canonH x).vars, encL 1 encInt (canonH x).next]] ++ List.replicate 12 .dead ++ List.replicate 9 .dead ++ [.row true 3 1 ((marks 1 (canonH x).vars.length).map encInt), .row true 3 1 ((marks (1 + (canonH x).vars.length) (canonH x).next.length).map encInt), .dead, .dead, .cells [.slref 34 0 (canonH x).vars.length (canonH x).vars.length, .slref 35 0 (canonH x).next.length (canonH x).next.length]]) (by simp [List.replicate]) (by simp [List.replicate])) ?_
    refine cw_seq (go_ok hT ?_); simp [List.replicate]
    refine cw_seq (go_ok hT ?_); simp [List.replicate, z3, z4]
    refine cw_seq (go_ok hT ?_); simp [List.replicate, n2, n2']
    refine cw_seq (go_ok hT ?_); simp [List.replicate]
    refine cw_weak (weak_seal (n0 := 0) 39 (by simp) (t' := slots 69 [(1, .pbox 0 0), (4, .pbox 12 0), (6, .pbox 38 0), (8, .int .i64 (1 + (canonH x).vars.length + (canonH x).next.length))]) (H' := [.cells [encL 1 encInt x.vars, encL 1 encInt x.next]] ++ List.replicate 11 .dead ++ [.cells [encL 1 encInt (canonH x).vars, encL 1 encInt (canonH x).next]] ++ List.replicate 12 .dead ++ List.replicate 9 .dead ++ [.row true 3 1 ((marks 1 (canonH x).vars.length).map encInt), .row true 3 1 ((marks (1 + (canonH x).vars.length) (canonH x).next.length).map encInt), .dead, .dead, .cells [.slref 34 0 (canonH x).vars.length (canonH x).vars.length, .slref 35 0 (canonH x).next.length (canonH x).next.length]]) (by simp [List.replicate]) (by simp [List.replicate])) ?_
    refine cw_seq (go_ok hT ?_); simp [List.replicate, hx, hR, hN]
    refine cw_seq (go_ok hT ?_); simp [List.replicate]
    refine cw_weak (weak_seal (n0 := 0) 39 (by simp) (t' := slots 69 [(1, .pbox 0 0), (4, .pbox 12 0), (6, .pbox 38 0), (8, .int .i64 (1 + (canonH x).vars.length + (canonH x).next.length))]) (H' := [.cells [encL 1 encInt x.vars, encL 1 encInt x.next]] ++ List.replicate 11 .dead ++ [.cells [encL 1 encInt (canonH x).vars, encL 1 encInt (canonH x).next]] ++ List.replicate 12 .dead ++ List.replicate 9 .dead ++ [.row true 3 1 ((marks 1 (canonH x).vars.length).map encInt), .row true 3 1 ((marks (1 + (canonH x).vars.length) (canonH x).next.length).map encInt), .dead, .dead, .cells [.slref 34 0 (canonH x).vars.length (canonH x).vars.length, .slref 35 0 (canonH x).next.length (canonH x).next.length]]) (by simp [List.replicate]) (by simp [List.replicate])) ?_
    refine cw_seq (go_ok hT ?_); simp [List.replicate]
    refine cw_seq (go_ok hT ?_); simp [List.replicate, z3, z4]
    refine cw_seq (go_ok hT ?_); simp [List.replicate, n2, n2']
    refine cw_seq (go_ok hT ?_); simp [List.replicate]
    refine cw_seq (go_ok hT ?_); simp [List.replicate]
    refine go_ok hT ?_; simp [List.replicate]
end Go.Vm

/- HeapOf: the law. No condition. -/
import Derived.Test.YtmakeoekklcbdaaTHQ
import Derived.Test.YtmakeoekklcbdaaTHS
import Derived.Test.YtmakeoekklcbdaaTSN
set_option linter.unusedSimpArgs false
set_option linter.unusedVariables false
namespace Go.Vm
open Go.Proofs
def code_laws_FnExactHeapOf : F := ⟨101, [.tmp 4],
 .seq (.reg [⟨some 3, .box (.t 1), none⟩,
    ⟨some 4, .mov (.k (.bool false)), none⟩])
 (.seq (.reg [⟨some 5, .mov (.k (.int .i64 1048576)), none⟩])
  (.seq (.reg [⟨some 16, .load 2 true (.t 3), none⟩,
      ⟨some 17, .mov (.t 5), none⟩,
      ⟨some 18, .call 12 [(.t 16), (.t 17)], none⟩,
      ⟨some 5, .mov (.t 18), none⟩])
   (.seq (.seq (.reg [⟨some 19, .mov (.t 5), none⟩,
        ⟨some 20, .bin .lss (.t 19) (.k (.int .i64 0)), none⟩])
     (.cond (.t 20)
      (.seq (.reg [⟨some 4, .mov (.k (.bool true)), none⟩])
       (.ret))
      (.skip)))
    (.seq (.reg [⟨some 22, .mov (.t 0), none⟩,
        ⟨some 23, .load 2 true (.t 3), none⟩,
        ⟨some 24, .call 14 [(.t 23)], none⟩,
        ⟨some 25, .call 13 [(.t 22), (.t 24)], none⟩,
        ⟨some 21, .mov (.t 25), none⟩,
        ⟨some 26, .extr (.t 21) 0, none⟩,
        ⟨some 27, .extr (.t 21) 1, none⟩,
        ⟨some 6, .alloc [(.sl .nil 0 []), (.sl .nil 0 [])], none⟩,
        ⟨none, .store 2 (.t 6) (.t 26), none⟩,
        ⟨some 7, .mov (.t 27), none⟩])
     (.seq (.reg [⟨some 28, .load 2 true (.t 3), none⟩,
         ⟨some 29, .call 14 [(.t 28)], none⟩,
         ⟨some 8, .alloc [(.sl .nil 0 []), (.sl .nil 0 [])], none⟩,
         ⟨none, .store 2 (.t 8) (.t 29), none⟩])
      (.seq (.reg [⟨some 31, .mov (.t 0), none⟩,
          ⟨some 32, .load 2 true (.t 8), none⟩,
          ⟨some 33, .call 15 [(.t 31), (.t 32)], none⟩,
          ⟨some 30, .mov (.t 33), none⟩,
          ⟨some 34, .extr (.t 30) 0, none⟩,
          ⟨some 35, .extr (.t 30) 1, none⟩,
          ⟨some 9, .alloc [(.sl .nil 0 []), (.sl .nil 0 [])], none⟩,
          ⟨none, .store 2 (.t 9) (.t 34), none⟩,
          ⟨some 10, .mov (.t 35), none⟩])
       (.seq (.seq (.reg [⟨some 36, .load 2 true (.t 9), none⟩,
            ⟨some 37, .load 2 true (.t 6), none⟩,
            ⟨some 38, .call 16 [(.t 36), (.t 37)], none⟩,
            ⟨some 39, .not (.t 38), none⟩,
            ⟨some 40, .mov (.t 39), none⟩,
            ⟨some 41, .mov (.t 10), some (40, false)⟩,
            ⟨some 42, .mov (.t 7), some (40, false)⟩,
            ⟨some 43, .beq true (.t 41) (.t 42), some (40, false)⟩,
            ⟨some 44, .pick (.t 40) (.k (.bool true)) (.t 43), none⟩])
         (.cond (.t 44)
          (.seq (.reg [⟨some 4, .mov (.k (.bool false)), none⟩])
           (.ret))
          (.skip)))
        (.seq (.seq (.dreg [false, false, false, true, true] [⟨some 45, .load 2 true (.t 8), none⟩,
             ⟨some 46, .load 2 true (.t 3), none⟩,
             ⟨some 47, .call 14 [(.t 46)], none⟩,
             ⟨some 48, .call 17 [(.t 45), (.t 47)], none⟩,
             ⟨some 49, .not (.t 48), none⟩])
          (.cond (.t 49)
           (.seq (.reg [⟨some 4, .mov (.k (.bool false)), none⟩])
            (.ret))
           (.skip)))
         (.seq (.reg [⟨some 11, .mov (.k (.int .i64 1)), none⟩])
          (.seq (.reg [⟨some 50, .load 2 true (.t 8), none⟩,
              ⟨some 51, .mov (.t 11), none⟩,
              ⟨some 52, .call 18 [(.t 50), (.t 51)], none⟩,
              ⟨some 11, .mov (.t 52), none⟩])
           (.seq (.seq (.reg [⟨some 53, .mov (.t 11), none⟩,
                ⟨some 54, .bin .lss (.t 53) (.k (.int .i64 0)), none⟩,
                ⟨some 55, .mov (.t 54), none⟩,
                ⟨some 56, .load 2 true (.t 9), some (55, false)⟩,
                ⟨some 57, .load 2 true (.t 6), some (55, false)⟩,
                ⟨some 58, .call 16 [(.t 56), (.t 57)], some (55, false)⟩,
                ⟨some 59, .not (.t 58), some (55, false)⟩,
                ⟨some 60, .pick (.t 55) (.k (.bool true)) (.t 59), none⟩,
                ⟨some 61, .mov (.t 60), none⟩,
                ⟨some 62, .mov (.t 10), some (61, false)⟩,
                ⟨some 63, .mov (.t 7), some (61, false)⟩,
                ⟨some 64, .beq true (.t 62) (.t 63), some (61, false)⟩,
                ⟨some 65, .pick (.t 61) (.k (.bool true)) (.t 64), none⟩])
             (.cond (.t 65)
              (.seq (.reg [⟨some 4, .mov (.k (.bool false)), none⟩])
               (.ret))
              (.skip)))
            (.seq (.reg [⟨some 12, .mov (.k (.int .i64 1)), none⟩])
             (.seq (.reg [⟨some 66, .load 2 true (.t 9), none⟩,
                 ⟨some 67, .mov (.t 12), none⟩,
                 ⟨some 68, .call 19 [(.t 66), (.t 67)], none⟩,
                 ⟨some 12, .mov (.t 68), none⟩])
              (.seq (.reg [⟨some 13, .mov (.k (.int .i64 1)), none⟩])
               (.seq (.reg [⟨some 69, .load 2 true (.t 9), none⟩,
                   ⟨some 70, .mov (.t 13), none⟩,
                   ⟨some 71, .call 20 [(.t 69), (.t 70)], none⟩,
                   ⟨some 13, .mov (.t 71), none⟩])
                (.seq (.seq (.reg [⟨some 72, .mov (.t 13), none⟩,
                     ⟨some 73, .bin .lss (.t 72) (.k (.int .i64 0)), none⟩])
                  (.cond (.t 73)
                   (.seq (.reg [⟨some 4, .mov (.k (.bool false)), none⟩])
                    (.ret))
                   (.skip)))
                 (.seq (.seq (.reg [⟨some 74, .mov (.t 13), none⟩,
                      ⟨some 75, .mov (.t 12), none⟩,
                      ⟨some 76, .bin .neq (.t 74) (.t 75), none⟩])
                   (.cond (.t 76)
                    (.seq (.reg [⟨some 4, .mov (.k (.bool false)), none⟩])
                     (.ret))
                    (.skip)))
                  (.seq (.reg [⟨some 78, .mov (.t 0), none⟩,
                      ⟨some 79, .load 2 true (.t 3), none⟩,
                      ⟨some 80, .call 14 [(.t 79)], none⟩,
                      ⟨some 81, .call 15 [(.t 78), (.t 80)], none⟩,
                      ⟨some 77, .mov (.t 81), none⟩,
                      ⟨some 82, .extr (.t 77) 0, none⟩,
                      ⟨some 83, .extr (.t 77) 1, none⟩,
                      ⟨some 14, .alloc [(.sl .nil 0 []), (.sl .nil 0 [])], none⟩,
                      ⟨none, .store 2 (.t 14) (.t 82), none⟩,
                      ⟨some 15, .mov (.t 83), none⟩])
                   (.seq (.seq (.reg [⟨some 84, .load 2 true (.t 14), none⟩,
                        ⟨some 85, .load 2 true (.t 6), none⟩,
                        ⟨some 86, .call 16 [(.t 84), (.t 85)], none⟩,
                        ⟨some 87, .not (.t 86), none⟩,
                        ⟨some 88, .mov (.t 87), none⟩,
                        ⟨some 89, .mov (.t 15), some (88, false)⟩,
                        ⟨some 90, .mov (.t 7), some (88, false)⟩,
                        ⟨some 91, .beq true (.t 89) (.t 90), some (88, false)⟩,
                        ⟨some 92, .pick (.t 88) (.k (.bool true)) (.t 91), none⟩])
                     (.cond (.t 92)
                      (.seq (.reg [⟨some 4, .mov (.k (.bool false)), none⟩])
                       (.ret))
                      (.skip)))
                    (.seq (.reg [⟨some 13, .mov (.k (.int .i64 1)), none⟩])
                     (.seq (.reg [⟨some 93, .load 2 true (.t 9), none⟩,
                         ⟨some 94, .mov (.t 13), none⟩,
                         ⟨some 95, .call 20 [(.t 93), (.t 94)], none⟩,
                         ⟨some 13, .mov (.t 95), none⟩])
                      (.seq (.seq (.reg [⟨some 96, .mov (.t 13), none⟩,
                           ⟨some 97, .bin .lss (.t 96) (.k (.int .i64 0)), none⟩])
                        (.cond (.t 97)
                         (.seq (.reg [⟨some 4, .mov (.k (.bool false)), none⟩])
                          (.ret))
                         (.skip)))
                       (.seq (.seq (.reg [⟨some 98, .mov (.t 13), none⟩,
                            ⟨some 99, .mov (.t 12), none⟩,
                            ⟨some 100, .bin .neq (.t 98) (.t 99), none⟩])
                         (.cond (.t 100)
                          (.seq (.reg [⟨some 4, .mov (.k (.bool false)), none⟩])
                           (.ret))
                          (.skip)))
                        (.seq (.reg [⟨some 4, .mov (.k (.bool true)), none⟩])
                         (.ret)))))))))))))))))))))))))⟩
theorem fok_laws_FnExactHeapOf : FOk Try.prog 3 code_laws_FnExactHeapOf := fok Try.func3 (by kernel_rfl)
/-- impl.HeapOf, told without blocks. -/
@[simp] def ct_pHeapOfP : Ct := ⟨15, Int × Strc, fun x => szStrc x.2 ≤ 1048576, fun x => [.int .i64 x.1, encStrc x.2], fun x => .tup [encHeap (heapOfT x.1 x.2), .bool (heapOfB x.1 x.2)]⟩
theorem hofA_ge (v : Int) (x : Strc) : 4 ≤ hofA v x := by unfold hofA; split <;> (try split) <;> (try split) <;> omega
theorem hofN_v (v : Int) (x : Strc) : (hofN v x)[hofA v x]? = some (.row true 3 1 ((heapOfT v x).vars.map encInt)) := by
  have := hofA_ge v x
  rw [hofN, List.getElem?_append_right (by simp; omega)]
  simp [show hofA v x - (hofA v x - 4 + 4) = 0 by omega]
theorem hofN_n (v : Int) (x : Strc) : (hofN v x)[hofA v x + 1]? = some (.row true 3 1 ((heapOfT v x).next.map encInt)) := by
  have := hofA_ge v x
  rw [hofN, List.getElem?_append_right (by simp; omega)]
  simp [show hofA v x + 1 - (hofA v x - 4 + 4) = 1 by omega]
theorem ok_pHeapOfP : ct_pHeapOfP.Ok Try.prog := by
  rintro ⟨v, x⟩ hp
  have h0 := ok_pHeapOf.ok (v, x) hp
  rw [show ct_pHeapOf.res (v, x) = hofR v x from rfl, hofR] at h0
  refine Ok.of_okHT h0 ?_
  rw [show ct_pHeapOf.new (v, x) = hofN v x from rfl]
  simp [hofN_v, hofN_n, encHeap]
theorem heapOf_len (v : Int) (x : Strc) : (heapOfT v x).vars.length ≤ 4 ∧ (heapOfT v x).next.length ≤ 10 := by
  unfold heapOfT
  split
  · rename_i hh
    simp only [heapOfB, Bool.and_eq_true] at hh
    obtain ⟨⟨v1, v2⟩, n1, -, -⟩ := struct_len hh.1.1
    have h3 : (hvarsT x.nodes v.toNat).length = v.toNat := by simp [hvarsT]
    have h4 : (hnextT x.next x.nodes.length x.nodes.length).length = x.nodes.length := by simp [hnextT]
    obtain ⟨c1, c2⟩ : (heapOfC v x).vars.length ≤ (hvarsT x.nodes v.toNat).length ∧ (heapOfC v x).next.length ≤ (hnextT x.next x.nodes.length x.nodes.length).length := canon_len2 _
    omega
  · simp
set_option maxHeartbeats 8000000 in
set_option maxRecDepth 100000 in
theorem ok_lawHeapOf (v : Int) (x : Strc) : Ok Try.prog 3 [encInt v, encStrc x] (.bool true) := by
  by_cases h1 : (szStrc x : Int) ≤ 1048576
  case neg =>
    refine Ok.of_cw fok_laws_FnExactHeapOf (go_ok (tab_cons ok_szStrc tab_nil) ?_)
    simp [code_laws_FnExactHeapOf, List.replicate, left_neg (by omega : (1048576:Int) < szStrc x)]
  have l1 := left_ge h1
  have hx : szStrc x ≤ 1048576 := by omega
  have a1 : ¬ ((1048576 : Int) - szStrc x < 0) := by omega
  have a1' : ¬ ((1048576 : Int) < szStrc x) := by omega
  have hS : TabOk Try.prog _ := tab_cons ok_szStrc (tab_cons ok_toStrc (tab_cons ok_sHeapOf (tab_cons ok_pHeapOfP (tab_cons ok_eqStrc (tab_cons ok_eqHeap (tab_cons ok_heldHp tab_nil))))))
  refine Ok.of_cw fok_laws_FnExactHeapOf ?_
  simp only [code_laws_FnExactHeapOf, frame, List.length_cons, List.length_nil, List.replicate, Nat.reduceSub, Nat.reduceAdd, List.cons_append, List.nil_append]
  refine cw_seq (go_ok hS ?_); simp [List.replicate]
  refine cw_seq (go_ok hS ?_); simp
  refine cw_seq (go_ok hS ?_); simp [l1, h1]
  refine cw_seq (go_ok hS ?_); simp [a1, a1']
  refine cw_seq (go_ok hS ?_); simp [hx]
  generalize hw : heapOfT v x = w0
  generalize hb : heapOfB v x = b0
  refine cw_weak (weak_seal (n0 := 0) 4 (by simp) (t' := slots 101 [(0, .int .i64 v), (3, .pbox 0 0), (6, .pbox 3 0), (7, .bool b0)]) (H' := [.cells [encL 4 encNode x.nodes, encL 1 encInt x.next], .dead, .dead, .cells [encL 1 encInt w0.vars, encL 1 encInt w0.next]]) (by simp [List.replicate]) (by simp [List.replicate])) ?_
  refine cw_seq (go_ok (tab_h (CtN.hok ok_toStrcN) tab_nil) ?_); simp [List.replicate, hx, strcAt]
  have sX : StrcIn (.cells [encL 4 encNode x.nodes, encL 1 encInt x.next] :: .dead :: .dead :: .cells [encL 1 encInt w0.vars, encL 1 encInt w0.next] :: (List.map (shB 4) (strcBs x) ++ [.nrow, .nrow, .cells [.slref 11 0 x.nodes.length x.nodes.length, .slref (4 + (8 + 9 * x.nodes.length)) 0 x.next.length x.next.length]]) : List Blk) 4 x := strcIn_mk (A := [.cells [encL 4 encNode x.nodes, encL 1 encInt x.next], .dead, .dead, .cells [encL 1 encInt w0.vars, encL 1 encInt w0.next]])
  have sL : (.cells [encL 4 encNode x.nodes, encL 1 encInt x.next] :: .dead :: .dead :: .cells [encL 1 encInt w0.vars, encL 1 encInt w0.next] :: (List.map (shB 4) (strcBs x) ++ [.nrow, .nrow, .cells [.slref 11 0 x.nodes.length x.nodes.length, .slref (4 + (8 + 9 * x.nodes.length)) 0 x.next.length x.next.length]]) : List Blk).length = (strcBs x).length + 7 := by simp
  have s0 : (.cells [encL 4 encNode x.nodes, encL 1 encInt x.next] :: .dead :: .dead :: .cells [encL 1 encInt w0.vars, encL 1 encInt w0.next] :: (List.map (shB 4) (strcBs x) ++ [.nrow, .nrow, .cells [.slref 11 0 x.nodes.length x.nodes.length, .slref (4 + (8 + 9 * x.nodes.length)) 0 x.next.length x.next.length]]) : List Blk)[(strcBs x).length + 1 + 1 + 1 + 1 + 2]? = some (.cells [.slref 11 0 x.nodes.length x.nodes.length, .slref (4 + (8 + 9 * x.nodes.length)) 0 x.next.length x.next.length]) := by
    rw [List.getElem?_cons_succ, List.getElem?_cons_succ, List.getElem?_cons_succ, List.getElem?_cons_succ, List.getElem?_append_right (by simp)]
    simp
  have s1 : (.cells [encL 4 encNode x.nodes, encL 1 encInt x.next] :: .dead :: .dead :: .cells [encL 1 encInt w0.vars, encL 1 encInt w0.next] :: (List.map (shB 4) (strcBs x) ++ [.nrow, .nrow, .cells [.slref 11 0 x.nodes.length x.nodes.length, .slref (4 + (8 + 9 * x.nodes.length)) 0 x.next.length x.next.length]]) : List Blk)[0]? = some (.cells [encL 4 encNode x.nodes, encL 1 encInt x.next]) := rfl
  have s2 : (.cells [encL 4 encNode x.nodes, encL 1 encInt x.next] :: .dead :: .dead :: .cells [encL 1 encInt w0.vars, encL 1 encInt w0.next] :: (List.map (shB 4) (strcBs x) ++ [.nrow, .nrow, .cells [.slref 11 0 x.nodes.length x.nodes.length, .slref (4 + (8 + 9 * x.nodes.length)) 0 x.next.length x.next.length]]) : List Blk)[3]? = some (.cells [encL 1 encInt w0.vars, encL 1 encInt w0.next]) := rfl
  generalize hG : (.cells [encL 4 encNode x.nodes, encL 1 encInt x.next] :: .dead :: .dead :: .cells [encL 1 encInt w0.vars, encL 1 encInt w0.next] :: (List.map (shB 4) (strcBs x) ++ [.nrow, .nrow, .cells [.slref 11 0 x.nodes.length x.nodes.length, .slref (4 + (8 + 9 * x.nodes.length)) 0 x.next.length x.next.length]]) : List Blk) = G at *
  clear hG
  have hbx : (strcBs x).length = 9 + 9 * x.nodes.length := by simp [strcBs, lblk_len]; omega
  generalize hP0 : (strcBs x).length + 1 + 1 + 1 + 1 + 2 = P0 at *
  generalize hC0 : 4 + (8 + 9 * x.nodes.length) = C0 at *
  have lx : ∀ G', StrcIn G' 4 x → lendC (fun _ _ => true) G' 20 (.slref 11 0 x.nodes.length x.nodes.length) = some (encL 4 encNode x.nodes) ∧ lendC (fun _ _ => true) G' 20 (.slref C0 0 x.next.length x.next.length) = some (encL 1 encInt x.next) := fun G' h => by
    have := h.lend
    rwa [show 4 + 8 + 9 * x.nodes.length = C0 by omega] at this
  obtain ⟨x1, x2⟩ := lx G sX
  have g1 : ∀ a b c, (G ++ (List.map (shB G.length) (hofN v x) ++ [a, b, c]))[G.length + (hofN v x).length + 2]? = some c := fun a b c => by
    rw [Nat.add_assoc, getHk, List.getElem?_append_right (by simp)]; simp
  have g2 : ∀ a b c d, (G ++ (List.map (shB G.length) (hofN v x) ++ [a, b, c])).set (G.length + (hofN v x).length + 2) d = G ++ (List.map (shB G.length) (hofN v x) ++ [a, b, d]) := fun a b c d => by
    rw [Nat.add_assoc, setHk, List.set_append_right _ _ (by simp)]; simp
  have hR : hofR v x = .tup [.agg [.slref (hofA v x) 0 w0.vars.length w0.vars.length, .slref (hofA v x + 1) 0 w0.next.length w0.next.length], .bool b0] := by simp only [hofR, hw, hb]
  have hA : 4 ≤ hofA v x := by unfold hofA; split <;> (try split) <;> (try split) <;> omega
  have hNl : (hofN v x).length = hofA v x + 2 := by simp [hofN]; omega
  have hNv : (hofN v x)[hofA v x]? = some (.row true 3 1 (w0.vars.map encInt)) := by
    rw [hofN, hw, List.getElem?_append_right (by simp; omega)]
    simp [show hofA v x - (hofA v x - 4 + 4) = 0 by omega]
  have hNn : (hofN v x)[hofA v x + 1]? = some (.row true 3 1 (w0.next.map encInt)) := by
    rw [hofN, hw, List.getElem?_append_right (by simp; omega)]
    simp [show hofA v x + 1 - (hofA v x - 4 + 4) = 1 by omega]
  refine cw_seq (go_ok (tab_h (CtN.hok ok_pHeapOf) tab_nil) ?_); simp [List.replicate, hx, hR, s0, s1, s2, x1, x2, getH0, getHk, setH0, setHk, g1, g2]
  have t3 := g1 .nrow .nrow (.cells [.slref (G.length + hofA v x) 0 w0.vars.length w0.vars.length, .slref (G.length + (hofA v x + 1)) 0 w0.next.length w0.next.length])
  have hpre : ∀ j, j < G.length → (G ++ (List.map (shB G.length) (hofN v x) ++ [Blk.nrow, Blk.nrow, Blk.cells [.slref (G.length + hofA v x) 0 w0.vars.length w0.vars.length, .slref (G.length + (hofA v x + 1)) 0 w0.next.length w0.next.length]]))[j]? = G[j]? := fun j hj => List.getElem?_append_left hj
  have tv : (G ++ (List.map (shB G.length) (hofN v x) ++ [Blk.nrow, Blk.nrow, Blk.cells [.slref (G.length + hofA v x) 0 w0.vars.length w0.vars.length, .slref (G.length + (hofA v x + 1)) 0 w0.next.length w0.next.length]]))[G.length + hofA v x]? = some (.row true 3 1 (w0.vars.map encInt)) := by
    rw [getHk, List.getElem?_append_left (by simp; omega), List.getElem?_map, hNv]; simp
  have tn : (G ++ (List.map (shB G.length) (hofN v x) ++ [Blk.nrow, Blk.nrow, Blk.cells [.slref (G.length + hofA v x) 0 w0.vars.length w0.vars.length, .slref (G.length + (hofA v x + 1)) 0 w0.next.length w0.next.length]]))[G.length + (hofA v x + 1)]? = some (.row true 3 1 (w0.next.map encInt)) := by
    rw [getHk, List.getElem?_append_left (by simp; omega), List.getElem?_map, hNn]; simp
  generalize (G ++ (List.map (shB G.length) (hofN v x) ++ [Blk.nrow, Blk.nrow, Blk.cells [.slref (G.length + hofA v x) 0 w0.vars.length w0.vars.length, .slref (G.length + (hofA v x + 1)) 0 w0.next.length w0.next.length]])) = G2 at *
  generalize hP1 : G.length + (hofN v x).length + 2 = P1 at *
  generalize hV1 : G.length + hofA v x = V1 at *
  generalize hN1 : G.length + (hofA v x + 1) = N1 at *
  have u0 : G2[P0]? = some (.cells [.slref 11 0 x.nodes.length x.nodes.length, .slref C0 0 x.next.length x.next.length]) := by rw [hpre _ (by omega), s0]
  have u1 : G2[0]? = some (.cells [encL 4 encNode x.nodes, encL 1 encInt x.next]) := by rw [hpre _ (by omega), s1]
  have u2 : G2[3]? = some (.cells [encL 1 encInt w0.vars, encL 1 encInt w0.next]) := by rw [hpre _ (by omega), s2]
  have uX : StrcIn G2 4 x := sX.congr fun j _ hj => hpre j (by omega)
  have dP0 : P0 = 15 + 9 * x.nodes.length := by omega
  have dC0 : C0 = 12 + 9 * x.nodes.length := by omega
  have dL : G.length = 16 + 9 * x.nodes.length := by omega
  have dV1 : 20 + 9 * x.nodes.length ≤ V1 := by omega
  have dN1 : N1 = V1 + 1 := by omega
  have dP1 : P1 = V1 + 4 := by omega
  clear hpre g1 g2 s0 s1 s2 sX sL hP0 hP1 hC0 hV1 hN1 x1 x2
  obtain ⟨x3, x4⟩ := lx G2 uX
  have lv : ∀ G' : List Blk, G'[V1]? = some (.row true 3 1 (w0.vars.map encInt)) → lendC (fun _ _ => true) G' 20 (.slref V1 0 w0.vars.length w0.vars.length) = some (encL 1 encInt w0.vars) := fun G' h => by simp [lendC, h]
  have ln : ∀ G' : List Blk, G'[N1]? = some (.row true 3 1 (w0.next.map encInt)) → lendC (fun _ _ => true) G' 20 (.slref N1 0 w0.next.length w0.next.length) = some (encL 1 encInt w0.next) := fun G' h => by simp [lendC, h]
  have v1 := lv G2 tv
  have v2 := ln G2 tn
  refine cw_seq (go_ok hS ?_); simp [List.replicate, t3, u2, v1, v2]
  refine cw_seq (go_ok hS ?_); simp [List.replicate, hx, x3, x4, u0, u1]
  have hz := heapOf_len v x
  rw [hw] at hz
  have z3 : w0.vars.length ≤ 1048576 := by omega
  have z4 : w0.next.length ≤ 1048576 := by omega
  have bX := szN_sum x.nodes
  have bX2 : szStrc x = szNodes x.nodes + x.next.length := rfl
  have bX3 : x.nodes.length ≤ 1048576 := by have := (strc_le x).1; omega
  refine cw_seq (go_ok hS ?_); simp [List.replicate]
  refine cw_seq (go_ok (tab_h ok_markStrc tab_nil) ?_); simp [List.replicate, u0]
  have rX : rowOk G2 11 C0 11 (x.nodes.map szN) := by have := uX.rowOk hx; rwa [show 4 + 8 + 9 * x.nodes.length = C0 by omega] at this
  have nX := uX.next
  rw [show 4 + 8 + 9 * x.nodes.length = C0 by omega] at nX
  have uL : N1 < G2.length := (List.getElem?_eq_some_iff.1 tn).1
  refine ⟨x.nodes.map szN, by simp, 11, C0, x.next, rfl, by omega, by simp; omega, by omega, by omega, by omega, Nat.le_refl _, rX, nX, ?_⟩
  have e4 : ∀ j, j < 11 ∨ C0 < j → ((deadR 11 C0 G2).set C0 (.row true 3 1 (List.map encInt (marks (1 + ((x.nodes.map szN).sum : Nat)) x.next.length))))[j]? = G2[j]? := fun j hj => by rw [List.getElem?_set_ne (by omega), deadR_get (by omega) (by omega), if_pos (by omega)]
  generalize (deadR 11 C0 G2).set C0 (.row true 3 1 (List.map encInt (marks (1 + ((x.nodes.map szN).sum : Nat)) x.next.length))) = G4 at *
  have w1 : G4[0]? = _ := (e4 _ (by omega)).trans u1
  have w2 : G4[3]? = _ := (e4 _ (by omega)).trans u2
  have wP : G4[P1]? = _ := (e4 _ (by omega)).trans t3
  have wv : G4[V1]? = _ := (e4 _ (by omega)).trans tv
  have wn : G4[N1]? = _ := (e4 _ (by omega)).trans tn
  have v3 := lv G4 wv
  have v4 := ln G4 wn
  have nk : ¬ (1 + (((x.nodes.map szN).sum : Nat) : Int) + x.next.length < 0) := by omega
  refine cw_seq (go_ok hS ?_); simp [List.replicate, nk, wP, w2, v3, v4]
  refine cw_seq (go_ok hS ?_); simp [List.replicate]
  have dne : ¬ V1 = N1 := by omega
  refine cw_seq (go_ok (tab_h (ok_markHp 3) tab_nil) ?_); simp [List.replicate, wP, z3, z4, dne]
  refine ⟨w0.vars, rfl, w0.next, rfl, z3, z4, wv, wn, ?_⟩
  have e5 : ∀ j, j ≠ V1 → j ≠ N1 → ((G4.set V1 (.row true 3 1 (List.map encInt (marks 1 w0.vars.length)))).set N1 (.row true 3 1 (List.map encInt (marks (1 + w0.vars.length) w0.next.length))))[j]? = G4[j]? := fun j h1 h2 => by rw [List.getElem?_set_ne (by omega), List.getElem?_set_ne (by omega)]
  have hfv := (List.getElem?_eq_some_iff.1 wv).1
  have hfn := (List.getElem?_eq_some_iff.1 wn).1
  have qv : ((G4.set V1 (.row true 3 1 (List.map encInt (marks 1 w0.vars.length)))).set N1 (.row true 3 1 (List.map encInt (marks (1 + w0.vars.length) w0.next.length))))[V1]? = some (.row true 3 1 (List.map encInt (marks 1 w0.vars.length))) := by
    rw [List.getElem?_set_ne (by omega), List.getElem?_set_self hfv]
  have qn : ((G4.set V1 (.row true 3 1 (List.map encInt (marks 1 w0.vars.length)))).set N1 (.row true 3 1 (List.map encInt (marks (1 + w0.vars.length) w0.next.length))))[N1]? = some (.row true 3 1 (List.map encInt (marks (1 + w0.vars.length) w0.next.length))) := List.getElem?_set_self (by simpa using hfn)
  generalize (G4.set V1 (.row true 3 1 (List.map encInt (marks 1 w0.vars.length)))).set N1 (.row true 3 1 (List.map encInt (marks (1 + w0.vars.length) w0.next.length))) = G5 at *
  have q1 : G5[0]? = _ := (e5 _ (by omega) (by omega)).trans w1
  have q2 : G5[3]? = _ := (e5 _ (by omega) (by omega)).trans w2
  have qP : G5[P1]? = _ := (e5 _ (by omega) (by omega)).trans wP
  have tm1 : List.take w0.vars.length (List.map encInt (marks 1 w0.vars.length)) = List.map encInt (marks 1 w0.vars.length) := List.take_of_length_le (by simp)
  have tm2 : List.take w0.next.length (List.map encInt (marks (1 + w0.vars.length) w0.next.length)) = List.map encInt (marks (1 + w0.vars.length) w0.next.length) := List.take_of_length_le (by simp)
  have m1 : lendC (fun _ _ => true) G5 20 (.slref V1 0 w0.vars.length w0.vars.length) = some (encL 1 encInt (marks 1 w0.vars.length)) := by simp [lendC, qv, tm1]
  have m2 : lendC (fun _ _ => true) G5 20 (.slref N1 0 w0.next.length w0.next.length) = some (encL 1 encInt (marks (1 + w0.vars.length) w0.next.length)) := by simp [lendC, qn, tm2]
  have n2 : ¬ ((1 : Int) + w0.vars.length + w0.next.length < 0) := by omega
  have n2' : ¬ ((w0.vars.length : Int) + w0.next.length + 1 < 0) := by omega
  refine cw_seq (go_ok hS ?_); simp [List.replicate]
  refine cw_seq (go_ok hS ?_); simp [List.replicate, z3, z4, qP, m1, m2]
  refine cw_seq (go_ok hS ?_); simp [List.replicate, n2, n2']
  refine cw_seq (go_ok hS ?_); simp [List.replicate]
  refine cw_seq (go_ok hS ?_); simp [List.replicate, hx, q1, hw, hb]
  have e6 : ∀ j, j < G5.length → (G5 ++ [Blk.nrow, Blk.nrow, Blk.cells [encL 1 encInt w0.vars, encL 1 encInt w0.next]])[j]? = G5[j]? := fun j hj => List.getElem?_append_left hj
  have r14 : (G5 ++ [Blk.nrow, Blk.nrow, Blk.cells [encL 1 encInt w0.vars, encL 1 encInt w0.next]])[G5.length + 2]? = some (.cells [encL 1 encInt w0.vars, encL 1 encInt w0.next]) := by rw [getHk]; rfl
  have lP : P1 < G5.length := (List.getElem?_eq_some_iff.1 qP).1
  have r2 : (G5 ++ [Blk.nrow, Blk.nrow, Blk.cells [encL 1 encInt w0.vars, encL 1 encInt w0.next]])[3]? = _ := (e6 _ (by omega)).trans q2
  have rP : (G5 ++ [Blk.nrow, Blk.nrow, Blk.cells [encL 1 encInt w0.vars, encL 1 encInt w0.next]])[P1]? = _ := (e6 _ (by omega)).trans qP
  have rv : (G5 ++ [Blk.nrow, Blk.nrow, Blk.cells [encL 1 encInt w0.vars, encL 1 encInt w0.next]])[V1]? = _ := (e6 _ (by omega)).trans qv
  have rn : (G5 ++ [Blk.nrow, Blk.nrow, Blk.cells [encL 1 encInt w0.vars, encL 1 encInt w0.next]])[N1]? = _ := (e6 _ (by omega)).trans qn
  generalize (G5 ++ [Blk.nrow, Blk.nrow, Blk.cells [encL 1 encInt w0.vars, encL 1 encInt w0.next]]) = G6 at *
  generalize G5.length + 2 = P6 at *
  have m3 : lendC (fun _ _ => true) G6 20 (.slref V1 0 w0.vars.length w0.vars.length) = some (encL 1 encInt (marks 1 w0.vars.length)) := by simp [lendC, rv, tm1]
  have m4 : lendC (fun _ _ => true) G6 20 (.slref N1 0 w0.next.length w0.next.length) = some (encL 1 encInt (marks (1 + w0.vars.length) w0.next.length)) := by simp [lendC, rn, tm2]
  refine cw_seq (go_ok hS ?_); simp [List.replicate, r14, r2]
  refine cw_seq (go_ok hS ?_); simp [List.replicate]
  refine cw_seq (go_ok hS ?_); simp [List.replicate, z3, z4, rP, m3, m4]
  refine cw_seq (go_ok hS ?_); simp [List.replicate, n2, n2']
  refine cw_seq (go_ok hS ?_); simp [List.replicate]
  refine go_ok hS ?_; simp [List.replicate]
end Go.Vm

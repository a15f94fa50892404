/- ListHeaps: the law. No condition. -/
import Derived.Test.YtmakeoekklcbdaaTZD
set_option linter.unusedSimpArgs false
set_option linter.unusedVariables false
namespace Go.Vm
open Go.Proofs
def code_laws_eqHeapS : F := ⟨27, [.tmp 4],
 .seq (.reg [⟨some 4, .mov (.k (.bool false)), none⟩])
 (.seq (.seq (.reg [⟨some 6, .mov (.t 0), none⟩,
      ⟨some 7, .len (.t 6), none⟩,
      ⟨some 8, .mov (.t 1), none⟩,
      ⟨some 9, .len (.t 8), none⟩,
      ⟨some 10, .bin .neq (.t 7) (.t 9), none⟩])
   (.cond (.t 10)
    (.seq (.reg [⟨some 4, .mov (.k (.bool false)), none⟩])
     (.ret))
    (.skip)))
  (.seq (.seq (.reg [⟨some 5, .mov (.k (.int .i64 0)), none⟩])
    (.block 0 (.loop (.seq (.seq (.reg [⟨some 11, .mov (.t 5), none⟩,
           ⟨some 12, .mov (.t 0), none⟩,
           ⟨some 13, .len (.t 12), none⟩,
           ⟨some 14, .bin .lss (.t 11) (.t 13), none⟩])
        (.cond (.t 14)
         (.skip)
         (.exit 0)))
       (.seq (.block 1 (.seq (.dreg [false, false, false, false, false, false, false, false, true, true] [false, false, false, false, false, false, false, false, true, false] [⟨some 17, .mov (.t 0), none⟩,
             ⟨some 18, .mov (.t 5), none⟩,
             ⟨some 19, .iaddr 2 (.t 17) (.t 18), none⟩,
             ⟨some 20, .load 2 true (.t 19), none⟩,
             ⟨some 21, .mov (.t 1), none⟩,
             ⟨some 22, .mov (.t 5), none⟩,
             ⟨some 23, .iaddr 2 (.t 21) (.t 22), none⟩,
             ⟨some 24, .load 2 true (.t 23), none⟩,
             ⟨some 25, .call 16 [(.t 20), (.t 24)], none⟩,
             ⟨some 26, .not (.t 25), none⟩])
          (.cond (.t 26)
           (.seq (.reg [⟨some 4, .mov (.k (.bool false)), none⟩])
            (.ret))
           (.skip))))
        (.reg [⟨some 15, .mov (.t 5), none⟩,
           ⟨some 16, .bin .add (.t 15) (.k (.int .i64 1)), none⟩,
           ⟨some 5, .mov (.t 16), none⟩]))))))
   (.seq (.reg [⟨some 4, .mov (.k (.bool true)), none⟩])
    (.ret))))⟩
theorem fok_laws_eqHeapS : FOk Try.prog 28 code_laws_eqHeapS := fok Try.func28 (by kernel_rfl)
@[simp] def ct_eqHeaps : Ct := ⟨28, List Heap × List Heap, fun _ => True, fun x => [encL 2 encHeap x.1, encL 2 encHeap x.2], fun x => .bool (decide (x.1 = x.2))⟩
theorem ok_eqHeaps : ct_eqHeaps.Ok Try.prog := by
  rintro ⟨xs, ys⟩ -
  refine Ok.lens fun hl => Ok.of_cw fok_laws_eqHeapS (go_ok tab_nil ?_)
  have hl : lensOkL [encL 2 encHeap xs, encL 2 encHeap ys] := hl
  rw [lensOkL_cons, lensOk_encL] at hl
  have hl := hl.1.1
  simp [code_laws_eqHeapS, List.replicate]
  refine ⟨fun h => by intro e; rw [e] at h; exact h rfl, fun hlen => ?_⟩
  refine cw_round (fun (i : Nat) => ⟨slots 27 [(0, encL 2 encHeap xs), (1, encL 2 encHeap ys), (5, .int .i64 i)], []⟩)
    (fun i => i ≤ xs.length ∧ xs.take i = ys.take i) (fun i => xs.length - i) 0 (by simp) ?_ ?_
  · exact weak_seal 0 (by omega) (by simp) (by simp [List.replicate])
  · rintro N hN i ⟨hi, ht⟩
    refine go_ok (tab_cons ok_eqHeap tab_nil) ?_
    by_cases h : i < xs.length
    · have hw : IntKind.i64.wrap ((i : Int) + 1) = ((i + 1 : Nat) : Int) := by rw [wrap_i64] <;> omega
      have h2 : ¬ xs.length ≤ i := by omega
      have h3 : i < ys.length := by omega
      simp [List.replicate, hw, h, h2, h3]
      refine ⟨take_ne h h3, fun he => hN _ (i + 1) _ ⟨by omega, take_step h h3 ht he⟩ (by omega) (weak_seal 0 (by omega) ?_ ?_)⟩
      · simp
      · simp [List.replicate]
    · simp [List.replicate, h]
      exact ⟨by omega, fun k => take_done (by omega) k ht⟩
def code_laws_FnExactListHeaps : F := ⟨46, [.tmp 4],
 .seq (.reg [⟨some 4, .mov (.k (.bool false)), none⟩])
 (.seq (.reg [⟨some 10, .mov (.t 0), none⟩,
     ⟨some 11, .mov (.t 1), none⟩,
     ⟨some 12, .call 26 [(.t 10), (.t 11)], none⟩,
     ⟨some 5, .mov (.t 12), none⟩])
  (.seq (.reg [⟨some 13, .mov (.t 0), none⟩,
      ⟨some 14, .mov (.t 1), none⟩,
      ⟨some 15, .call 27 [(.t 13), (.t 14)], none⟩,
      ⟨some 6, .mov (.t 15), none⟩])
   (.seq (.seq (.reg [⟨some 16, .mov (.t 6), none⟩,
        ⟨some 17, .mov (.t 5), none⟩,
        ⟨some 18, .call 28 [(.t 16), (.t 17)], none⟩,
        ⟨some 19, .not (.t 18), none⟩])
     (.cond (.t 19)
      (.seq (.reg [⟨some 4, .mov (.k (.bool false)), none⟩])
       (.ret))
      (.skip)))
    (.seq (.reg [⟨some 7, .mov (.k (.int .i64 1)), none⟩])
     (.seq (.reg [⟨some 20, .mov (.t 6), none⟩,
         ⟨some 21, .mov (.t 7), none⟩,
         ⟨some 22, .call 29 [(.t 20), (.t 21)], none⟩,
         ⟨some 7, .mov (.t 22), none⟩])
      (.seq (.reg [⟨some 8, .mov (.k (.int .i64 1)), none⟩])
       (.seq (.reg [⟨some 23, .mov (.t 6), none⟩,
           ⟨some 24, .mov (.t 8), none⟩,
           ⟨some 25, .call 30 [(.t 23), (.t 24)], none⟩,
           ⟨some 8, .mov (.t 25), none⟩])
        (.seq (.seq (.reg [⟨some 26, .mov (.t 8), none⟩,
             ⟨some 27, .bin .lss (.t 26) (.k (.int .i64 0)), none⟩])
          (.cond (.t 27)
           (.seq (.reg [⟨some 4, .mov (.k (.bool false)), none⟩])
            (.ret))
           (.skip)))
         (.seq (.seq (.reg [⟨some 28, .mov (.t 8), none⟩,
              ⟨some 29, .mov (.t 7), none⟩,
              ⟨some 30, .bin .neq (.t 28) (.t 29), none⟩])
           (.cond (.t 30)
            (.seq (.reg [⟨some 4, .mov (.k (.bool false)), none⟩])
             (.ret))
            (.skip)))
          (.seq (.reg [⟨some 31, .mov (.t 0), none⟩,
              ⟨some 32, .mov (.t 1), none⟩,
              ⟨some 33, .call 27 [(.t 31), (.t 32)], none⟩,
              ⟨some 9, .mov (.t 33), none⟩])
           (.seq (.seq (.reg [⟨some 34, .mov (.t 9), none⟩,
                ⟨some 35, .mov (.t 5), none⟩,
                ⟨some 36, .call 28 [(.t 34), (.t 35)], none⟩,
                ⟨some 37, .not (.t 36), none⟩])
             (.cond (.t 37)
              (.seq (.reg [⟨some 4, .mov (.k (.bool false)), none⟩])
               (.ret))
              (.skip)))
            (.seq (.reg [⟨some 8, .mov (.k (.int .i64 1)), none⟩])
             (.seq (.reg [⟨some 38, .mov (.t 6), none⟩,
                 ⟨some 39, .mov (.t 8), none⟩,
                 ⟨some 40, .call 30 [(.t 38), (.t 39)], none⟩,
                 ⟨some 8, .mov (.t 40), none⟩])
              (.seq (.seq (.reg [⟨some 41, .mov (.t 8), none⟩,
                   ⟨some 42, .bin .lss (.t 41) (.k (.int .i64 0)), none⟩])
                (.cond (.t 42)
                 (.seq (.reg [⟨some 4, .mov (.k (.bool false)), none⟩])
                  (.ret))
                 (.skip)))
               (.seq (.seq (.reg [⟨some 43, .mov (.t 8), none⟩,
                    ⟨some 44, .mov (.t 7), none⟩,
                    ⟨some 45, .bin .neq (.t 43) (.t 44), none⟩])
                 (.cond (.t 45)
                  (.seq (.reg [⟨some 4, .mov (.k (.bool false)), none⟩])
                   (.ret))
                  (.skip)))
                (.seq (.reg [⟨some 4, .mov (.k (.bool true)), none⟩])
                 (.ret)))))))))))))))))⟩
theorem fok_laws_FnExactListHeaps : FOk Try.prog 5 code_laws_FnExactListHeaps := fok Try.func5 (by kernel_rfl)
theorem lblkH_get (v : Nat) : ∀ n j, j < n → (lblkH v n)[11 * j + 9]? = some (rowI (vsT v j)) ∧ (lblkH v n)[11 * j + 10]? = some (rowI (nxT j j))
  | 0, j, h => absurd h (by omega)
  | n + 1, j, h => by
    have hl := lblkH_len v n
    by_cases e : j < n
    · obtain ⟨a, b⟩ := lblkH_get v n j e
      simp only [lblkH]
      rw [List.getElem?_append_left (by omega), List.getElem?_append_left (by omega)]
      exact ⟨a, b⟩
    · have e : j = n := by omega
      subst e
      simp only [lblkH]
      rw [List.getElem?_append_right (by omega), List.getElem?_append_right (by omega), show 11 * j + 9 - (lblkH v j).length = 9 by omega, show 11 * j + 10 - (lblkH v j).length = 10 by omega]
      exact ⟨rfl, rfl⟩
theorem lend_laidH {H : List Blk} {v : Nat} {h : Nat → Heap} {d : Nat} : ∀ n, (∀ j, j < n → (h j).vars.length = v ∧ (h j).next.length = j ∧ H[1 + 11 * j + 9]? = some (rowI (h j).vars) ∧ H[1 + 11 * j + 10]? = some (rowI (h j).next)) → lendEls (fun _ _ => true) H (d + 2) (laidH v n) = some (((List.range n).map h).map encHeap)
  | 0, _ => by simp [laidH, lendEls]
  | n + 1, hh => by
    have ih := lend_laidH (d := d) n fun j hj => hh j (by omega)
    obtain ⟨a, b, c1, c2⟩ := hh n (by omega)
    have e1 : lendC (fun _ _ => true) H (d + 2) (.slref (1 + 11 * n + 9) 0 v v) = some (encL 1 encInt (h n).vars) := by rw [← a]; simp [lendC, c1, rowI]
    have e2 : lendC (fun _ _ => true) H (d + 2) (.slref (1 + 11 * n + 10) 0 n n) = some (encL 1 encInt (h n).next) := by
      have : lendC (fun _ _ => true) H (d + 2) (.slref (1 + 11 * n + 10) 0 (h n).next.length (h n).next.length) = some (encL 1 encInt (h n).next) := by simp [lendC, c2, rowI]
      rwa [b] at this
    have e3 : lendEls (fun _ _ => true) H (d + 2) [hAt v (1 + 11 * n) n] = some [encHeap (h n)] := by
      simp only [hAt, lendEls, lendCs, e1, e2]
      rfl
    simp only [laidH, List.range_succ, List.map_append, List.map_cons, List.map_nil]
    rw [lendEls_append, ih, e3]
    rfl
theorem lend_heaps {H : List Blk} {v n : Nat} {h : Nat → Heap} (h0 : H[0]? = some (.row true 28 2 (laidH v n))) (hh : ∀ j, j < n → (h j).vars.length = v ∧ (h j).next.length = j ∧ H[1 + 11 * j + 9]? = some (rowI (h j).vars) ∧ H[1 + 11 * j + 10]? = some (rowI (h j).next)) : lendC (fun _ _ => true) H 20 (.slref 0 0 n n) = some (encL 2 encHeap ((List.range n).map h)) := by
  have e := lend_laidH (d := 17) n hh
  have hl := laidH_len v n
  simp only [lendC, h0, hl, Nat.zero_add, Nat.le_refl, and_self, if_true, List.drop_zero]
  rw [List.take_of_length_le (by omega), e]
  rfl
theorem laidH_sh0 (v : Nat) : ∀ n, shL 0 (laidH v n) = laidH v n
  | 0 => by simp [laidH]
  | n + 1 => by
    have := laidH_sh0 v n
    rw [shL_map] at this ⊢
    simp only [laidH, List.map_append, this]
    simp [hAt]
theorem lblkH_sh0 (v : Nat) : ∀ n, (lblkH v n).map (shB 0) = lblkH v n
  | 0 => by simp [lblkH]
  | n + 1 => by
    simp only [lblkH, List.map_append, lblkH_sh0 v n]
    simp [hBs]
theorem vsT_len {v j : Nat} (h : 1 ≤ v) : (vsT v j).length = v := by simp [vsT]; omega
theorem nxT_len (n k : Nat) : (nxT n k).length = k := by simp [nxT]
def fitL (a b : Int) : Prop := 1 ≤ a ∧ a ≤ 4 ∧ 0 ≤ b ∧ b ≤ 6
instance (a b : Int) : Decidable (fitL a b) := by unfold fitL; infer_instance
def vL (a b : Int) : Nat := if fitL a b then a.toNat else 1
def nL (a b : Int) : Nat := if fitL a b then b.toNat + 1 else 0
theorem listsF_eq (a b : Int) : listsF a b = listsT (vL a b) (nL a b) := by
  by_cases h : fitL a b
  · rw [vL, nL, if_pos h, if_pos h]; exact if_pos h
  · rw [vL, nL, if_neg h, if_neg h]; exact if_neg h
theorem vL_le (a b : Int) : 1 ≤ vL a b ∧ vL a b ≤ 4 ∧ nL a b ≤ 7 := by
  by_cases h : fitL a b
  · rw [vL, nL, if_pos h, if_pos h]; unfold fitL at h; omega
  · rw [vL, nL, if_neg h, if_neg h]; omega
@[simp] def ct_pListsX : CtN := ⟨27, Int × Int, fun _ => True, fun x => [.int .i64 x.1, .int .i64 x.2], fun x => .slref 0 0 (nL x.1 x.2) (nL x.1 x.2), fun x => .row true 28 2 (laidH (vL x.1 x.2) (nL x.1 x.2)) :: lblkH (vL x.1 x.2) (nL x.1 x.2)⟩
set_option maxHeartbeats 2000000 in
theorem ok_pListsX : ct_pListsX.Ok Try.prog := by
  refine ⟨?_, fun _ _ => rfl, fun x _ k hk => by
    simp only [ct_pListsX, List.mem_cons] at hk
    rcases hk with rfl | hk
    · exact laidH_own _ _
    · exact lblkH_own _ _ k hk⟩
  rintro ⟨a, b⟩ -
  by_cases hf : fitL a b
  · have e1 : vL a b = a.toNat := if_pos hf
    have e2 : nL a b = b.toNat + 1 := if_pos hf
    obtain ⟨h1, h2, h3, h4⟩ := hf
    have := ok_pListsN.1 (a.toNat, b.toNat) ⟨⟨by simp only; omega, by simp only; omega⟩, by simp only; omega⟩
    simp only [ct_pListsN, ct_pListsX, e1, e2] at this ⊢
    rwa [show ((a.toNat : Nat) : Int) = a by omega, show ((b.toNat : Nat) : Int) = b by omega] at this
  · have e2 : nL a b = 0 := if_neg hf
    simp only [ct_pListsX, e2]
    have hx : ¬ ((1 ≤ a ∧ a ≤ 4) ∧ 0 ≤ b ∧ b ≤ 6) := fun h => hf ⟨h.1.1, h.1.2, h.2.1, h.2.2⟩
    refine OkH.of_cw fok_impl_ListHeaps (go_ok (tab_cons ok_within tab_nil) ?_)
    by_cases c : 1 ≤ a ∧ a ≤ 4
    · have h3 : ¬ (0 ≤ b ∧ b ≤ 6) := fun e => hf ⟨c.1, c.2, e.1, e.2⟩
      have c1 : ¬ a < 1 := by omega
      have c2 : ¬ 4 < a := by omega
      by_cases d : 0 ≤ b
      · have d2 : ¬ b ≤ 6 := fun e => h3 ⟨d, e⟩
        have d3 : 6 < b := by omega
        have d4 : ¬ b < 0 := by omega
        simp [code_impl_ListHeaps, List.replicate, c.1, c.2, c1, c2, d, d2, d3, d4]
        refine ⟨_, weak_nil 4 28 2 rfl rfl, ?_⟩
        simp [retH, laidH, lblkH]
      · have d4 : b < 0 := by omega
        simp [code_impl_ListHeaps, List.replicate, c.1, c.2, c1, c2, d, d4]
        refine ⟨_, weak_nil 4 28 2 rfl rfl, ?_⟩
        simp [retH, laidH, lblkH]
    · by_cases d : 1 ≤ a
      · have d2 : ¬ a ≤ 4 := fun e => c ⟨d, e⟩
        have d3 : 4 < a := by omega
        have d4 : ¬ a < 1 := by omega
        simp [code_impl_ListHeaps, List.replicate, d, d2, d3, d4]
        refine ⟨_, weak_nil 4 28 2 rfl rfl, ?_⟩
        simp [retH, laidH, lblkH]
      · have d4 : a < 1 := by omega
        simp [code_impl_ListHeaps, List.replicate, d, d4]
        refine ⟨_, weak_nil 4 28 2 rfl rfl, ?_⟩
        simp [retH, laidH, lblkH]
theorem lend_new (v n : Nat) (hv : 1 ≤ v) : lendC (fun _ _ => true) (.row true 28 2 (laidH v n) :: lblkH v n) 20 (.slref 0 0 n n) = some (encL 2 encHeap (listsT v n)) := by
  refine lend_heaps rfl fun j hj => ⟨vsT_len hv, nxT_len j j, ?_, ?_⟩
  · rw [show 1 + 11 * j + 9 = 11 * j + 9 + 1 by omega, List.getElem?_cons_succ]; exact (lblkH_get v n j hj).1
  · rw [show 1 + 11 * j + 10 = 11 * j + 10 + 1 by omega, List.getElem?_cons_succ]; exact (lblkH_get v n j hj).2
@[simp] def ct_pListsP : Ct := ⟨27, Int × Int, fun _ => True, fun x => [.int .i64 x.1, .int .i64 x.2], fun x => encL 2 encHeap (listsF x.1 x.2)⟩
theorem ok_pListsP : ct_pListsP.Ok Try.prog := by
  rintro ⟨a, b⟩ -
  refine Ok.of_okH (ok_pListsX.1 (a, b) trivial) ?_
  have := lend_new (vL a b) (nL a b) (vL_le a b).1
  simp only [ct_pListsX, ct_pListsP, listsF_eq]
  simpa using this
set_option maxHeartbeats 8000000 in
set_option maxRecDepth 100000 in
theorem ok_lawListHeaps (a b : Int) : Ok Try.prog 5 [.int .i64 a, .int .i64 b] (.bool true) := by
  obtain ⟨v1, v2, n1⟩ := vL_le a b
  have hR := listsF_eq a b
  have hT : TabOk Try.prog _ := tab_cons ok_sListHeaps (tab_cons ok_eqHeaps (tab_cons ok_heldHS (tab_cons ok_pListsP tab_nil)))
  refine Ok.of_cw fok_laws_FnExactListHeaps ?_
  simp only [code_laws_FnExactListHeaps, frame, List.length_cons, List.length_nil, List.replicate, Nat.reduceSub, Nat.reduceAdd, List.cons_append, List.nil_append]
  refine cw_seq (go_ok hT ?_); simp
  refine cw_seq (go_ok hT ?_); simp [List.replicate]
  refine cw_seq (go_ok (tab_h (CtN.hok ok_pListsX) tab_nil) ?_); simp [List.replicate, laidH_sh0, lblkH_sh0]
  have hX := lend_new (vL a b) (nL a b) v1
  have hL : (.row true 28 2 (laidH (vL a b) (nL a b)) :: lblkH (vL a b) (nL a b) : List Blk).length = 1 + 11 * nL a b := by simp [lblkH_len]; omega
  have h0 : (.row true 28 2 (laidH (vL a b) (nL a b)) :: lblkH (vL a b) (nL a b) : List Blk)[0]? = some (.row true 28 2 (laidH (vL a b) (nL a b))) := rfl
  have hp : ∀ j, j < nL a b → (∃ us : List Int, us.length = vL a b ∧ (.row true 28 2 (laidH (vL a b) (nL a b)) :: lblkH (vL a b) (nL a b) : List Blk)[1 + 11 * j + 9]? = some (rowI us)) ∧ ∃ ws : List Int, ws.length = j ∧ (.row true 28 2 (laidH (vL a b) (nL a b)) :: lblkH (vL a b) (nL a b) : List Blk)[1 + 11 * j + 10]? = some (rowI ws) := fun j hj =>
    ⟨⟨_, vsT_len v1, by rw [show 1 + 11 * j + 9 = 11 * j + 9 + 1 by omega, List.getElem?_cons_succ]; exact (lblkH_get _ _ j hj).1⟩, ⟨_, nxT_len j j, by rw [show 1 + 11 * j + 10 = 11 * j + 10 + 1 by omega, List.getElem?_cons_succ]; exact (lblkH_get _ _ j hj).2⟩⟩
  generalize hW : listsT (vL a b) (nL a b) = W at *
  generalize hGG : (.row true 28 2 (laidH (vL a b) (nL a b)) :: lblkH (vL a b) (nL a b) : List Blk) = G at *
  generalize hv : vL a b = v at *
  generalize hn : nL a b = n at *
  refine cw_seq (go_ok hT ?_); simp [List.replicate, hX, hR]
  refine cw_seq (go_ok hT ?_); simp [List.replicate]
  refine cw_seq (go_ok (tab_h ok_markHS tab_nil) ?_); simp [List.replicate, n1]
  refine ⟨v, v2, by omega, h0, hp, ?_⟩
  obtain ⟨f1, f2⟩ := markF_get (v := v) (k0 := 1) (H := G) n (by omega)
  have hY : lendC (fun _ _ => true) (markF v 1 n G) 20 (.slref 0 0 n n) = some (encL 2 encHeap (mkHs v 1 n)) :=
    lend_heaps (h := mkH v 1) ((f2 0 (.inl rfl)).trans h0) fun j hj => ⟨by simp [mkH], by simp [mkH], (f1 j hj).1, (f1 j hj).2⟩
  clear hX h0 hp f1 f2 hL hGG
  generalize markF v 1 n G = K at *
  have hb := kF_bound (v := v) (k0 := 1) v2 n n1
  have nk : ¬ kF v 1 n < 0 := by omega
  refine cw_seq (go_ok hT ?_); simp [List.replicate]
  refine cw_seq (go_ok hT ?_); simp [List.replicate, hY]
  refine ⟨v, n, 1, rfl, rfl, by omega, by omega, v2, n1, ?_⟩
  refine cw_seq (go_ok hT ?_); simp [List.replicate, nk]
  refine cw_seq (go_ok hT ?_); simp [List.replicate]
  refine cw_seq (go_ok hT ?_); simp [List.replicate, hR]
  refine cw_seq (go_ok hT ?_); simp [List.replicate]
  refine cw_seq (go_ok hT ?_); simp [List.replicate]
  refine cw_seq (go_ok hT ?_); simp [List.replicate, hY]
  refine ⟨v, n, 1, rfl, rfl, by omega, by omega, v2, n1, ?_⟩
  refine cw_seq (go_ok hT ?_); simp [List.replicate, nk]
  refine cw_seq (go_ok hT ?_); simp [List.replicate]
  refine go_ok hT ?_; simp [List.replicate]
end Go.Vm

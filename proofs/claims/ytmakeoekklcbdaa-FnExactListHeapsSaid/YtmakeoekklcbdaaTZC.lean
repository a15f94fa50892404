/- Lists of heaps: the program, in blocks of its own. No condition. -/
import Derived.Test.YtmakeoekklcbdaaTZA
import Derived.Test.YtmakeoekklcbdaaTZB
set_option linter.unusedSimpArgs false
set_option linter.unusedVariables false
namespace Go.Vm
open Go.Proofs
def nB : List Int → Blk
  | [] => .nrow
  | x :: xs => .row true 3 1 ((x :: xs).map encInt)
theorem nB_row {xs : List Int} (h : 0 < xs.length) : nB xs = .row true 3 1 (xs.map encInt) := by
  cases xs with
  | nil => simp at h
  | cons x xs => rfl
@[simp] def ct_ownX : CtH := ⟨89, (Nat × List Int × Nat) × (Nat × List Int), fun x H => (0 < x.1.2.2 ∧ x.1.2.2 ≤ x.1.2.1.length) ∧ x.1.2.1.length ≤ 1048576 ∧ x.2.2.length ≤ 1048576 ∧ H[x.1.1]? = some (.row true 3 1 (x.1.2.1.map encInt)) ∧ H[x.2.1]? = some (nB x.2.2),
  fun x => [.agg [.slref x.1.1 0 x.1.2.2 x.1.2.1.length, .slref x.2.1 0 x.2.2.length x.2.2.length]], fun x H => .agg [.slref (H.length + 4) 0 x.1.2.2 x.1.2.2, .slref (H.length + 5) 0 x.2.2.length x.2.2.length],
  fun x H => H ++ [.dead, .dead, .dead, .cells [.slref (H.length + 4) 0 x.1.2.2 x.1.2.2, .slref (H.length + 5) 0 x.2.2.length x.2.2.length], .row true 3 1 ((x.1.2.1.take x.1.2.2).map encInt), nB x.2.2]⟩
theorem ok_ownX : ct_ownX.Ok Try.prog := by
  rintro ⟨⟨a, vs, v⟩, ⟨c, ns⟩⟩ H ⟨h0, h1, h2, h3, h4⟩
  cases ns with
  | nil => exact ok_ownN 3 ⟨⟨a, vs, v⟩, c⟩ H ⟨h0, h1, h3, h4⟩
  | cons n ns => exact ok_ownR 3 ⟨⟨a, vs, v⟩, ⟨c, n :: ns⟩⟩ H ⟨h0, h1, ⟨by simp, h2⟩, h3, h4⟩
def hAt (v b n : Nat) : AV := .agg [.slref (b + 9) 0 v v, .slref (b + 10) 0 n n]
def hBs (v k : Nat) : List Blk := [.dead, .dead, .dead, .dead, .dead, .dead, .dead, .dead, .dead, .row true 3 1 ((vsT v k).map encInt), .row true 3 1 ((nxT k k).map encInt)]
def laidH (v : Nat) : Nat → List AV
  | 0 => []
  | k + 1 => laidH v k ++ [hAt v (1 + 11 * k) k]
def lblkH (v : Nat) : Nat → List Blk
  | 0 => []
  | k + 1 => lblkH v k ++ hBs v k
theorem laidH_len (v : Nat) : ∀ k, (laidH v k).length = k
  | 0 => rfl
  | k + 1 => by simp [laidH, laidH_len v k]
theorem lblkH_len (v : Nat) : ∀ k, (lblkH v k).length = 11 * k
  | 0 => rfl
  | k + 1 => by simp [lblkH, lblkH_len v k, hBs]; omega
theorem laidH_below {v n : Nat} : ∀ k, 1 + 11 * k ≤ n → belowEls n (laidH v k) = true
  | 0, _ => rfl
  | k + 1, h => by
    have := laidH_below (v := v) (n := n) k (by omega)
    simp only [laidH, belowEls_append, this, Bool.true_and, hAt]
    simp [belowE, belowC, belowR]
    omega
theorem hBs_sl {v k n : Nat} {H2 : List Blk} : All2 (SlB n H2) (hBs v k) (hBs v k) := by
  simp [hBs]
theorem lblkH_sl {v n : Nat} {H2 : List Blk} : ∀ k, All2 (SlB n H2) (lblkH v k) (lblkH v k)
  | 0 => .nil
  | k + 1 => (lblkH_sl k).append hBs_sl
theorem laidH_sl {v n E : Nat} {H2 : List Blk} {k : Nat} (h : 1 + 11 * k ≤ n) : SlB n H2 (.row true E 2 (laidH v k)) (.row true E 2 (laidH v k)) := ⟨fun h => h, rfl, rfl, .inl ⟨rfl, laidH_below k h⟩⟩
theorem hAt_own (v b n : Nat) : ownV (hAt v b n) = true := by simp [hAt, ownV, ownVL]
theorem laidH_own (v : Nat) : ∀ k, ownVL (laidH v k) = true
  | 0 => rfl
  | k + 1 => by
    have := laidH_own v k
    rw [ownVL_all] at this ⊢
    simp [laidH, this, hAt_own]
theorem lblkH_own (v : Nat) : ∀ k, ∀ b ∈ lblkH v k, ownB b = true
  | 0, b, h => by simp [lblkH] at h
  | k + 1, b, h => by
    simp only [lblkH, List.mem_append] at h
    rcases h with h | h
    · exact lblkH_own v k b h
    · simp only [hBs, List.mem_cons, List.not_mem_nil, or_false] at h
      rcases h with rfl | rfl | rfl | rfl | rfl | rfl | rfl | rfl | rfl | rfl | rfl <;> first | rfl | simp [ownB]
theorem cw_both {P : Program} {n0 : Nat} {c : C} {Q : Exit → St → Prop} {st1 st2 : St} {a b : Prop} (st : St) (w1 : a → Weak n0 st1 st) (w2 : b → Weak n0 st2 st) (h : CW P n0 c Q st) : (a → CW P n0 c Q st1) ∧ (b → CW P n0 c Q st2) := ⟨fun x => cw_weak (w1 x) h, fun x => cw_weak (w2 x) h⟩
theorem vsT_take {v k : Nat} (h1 : 1 ≤ v) (h2 : v ≤ 4) : (vsT 4 k).take v = vsT v k := by
  obtain ⟨u, rfl⟩ : ∃ u, v = u + 1 := ⟨v - 1, by omega⟩
  simp only [vsT, List.take_succ_cons, List.take_replicate]
  congr 2
  omega
theorem weak_nB {n0 : Nat} {t : List AV} {H : List Blk} {b : Nat} {ws : List Int} (h : H[b]? = some (nB ws)) : Weak n0 ⟨t, H⟩ ⟨t, H.set b (.row true 3 1 (ws.map encInt))⟩ := by
  cases ws with
  | nil => exact weak_row b _ 1 h
  | cons w ws =>
    obtain ⟨hb, e⟩ := List.getElem?_eq_some_iff.1 h
    have : H.set b (.row true 3 1 ((w :: ws).map encInt)) = H := by
      change H.set b (nB (w :: ws)) = H
      rw [← e]; exact List.set_getElem_self hb
    rw [this]
    intro B w' μ a R S
    exact ⟨μ, R, S, ExtN.refl⟩
def code_impl_ListHeaps : F := ⟨56, [.tmp 4],
 .seq (.reg [⟨some 4, .mov (.k (.sl .nil 0 [])), none⟩])
 (.seq (.seq (.reg [⟨some 10, .mov (.t 0), none⟩,
      ⟨some 11, .call 82 [(.t 10), (.k (.int .i64 1)), (.k (.int .i64 4))], none⟩,
      ⟨some 12, .not (.t 11), none⟩,
      ⟨some 13, .mov (.t 12), none⟩,
      ⟨some 14, .mov (.t 1), some (13, false)⟩,
      ⟨some 15, .call 82 [(.t 14), (.k (.int .i64 0)), (.k (.int .i64 6))], some (13, false)⟩,
      ⟨some 16, .not (.t 15), some (13, false)⟩,
      ⟨some 17, .pick (.t 13) (.k (.bool true)) (.t 16), none⟩])
   (.cond (.t 17)
    (.seq (.reg [⟨some 4, .mov (.k (.sl .nil 0 [])), none⟩])
     (.ret))
    (.skip)))
  (.seq (.reg [⟨some 18, .bsl 28 2 0 (.agg [(.sl .nil 0 []), (.sl .nil 0 [])]) [], none⟩,
      ⟨some 5, .mov (.t 18), none⟩])
   (.seq (.seq (.reg [⟨some 19, .mov (.t 1), none⟩,
        ⟨some 20, .bin .add (.t 19) (.k (.int .i64 1)), none⟩,
        ⟨some 21, .mov (.k (.int .i64 0)), none⟩])
     (.block 0 (.loop (.seq (.reg [⟨some 22, .bin .lss (.t 21) (.t 20), none⟩])
        (.seq (.cond (.t 22)
          (.skip)
          (.exit 0))
         (.seq (.block 1 (.seq (.reg [⟨some 23, .mov (.t 21), none⟩,
               ⟨some 6, .mov (.t 23), none⟩])
            (.seq (.reg [⟨some 24, .bsl 3 1 4 (.int .i64 0) [(0, (.k (.int .i64 (-1)))), (1, (.k (.int .i64 (-1)))), (2, (.k (.int .i64 (-1)))), (3, (.k (.int .i64 (-1))))], none⟩,
                ⟨some 25, .mov (.t 0), none⟩,
                ⟨some 26, .slice 1 (.t 24) none (some (.t 25)), none⟩,
                ⟨some 27, .build [(.sl .nil 0 []), (.sl .nil 0 [])] [(0, 1, (.t 26))], none⟩,
                ⟨some 7, .alloc [(.sl .nil 0 []), (.sl .nil 0 [])], none⟩,
                ⟨none, .store 2 (.t 7) (.t 27), none⟩])
             (.seq (.seq (.reg [⟨some 28, .mov (.t 6), none⟩,
                  ⟨some 29, .bin .gtr (.t 28) (.k (.int .i64 0)), none⟩])
               (.cond (.t 29)
                (.reg [⟨some 30, .faddr 0 (.t 7), none⟩,
                   ⟨some 31, .load 1 false (.t 30), none⟩,
                   ⟨some 32, .iaddr 1 (.t 31) (.k (.int .i64 0)), none⟩,
                   ⟨none, .store 1 (.t 32) (.k (.int .i64 0)), none⟩])
                (.skip)))
              (.seq (.seq (.reg [⟨some 33, .mov (.t 6), none⟩,
                   ⟨some 34, .mov (.k (.int .i64 0)), none⟩])
                (.block 2 (.loop (.seq (.reg [⟨some 35, .bin .lss (.t 34) (.t 33), none⟩])
                   (.seq (.cond (.t 35)
                     (.skip)
                     (.exit 2))
                    (.seq (.block 3 (.seq (.reg [⟨some 36, .mov (.t 34), none⟩,
                          ⟨some 8, .mov (.t 36), none⟩])
                       (.seq (.reg [⟨some 37, .mov (.t 8), none⟩,
                           ⟨some 38, .bin .add (.t 37) (.k (.int .i64 1)), none⟩,
                           ⟨some 9, .mov (.t 38), none⟩])
                        (.seq (.seq (.reg [⟨some 39, .mov (.t 9), none⟩,
                             ⟨some 40, .mov (.t 6), none⟩,
                             ⟨some 41, .bin .eql (.t 39) (.t 40), none⟩])
                          (.cond (.t 41)
                           (.reg [⟨some 9, .mov (.k (.int .i64 (-1))), none⟩])
                           (.skip)))
                         (.reg [⟨some 42, .faddr 1 (.t 7), none⟩,
                            ⟨some 43, .load 1 false (.t 42), none⟩,
                            ⟨some 44, .mov (.t 9), none⟩,
                            ⟨some 45, .bsl 3 1 1 (.int .i64 0) [(0, (.t 44))], none⟩,
                            ⟨some 46, .append 3 1 8 (.t 43) (.t 45), none⟩,
                            ⟨some 47, .faddr 1 (.t 7), none⟩,
                            ⟨none, .store 1 (.t 47) (.t 46), none⟩])))))
                     (.reg [⟨some 48, .bin .add (.t 34) (.k (.int .i64 1)), none⟩,
                        ⟨some 34, .mov (.t 48), none⟩])))))))
               (.reg [⟨some 49, .mov (.t 5), none⟩,
                  ⟨some 50, .load 2 true (.t 7), none⟩,
                  ⟨some 51, .call 89 [(.t 50)], none⟩,
                  ⟨some 52, .bsl 28 2 1 (.agg [(.sl .nil 0 []), (.sl .nil 0 [])]) [(0, (.t 51))], none⟩,
                  ⟨some 53, .append 28 2 48 (.t 49) (.t 52), none⟩,
                  ⟨some 5, .mov (.t 53), none⟩]))))))
          (.reg [⟨some 54, .bin .add (.t 21) (.k (.int .i64 1)), none⟩,
             ⟨some 21, .mov (.t 54), none⟩])))))))
    (.seq (.reg [⟨some 55, .mov (.t 5), none⟩,
        ⟨some 4, .mov (.t 55), none⟩])
     (.ret)))))⟩
theorem fok_impl_ListHeaps : FOk Try.prog 27 code_impl_ListHeaps := fok Try.func27 (by kernel_rfl)
@[simp] def ct_pListsN : CtN := ⟨27, Nat × Nat, fun x => (1 ≤ x.1 ∧ x.1 ≤ 4) ∧ x.2 ≤ 6, fun x => [.int .i64 x.1, .int .i64 x.2], fun x => .slref 0 0 (x.2 + 1) (x.2 + 1), fun x => .row true 28 2 (laidH x.1 (x.2 + 1)) :: lblkH x.1 (x.2 + 1)⟩
set_option maxHeartbeats 8000000 in
set_option maxRecDepth 100000 in
theorem ok_pListsN : ct_pListsN.Ok Try.prog := by
  refine ⟨?_, fun _ _ => rfl, fun x _ k hk => by
    simp only [ct_pListsN, List.mem_cons] at hk
    rcases hk with rfl | hk
    · exact laidH_own _ _
    · exact lblkH_own _ _ k hk⟩
  rintro ⟨v, m⟩ ⟨⟨h1, h2⟩, h3⟩
  change 1 ≤ v at h1
  change v ≤ 4 at h2
  change m ≤ 6 at h3
  have hm : IntKind.i64.wrap ((m : Int) + 1) = ((m + 1 : Nat) : Int) := by rw [wrap_i64] <;> omega
  have v1 : (1 : Int) ≤ v := by omega
  have v2 : (v : Int) ≤ 4 := by omega
  have v3 : ¬ (4 : Int) < v := by omega
  have v4 : ¬ (v : Int) < 1 := by omega
  have m1 : (0 : Int) ≤ m := by omega
  have m2 : (m : Int) ≤ 6 := by omega
  have m3 : ¬ (6 : Int) < m := by omega
  have m4 : ¬ (m : Int) < 0 := by omega
  have hT : TabOk Try.prog _ := tab_cons ok_within (tab_h ok_ownX tab_nil)
  refine OkH.of_cw' fok_impl_ListHeaps (go_ok hT ?_)
  simp [code_impl_ListHeaps, List.replicate, v1, v2, v3, v4, m1, m2, m3, m4, hm]
  refine cw_round (fun (k : Nat) => ⟨slots 56 [(0, .int .i64 v), (5, .slref 0 0 k k), (20, .int .i64 ((m : Int) + 1)), (21, .int .i64 k)], .row true 28 2 (laidH v k) :: lblkH v k⟩)
    (fun k => k ≤ m + 1) (fun k => m + 1 - k) 0 (by omega) ?_ ?_
  · exact weak_seal 1 (by simp) (by simp [laidH, lblkH]) (by simp [List.replicate])
  rintro N hN k hk
  change k ≤ m + 1 at hk
  have hw : IntKind.i64.wrap ((k : Int) + 1) = ((k + 1 : Nat) : Int) := by rw [wrap_i64] <;> omega
  have hL := laidH_len v k
  have hB := lblkH_len v k
  by_cases g : k ≤ m
  case neg =>
    have e : k = m + 1 := by omega
    subst e
    have g2 : ¬ ((m + 1 : Nat) : Int) < (m : Int) + 1 := by omega
    refine go_ok tab_nil ?_
    simp [List.replicate, hw, g2, retH]
  have g2 : (k : Int) < (m : Int) + 1 := by omega
  refine cw_seq (go_ok hT ?_); simp [List.replicate, g2]
  refine cw_seq (go_ok hT ?_); simp [List.replicate]
  refine cw_seq (cw_block ?_)
  refine cw_seq (go_ok hT ?_); simp [List.replicate]
  have hGl : (Blk.row true 28 2 (laidH v k) :: lblkH v k).length = 1 + 11 * k := by simp [hB]; omega
  have hGs : SelfB (Blk.row true 28 2 (laidH v k) :: lblkH v k) := fun n hn H2 => .cons (laidH_sl (by omega)) (lblkH_sl k)
  have hG0 : ∀ T, ((Blk.row true 28 2 (laidH v k) :: lblkH v k) ++ T)[0]? = some (.row true 28 2 (laidH v k)) := fun T => rfl
  generalize hG : (Blk.row true 28 2 (laidH v k) :: lblkH v k) = G at *
  have h1' : 0 < v := h1
  refine cw_seq (go_ok hT ?_); simp [List.replicate, h2, v2, getHk, getH0, setHk, setH0, Nat.add_assoc]
  refine cw_seq (go_ok hT ?_); simp [List.replicate, h2, h1', getHk, getH0, setHk, setH0, Nat.add_assoc]
  refine cw_both ⟨slots 56 [(0, .int .i64 v), (5, .slref 0 0 k k), (6, .int .i64 k), (7, .pbox (G.length + 3) 0), (20, .int .i64 ((m : Int) + 1)), (21, .int .i64 k)], G ++ [.row true 3 1 ((vsT 4 k).map encInt), .dead, .dead, .cells [.slref G.length 0 v 4, .slref (G.length + 4) 0 0 0], .nrow]⟩ (fun hk0 => weak_less ?_ ?_) (fun hk0 => weak_less ?_ ?_) ?_
  · have hk1 : ¬ k = 0 := by omega
    simp [vsT, hk1, List.replicate]
  · simp [List.replicate]
  · simp [vsT, hk0, List.replicate]
  · simp [List.replicate, hk0]
  refine cw_seq (go_ok hT ?_); simp [List.replicate]
  refine cw_round (fun (p : Nat × List Int) => ⟨slots 56 [(0, .int .i64 v), (5, .slref 0 0 k k), (6, .int .i64 k), (7, .pbox (G.length + 3) 0), (20, .int .i64 ((m : Int) + 1)), (21, .int .i64 k), (33, .int .i64 k), (34, .int .i64 p.1)], G ++ [.row true 3 1 ((vsT 4 k).map encInt), .dead, .dead, .cells [.slref G.length 0 v 4, .slref (G.length + 4) 0 p.2.length p.2.length], nB p.2]⟩)
    (fun p => p.1 ≤ k ∧ p.2 = nxT k p.1) (fun p => k - p.1) (0, []) ⟨by simp, rfl⟩ ?_ ?_
  · refine weak_less ?_ ?_
    · simp [nB]
    · simp [List.replicate]
  rintro M hM ⟨c, ws⟩ ⟨hc, hws⟩
  change c ≤ k at hc
  change ws = nxT k c at hws
  have hwc : IntKind.i64.wrap ((c : Int) + 1) = ((c + 1 : Nat) : Int) := by rw [wrap_i64] <;> omega
  have hwl : ws.length = c := by rw [hws]; simp [nxT]
  have hwb : (ws.length + 1) * 8 ≤ 140737488355328 := by omega
  by_cases gc : c < k
  · have gc2 : ¬ k ≤ c := by omega
    have hs2 := nxT_succ k c
    rw [← hws] at hs2
    have hnx : ∀ x : Int, nB (ws ++ [x]) = .row true 3 1 ((ws ++ [x]).map encInt) := fun x => nB_row (by simp)
    have hwk : IntKind.i64.wrap (k : Int) = k := by rw [wrap_i64] <;> omega
    have fin : ∀ (x y : Int), y = x → nxT k (c + 1) = ws ++ [y] → ∀ t, All2 (SlV (G.length + 5) (G ++ [.row true 3 1 ((vsT 4 k).map encInt), .dead, .dead, .cells [.slref G.length 0 v 4, .slref (G.length + 4) 0 (ws.length + 1) (ws.length + 1)], .row true 3 1 (ws.map encInt ++ [.int .i64 x]), .row true 3 1 [.int .i64 x]])) t (slots 56 [(0, .int .i64 v), (5, .slref 0 0 k k), (6, .int .i64 k), (7, .pbox (G.length + 3) 0), (20, .int .i64 ((m : Int) + 1)), (21, .int .i64 k), (33, .int .i64 k), (34, .int .i64 ((c + 1 : Nat) : Int))]) → M (c, ws) ⟨t, G ++ [.row true 3 1 ((vsT 4 k).map encInt), .dead, .dead, .cells [.slref G.length 0 v 4, .slref (G.length + 4) 0 (ws.length + 1) (ws.length + 1)], .row true 3 1 (ws.map encInt ++ [.int .i64 x]), .row true 3 1 [.int .i64 x]]⟩ := by
      intro x y hxy hy t ht
      subst hxy
      refine hM (c, ws) (c + 1, ws ++ [y]) _ ⟨by simp only; omega, hy.symm⟩ (by simp only; omega) (weak_sealH 5 hGs (by omega) ?_ ?_)
      · simp only [hnx]
        simp
      · simpa using ht
    have hap : ∀ x : Int, True := fun _ => trivial
    cases hws' : ws with
    | nil =>
      rw [hws'] at fin hs2 hwb
      by_cases e1 : c + 1 = k
      · have e1i : ((c : Int) + 1 = k) := by omega
        rw [if_pos e1] at hs2
        refine go_ok hT ?_
        simp [List.replicate, hwc, gc, gc2, app1, e1i, hwk, nB, getHk, getH0, setHk, setH0]
        refine fin _ _ rfl hs2 _ ?_
        simp [List.replicate, e1i]
      · have e1i : ¬ ((c : Int) + 1 = k) := by omega
        rw [if_neg e1] at hs2
        refine go_ok hT ?_
        simp [List.replicate, hwc, gc, gc2, app1, e1i, nB, getHk, getH0, setHk, setH0]
        refine fin _ _ rfl hs2 _ ?_
        simp [List.replicate]
    | cons w1 w2 =>
      have hnb : nB ws = .row true 3 1 (ws.map encInt) := nB_row (by rw [hws']; simp)
      rw [← hws']
      clear hws'
      by_cases e1 : c + 1 = k
      · have e1i : ((c : Int) + 1 = k) := by omega
        rw [if_pos e1] at hs2
        refine go_ok hT ?_
        simp [List.replicate, hwc, gc, gc2, hwb, app1, e1i, hwk, hnb, getHk, getH0, setHk, setH0]
        refine fin _ _ rfl hs2 _ ?_
        simp [List.replicate, e1i]
      · have e1i : ¬ ((c : Int) + 1 = k) := by omega
        rw [if_neg e1] at hs2
        refine go_ok hT ?_
        simp [List.replicate, hwc, gc, gc2, hwb, app1, e1i, hnb, getHk, getH0, setHk, setH0]
        refine fin _ _ rfl hs2 _ ?_
        simp [List.replicate]
  have e : c = k := by omega
  subst e
  refine go_ok hT ?_
  simp [List.replicate, hwc, gc]
  have hvl4 : (vsT 4 c).length = 4 := by simp [vsT]
  have hws6 : ws.length ≤ 1048576 := by omega
  have hvt := vsT_take (v := v) (k := c) h1 h2
  have hkb : (c + 1) * 48 ≤ 140737488355328 := by omega
  refine go_ok hT ?_
  simp [List.replicate, h2, h1', hws6, getHk, getH0, setHk, setH0, Nat.add_assoc]
  have hG0' : ∀ T (h : 0 < (G ++ T).length), (G ++ T)[0]'h = .row true 28 2 (laidH v c) := fun T h => by
    have := hG0 T
    rw [List.getElem?_eq_getElem h] at this
    exact Option.some.inj this
  have hGset : ∀ T x, (G ++ T).set 0 x = G.set 0 x ++ T := fun T x => List.set_append_left _ _ (by omega)
  have htk : (laidH v c).take c = laidH v c := List.take_of_length_le (by omega)
  refine ⟨vsT 4 c, hvl4.symm, ws, rfl, by omega, by omega, hws6, rfl, rfl, ?_⟩
  have hcc : ¬ c + 1 ≤ c := by omega
  simp [hG0', hGset, hL, htk, hkb, hw, hcc]
  have hQ : G.set 0 (.row true 28 2 (laidH v c ++ [.agg [.slref (G.length + 9) 0 v v, .slref (G.length + 10) 0 ws.length ws.length]])) = .row true 28 2 (laidH v (c + 1)) :: lblkH v c := by
    rw [hGl, hwl, ← hG]
    rfl
  generalize hA : G.set 0 (.row true 28 2 (laidH v c ++ [.agg [.slref (G.length + 9) 0 v v, .slref (G.length + 10) 0 ws.length ws.length]])) = A at *
  have hAl : A.length = 1 + 11 * c := by rw [hQ]; simp [hB]; omega
  refine go_ok tab_nil ?_
  simp [List.replicate, hw]
  refine hN c (c + 1) _ (by omega) (by omega) ((weak_nB (b := A.length + 10) (ws := ws) (by rw [getHk]; rfl)).trans ?_)
  rw [setHk]
  refine weak_seal (1 + 11 * (c + 1)) (Nat.zero_le _) ?_ ?_
  · rw [List.take_append, List.take_of_length_le (l := A) (by omega), show 1 + 11 * (c + 1) - A.length = 11 by omega, hQ]
    refine .cons (laidH_sl (k := c + 1) (by omega)) (All2.append (lblkH_sl c) ?_)
    have hvm : (List.map encInt (vsT 4 c)).take v = (vsT v c).map encInt := by rw [← List.map_take, hvt]
    simp [hBs, hvm, ← hws]
  · have z : 0 < 1 + 11 * (c + 1) := by omega
    simp [List.replicate, z]
end Go.Vm

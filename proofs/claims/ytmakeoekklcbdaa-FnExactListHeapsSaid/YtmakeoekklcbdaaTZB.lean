/- Lists of heaps: the reference. No condition. -/
import Derived.Test.YtmakeoekklcbdaaTPB
import Derived.Test.YtmakeoekklcbdaaTL2
import Derived.Test.YtmakeoekklcbdaaTSL
import Derived.Test.YtmakeoekklcbdaaTNX
import Derived.Test.YtmakeoekklcbdaaTWL
set_option linter.unusedSimpArgs false
set_option linter.unusedVariables false
namespace Go.Vm
open Go.Proofs
def vsT (v n : Nat) : List Int := (if n = 0 then -1 else 0) :: List.replicate (v - 1) (-1)
def nxT (n k : Nat) : List Int := (List.range k).map fun c => if c + 1 = n then -1 else (c : Int) + 1
theorem nxT_succ (n k : Nat) : nxT n (k + 1) = nxT n k ++ [if k + 1 = n then -1 else (k : Int) + 1] := by simp [nxT, List.range_succ]
def listT (v n : Nat) : Heap := ⟨vsT v n, nxT n n⟩
def listsT (v k : Nat) : List Heap := (List.range k).map (listT v)
theorem listsT_succ (v k : Nat) : listsT v (k + 1) = listsT v k ++ [listT v k] := by simp [listsT, List.range_succ]
theorem listsT_len (v k : Nat) : (listsT v k).length = k := by simp [listsT]
def listsF (v m : Int) : List Heap := if 1 ≤ v ∧ v ≤ 4 ∧ 0 ≤ m ∧ m ≤ 6 then listsT v.toNat (m.toNat + 1) else []
theorem slE_heap {n : Nat} {H : List Blk} (x : Heap) : SlE n H (encHeap x) (encHeap x) := by
  simp [encHeap_eq]
def code_spec_l1Bit : F := ⟨4, [.tmp 2],
 .seq (.reg [⟨some 2, .mov (.k (.int .i64 0)), none⟩])
 (.seq (.seq (.reg [⟨some 3, .mov (.t 0), none⟩])
   (.cond (.t 3)
    (.seq (.reg [⟨some 2, .mov (.k (.int .i64 1)), none⟩])
     (.ret))
    (.skip)))
  (.seq (.reg [⟨some 2, .mov (.k (.int .i64 0)), none⟩])
   (.ret)))⟩
theorem fok_spec_l1Bit : FOk Try.prog 167 code_spec_l1Bit := fok Try.func167 (by kernel_rfl)
structure BZ where b : Bool
@[simp] def ct_l1BitZ : Ct := ⟨167, BZ, fun _ => True, fun x => [.bool x.b], fun x => .int .i64 (if x.b then 1 else 0)⟩
theorem ok_l1BitZ : ct_l1BitZ.Ok Try.prog := by
  rintro ⟨b⟩ -
  refine Ok.of_cw fok_spec_l1Bit (go_ok tab_nil ?_)
  cases b <;> simp [code_spec_l1Bit, List.replicate]
def code_spec_l23Lists : F := ⟨54, [.tmp 4],
 .seq (.reg [⟨some 4, .mov (.k (.sl .nil 0 [])), none⟩])
 (.seq (.reg [⟨some 11, .bsl 28 2 0 (.agg [(.sl .nil 0 []), (.sl .nil 0 [])]) [], none⟩,
     ⟨some 5, .mov (.t 11), none⟩])
  (.seq (.seq (.reg [⟨some 6, .mov (.k (.int .i64 0)), none⟩])
    (.block 0 (.loop (.seq (.seq (.reg [⟨some 12, .mov (.t 6), none⟩,
           ⟨some 13, .mov (.t 1), none⟩,
           ⟨some 14, .bin .leq (.t 12) (.t 13), none⟩])
        (.cond (.t 14)
         (.skip)
         (.exit 0)))
       (.seq (.block 1 (.seq (.reg [⟨some 17, .mov (.t 6), none⟩,
             ⟨some 18, .bin .eql (.t 17) (.k (.int .i64 0)), none⟩,
             ⟨some 19, .call 167 [(.t 18)], none⟩,
             ⟨some 20, .bin .sub (.k (.int .i64 0)) (.t 19), none⟩,
             ⟨some 21, .bsl 3 1 1 (.int .i64 0) [(0, (.t 20))], none⟩,
             ⟨some 22, .build [(.sl .nil 0 []), (.sl .nil 0 [])] [(0, 1, (.t 21))], none⟩,
             ⟨some 7, .alloc [(.sl .nil 0 []), (.sl .nil 0 [])], none⟩,
             ⟨none, .store 2 (.t 7) (.t 22), none⟩])
          (.seq (.seq (.reg [⟨some 8, .mov (.k (.int .i64 1)), none⟩])
            (.block 2 (.loop (.seq (.seq (.reg [⟨some 23, .mov (.t 8), none⟩,
                   ⟨some 24, .mov (.t 0), none⟩,
                   ⟨some 25, .bin .lss (.t 23) (.t 24), none⟩])
                (.cond (.t 25)
                 (.skip)
                 (.exit 2)))
               (.seq (.block 3 (.reg [⟨some 28, .faddr 0 (.t 7), none⟩,
                    ⟨some 29, .load 1 false (.t 28), none⟩,
                    ⟨some 30, .bsl 3 1 1 (.int .i64 0) [(0, (.k (.int .i64 (-1))))], none⟩,
                    ⟨some 31, .append 3 1 8 (.t 29) (.t 30), none⟩,
                    ⟨some 32, .faddr 0 (.t 7), none⟩,
                    ⟨none, .store 1 (.t 32) (.t 31), none⟩]))
                (.reg [⟨some 26, .mov (.t 8), none⟩,
                   ⟨some 27, .bin .add (.t 26) (.k (.int .i64 1)), none⟩,
                   ⟨some 8, .mov (.t 27), none⟩]))))))
           (.seq (.seq (.reg [⟨some 9, .mov (.k (.int .i64 0)), none⟩])
             (.block 4 (.loop (.seq (.seq (.reg [⟨some 33, .mov (.t 9), none⟩,
                    ⟨some 34, .mov (.t 6), none⟩,
                    ⟨some 35, .bin .lss (.t 33) (.t 34), none⟩])
                 (.cond (.t 35)
                  (.skip)
                  (.exit 4)))
                (.seq (.block 5 (.seq (.reg [⟨some 38, .mov (.t 9), none⟩,
                      ⟨some 39, .bin .add (.t 38) (.k (.int .i64 1)), none⟩,
                      ⟨some 10, .mov (.t 39), none⟩])
                   (.seq (.seq (.reg [⟨some 40, .mov (.t 10), none⟩,
                        ⟨some 41, .mov (.t 6), none⟩,
                        ⟨some 42, .bin .eql (.t 40) (.t 41), none⟩])
                     (.cond (.t 42)
                      (.reg [⟨some 10, .mov (.k (.int .i64 (-1))), none⟩])
                      (.skip)))
                    (.reg [⟨some 43, .faddr 1 (.t 7), none⟩,
                       ⟨some 44, .load 1 false (.t 43), none⟩,
                       ⟨some 45, .mov (.t 10), none⟩,
                       ⟨some 46, .bsl 3 1 1 (.int .i64 0) [(0, (.t 45))], none⟩,
                       ⟨some 47, .append 3 1 8 (.t 44) (.t 46), none⟩,
                       ⟨some 48, .faddr 1 (.t 7), none⟩,
                       ⟨none, .store 1 (.t 48) (.t 47), none⟩]))))
                 (.reg [⟨some 36, .mov (.t 9), none⟩,
                    ⟨some 37, .bin .add (.t 36) (.k (.int .i64 1)), none⟩,
                    ⟨some 9, .mov (.t 37), none⟩]))))))
            (.reg [⟨some 49, .mov (.t 5), none⟩,
               ⟨some 50, .load 2 true (.t 7), none⟩,
               ⟨some 51, .bsl 28 2 1 (.agg [(.sl .nil 0 []), (.sl .nil 0 [])]) [(0, (.t 50))], none⟩,
               ⟨some 52, .append 28 2 48 (.t 49) (.t 51), none⟩,
               ⟨some 5, .mov (.t 52), none⟩])))))
        (.reg [⟨some 15, .mov (.t 6), none⟩,
           ⟨some 16, .bin .add (.t 15) (.k (.int .i64 1)), none⟩,
           ⟨some 6, .mov (.t 16), none⟩]))))))
   (.seq (.reg [⟨some 53, .mov (.t 5), none⟩,
       ⟨some 4, .mov (.t 53), none⟩])
    (.ret))))⟩
theorem fok_spec_l23Lists : FOk Try.prog 88 code_spec_l23Lists := fok Try.func88 (by kernel_rfl)
def code_spec_ListHeaps : F := ⟨17, [.tmp 4],
 .seq (.reg [⟨some 4, .mov (.k (.sl .nil 0 [])), none⟩])
 (.seq (.seq (.reg [⟨some 5, .mov (.t 0), none⟩,
      ⟨some 6, .call 76 [(.t 5), (.k (.int .i64 1)), (.k (.int .i64 4))], none⟩,
      ⟨some 7, .not (.t 6), none⟩,
      ⟨some 8, .mov (.t 7), none⟩,
      ⟨some 9, .mov (.t 1), some (8, false)⟩,
      ⟨some 10, .call 76 [(.t 9), (.k (.int .i64 0)), (.k (.int .i64 6))], some (8, false)⟩,
      ⟨some 11, .not (.t 10), some (8, false)⟩,
      ⟨some 12, .pick (.t 8) (.k (.bool true)) (.t 11), none⟩])
   (.cond (.t 12)
    (.seq (.reg [⟨some 13, .bsl 28 2 0 (.agg [(.sl .nil 0 []), (.sl .nil 0 [])]) [], none⟩,
        ⟨some 4, .mov (.t 13), none⟩])
     (.ret))
    (.skip)))
  (.seq (.reg [⟨some 14, .mov (.t 0), none⟩,
      ⟨some 15, .mov (.t 1), none⟩,
      ⟨some 16, .call 88 [(.t 14), (.t 15)], none⟩,
      ⟨some 4, .mov (.t 16), none⟩])
   (.ret)))⟩
theorem fok_spec_ListHeaps : FOk Try.prog 26 code_spec_ListHeaps := fok Try.func26 (by kernel_rfl)
@[simp] def ct_l23Lists : Ct := ⟨88, Nat × Nat, fun x => (1 ≤ x.1 ∧ x.1 ≤ 4) ∧ x.2 ≤ 6, fun x => [.int .i64 x.1, .int .i64 x.2], fun x => encL 2 encHeap (listsT x.1 (x.2 + 1))⟩
set_option maxHeartbeats 4000000 in
set_option maxRecDepth 100000 in
theorem ok_l23Lists : ct_l23Lists.Ok Try.prog := by
  rintro ⟨v, m⟩ ⟨⟨h1, h2⟩, h3⟩
  change 1 ≤ v at h1
  change v ≤ 4 at h2
  change m ≤ 6 at h3
  refine Ok.of_cw fok_spec_l23Lists (go_ok tab_nil ?_)
  simp [code_spec_l23Lists, List.replicate]
  refine cw_round (fun (p : Nat × List Heap) => ⟨slots 54 [(0, .int .i64 v), (1, .int .i64 m), (5, .slref 0 0 p.2.length p.2.length), (6, .int .i64 p.1)], [.row true 28 2 (p.2.map encHeap)]⟩)
    (fun p => p.1 ≤ m + 1 ∧ p.2 = listsT v p.1) (fun p => m + 1 - p.1) (0, []) ⟨by simp, by simp [listsT]⟩ ?_ ?_
  · exact weak_seal 1 (by simp) (by simp [listsT]) (by simp [List.replicate])
  rintro N hN ⟨k, hs⟩ ⟨hk, hhs⟩
  change k ≤ m + 1 at hk
  change hs = listsT v k at hhs
  have hw : IntKind.i64.wrap ((k : Int) + 1) = ((k + 1 : Nat) : Int) := by rw [wrap_i64] <;> omega
  have hkl : hs.length = k := by rw [hhs, listsT_len]
  by_cases g : k ≤ m
  case neg =>
    have e : k = m + 1 := by omega
    subst e
    have g2 : m < m + 1 := by omega
    have hR : listsT v (m + 1) = hs := hhs.symm
    have g3 : (m : Int) < m + 1 := by omega
    refine go_ok tab_nil ?_
    simp [List.replicate, hw, g, g2, g3, hR]
  have g2 : ¬ m < k := by omega
  have hx0 : IntKind.i64.wrap (-(if (decide ((k : Int) = 0)) = true then 1 else 0)) = if k = 0 then -1 else 0 := by
    by_cases e0 : k = 0
    · subst e0; rw [wrap_i64] <;> simp
    · have : ¬ (k : Int) = 0 := by omega
      simp only [e0, this, if_false, decide_false]
      rw [wrap_i64] <;> simp
  refine go_ok (tab_cons ok_l1BitZ tab_nil) ?_
  simp [List.replicate, hw, g, g2]
  refine ⟨⟨decide ((k : Int) = 0)⟩, by simp, ?_⟩
  simp only [hx0]
  refine cw_round (fun (p : Nat × List Int) => ⟨slots 54 [(0, .int .i64 v), (1, .int .i64 m), (5, .slref 0 0 hs.length hs.length), (6, .int .i64 k), (7, .pbox 4 0), (8, .int .i64 p.1)], [.row true 28 2 (hs.map encHeap), .row true 3 1 (p.2.map encInt), .dead, .dead, .cells [.slref 1 0 p.2.length p.2.length, .slref 5 0 0 0], .row true 3 1 []]⟩)
    (fun p => (1 ≤ p.1 ∧ p.1 ≤ v) ∧ p.2 = vsT p.1 k) (fun p => v - p.1) (1, vsT 1 k) ⟨⟨by omega, by omega⟩, rfl⟩ ?_ ?_
  · refine (weak_row 5 3 1 rfl).trans (weak_less ?_ ?_)
    · simp [vsT]
    · simp [List.replicate, vsT]
  rintro N1 hN1 ⟨j, us⟩ ⟨⟨hj1, hj2⟩, hus⟩
  change 1 ≤ j at hj1
  change j ≤ v at hj2
  change us = vsT j k at hus
  have hwj : IntKind.i64.wrap ((j : Int) + 1) = ((j + 1 : Nat) : Int) := by rw [wrap_i64] <;> omega
  have hul : us.length = j := by rw [hus]; simp [vsT]; omega
  have hub : (us.length + 1) * 8 ≤ 140737488355328 := by omega
  by_cases gj : j < v
  · have gj2 : ¬ v ≤ j := by omega
    refine go_ok tab_nil ?_
    simp [List.replicate, hwj, gj, gj2, hub, app1]
    refine hN1 (j, us) (j + 1, us ++ [-1]) _ ⟨⟨by simp only; omega, by simp only; omega⟩, ?_⟩ (by simp only; omega) (weak_seal 6 (by simp) ?_ ?_)
    · rw [hus]
      obtain ⟨j', rfl⟩ : ∃ j', j = j' + 1 := ⟨j - 1, by omega⟩
      simp [vsT, List.replicate_succ']
    · simp
    · simp [List.replicate]
  have e : j = v := by omega
  subst e
  have gj3 : ¬ j < j := by omega
  refine go_ok tab_nil ?_
  simp [List.replicate, hwj, gj]
  refine cw_round (fun (p : Nat × List Int) => ⟨slots 54 [(0, .int .i64 j), (1, .int .i64 m), (5, .slref 0 0 hs.length hs.length), (6, .int .i64 k), (7, .pbox 4 0), (9, .int .i64 p.1)], [.row true 28 2 (hs.map encHeap), .row true 3 1 (us.map encInt), .dead, .dead, .cells [.slref 1 0 us.length us.length, .slref 5 0 p.2.length p.2.length], .row true 3 1 (p.2.map encInt)]⟩)
    (fun p => p.1 ≤ k ∧ p.2 = nxT k p.1) (fun p => k - p.1) (0, []) ⟨by simp, rfl⟩ ?_ ?_
  · refine weak_less ?_ ?_
    · simp
    · simp [List.replicate]
  rintro N2 hN2 ⟨c, ws⟩ ⟨hc, hws⟩
  change c ≤ k at hc
  change ws = nxT k c at hws
  have hwc : IntKind.i64.wrap ((c : Int) + 1) = ((c + 1 : Nat) : Int) := by rw [wrap_i64] <;> omega
  have hwl : ws.length = c := by rw [hws]; simp [nxT]
  have hwb : (ws.length + 1) * 8 ≤ 140737488355328 := by omega
  by_cases gc : c < k
  · have gc2 : ¬ k ≤ c := by omega
    have hs2 := nxT_succ k c
    rw [← hws] at hs2
    by_cases e1 : c + 1 = k
    · have e1i : ((c : Int) + 1 = k) := by omega
      rw [if_pos e1] at hs2
      have hwk : IntKind.i64.wrap (k : Int) = k := by rw [wrap_i64] <;> omega
      refine go_ok tab_nil ?_
      simp [List.replicate, hwc, gc, gc2, hwb, app1, e1i, hwk]
      refine hN2 (c, ws) (c + 1, ws ++ [-1]) _ ⟨by simp only; omega, hs2.symm⟩ (by simp only; omega) (weak_seal 6 (by simp) ?_ ?_)
      · simp
      · simp [List.replicate, e1i]
    · have e1i : ¬ ((c : Int) + 1 = k) := by omega
      rw [if_neg e1] at hs2
      refine go_ok tab_nil ?_
      simp [List.replicate, hwc, gc, gc2, hwb, app1, e1, e1i]
      refine hN2 (c, ws) (c + 1, ws ++ [(c : Int) + 1]) _ ⟨by simp only; omega, hs2.symm⟩ (by simp only; omega) (weak_seal 6 (by simp) ?_ ?_)
      · simp
      · simp [List.replicate]
  have e : c = k := by omega
  subst e
  have hsb : (hs.length + 1) * 48 ≤ 140737488355328 := by omega
  refine go_ok tab_nil ?_
  simp [List.replicate, hw, hwc, hsb, app1]
  refine hN (c, hs) (c + 1, hs ++ [⟨us, ws⟩]) _ ⟨by simp only; omega, ?_⟩ (by simp only; omega) (weak_seal 1 (by simp) ?_ ?_)
  · rw [listsT_succ, ← hhs, listT, ← hus, ← hws]
  · simp
    refine All2.append (all2_self fun y hy => ?_) (.cons ?_ .nil)
    · obtain ⟨z, _, rfl⟩ := List.mem_map.1 hy
      exact slE_heap z
    · show All2 _ _ _
      simp
  · simp [List.replicate]
@[simp] def ct_sListHeaps : Ct := ⟨26, Int × Int, fun _ => True, fun x => [.int .i64 x.1, .int .i64 x.2], fun x => encL 2 encHeap (listsF x.1 x.2)⟩
set_option maxHeartbeats 1000000 in
theorem ok_sListHeaps : ct_sListHeaps.Ok Try.prog := by
  rintro ⟨v, m⟩ -
  have hT : TabOk Try.prog _ := tab_cons ok_l1In (tab_cons ok_l23Lists tab_nil)
  by_cases h : 1 ≤ v ∧ v ≤ 4 ∧ 0 ≤ m ∧ m ≤ 6
  · have hR : listsF v m = listsT v.toNat (m.toNat + 1) := if_pos h
    obtain ⟨h1, h2, h3, h4⟩ := h
    obtain ⟨a, rfl⟩ : ∃ a : Nat, v = a := ⟨v.toNat, by omega⟩
    obtain ⟨b, rfl⟩ : ∃ b : Nat, m = b := ⟨m.toNat, by omega⟩
    refine Ok.of_cw fok_spec_ListHeaps (go_ok hT ?_)
    simp [code_spec_ListHeaps, List.replicate, h1, h2, h3, h4, hR]
    exact ⟨fun h => absurd h (by omega), ⟨a, rfl, b, rfl, by omega, by omega, by omega, rfl⟩, fun h => absurd h (by omega)⟩
  · have hR : listsF v m = [] := if_neg h
    refine Ok.of_cw fok_spec_ListHeaps (go_ok hT ?_)
    by_cases c : 1 ≤ v ∧ v ≤ 4
    · have h3 : ¬ (0 ≤ m ∧ m ≤ 6) := fun e => h ⟨c.1, c.2, e.1, e.2⟩
      by_cases d : 0 ≤ m
      · have d2 : ¬ m ≤ 6 := fun e => h3 ⟨d, e⟩
        simp [code_spec_ListHeaps, List.replicate, c.1, c.2, d, d2, hR]
      · simp [code_spec_ListHeaps, List.replicate, c.1, c.2, d, hR]
    · by_cases d : 1 ≤ v
      · have d2 : ¬ v ≤ 4 := fun e => c ⟨d, e⟩
        simp [code_spec_ListHeaps, List.replicate, d, d2, hR]
      · simp [code_spec_ListHeaps, List.replicate, d, hR]
end Go.Vm

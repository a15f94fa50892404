/- Consistency: the reference and the law. No condition. -/
import Derived.Test.YtmakeoekklcbdaaTMQ
set_option linter.unusedSimpArgs false
set_option linter.unusedVariables false
namespace Go.Vm
open Go.Proofs
theorem path2_iff {v : Nat} {s : Strc} (h : Fine v s) {i j : Nat} (hi : i < s.nodes.length) (hj : j < s.nodes.length) : pathT s (j : Nat) (i : Nat) = 2 ↔ Rch (edgeG s 2) j i ∨ j = i := by
  have h1 : inN s (i : Int) := ⟨by omega, by omega⟩
  have h2 : inN s (j : Int) := ⟨by omega, by omega⟩
  have hm := h.mn s.nodes[j] (List.getElem_mem hj)
  have hsame : sameT s (j : Int) = 2 := by unfold sameT; simp [List.getD_eq_getElem?_getD, hj, hm]
  unfold pathT
  rw [if_pos ⟨h2, h1⟩, hsame]
  simp only [Int.toNat_natCast]
  by_cases g : Rch (edgeG s 2) j i
  · have hb : rchB s 2 j i = true := by rw [rchB_iff]; exact g
    simp [hb, g]
  · have hb : rchB s 2 j i = false := by rw [rchB_not]; exact g
    by_cases e : j = i
    · subst e; simp [hb]
    · have e2 : ¬ (j : Int) = i := by omega
      have k1 : ¬ (rchB s 2 j i = true) := by rw [hb]; simp
      have k2 : ¬ ((j : Int) = (i : Int) ∧ True) := fun h => e2 h.1
      rw [if_neg k1, if_neg k2]
      constructor
      · intro h
        split at h
        · omega
        · first | omega | (split at h <;> omega)
      · rintro (h | h)
        · exact absurd h g
        · exact absurd h e
theorem edge2 {v : Nat} {s : Strc} (h : Fine v s) {i j : Nat} : edgeG s 2 i j ↔ i < s.nodes.length ∧ j < s.nodes.length ∧ nextOf s (i : Nat) (j : Nat) = 2 := by
  constructor
  · rintro ⟨h1, h2, h3⟩
    exact ⟨h1, h2, by have := h.next h1 h2; omega⟩
  · rintro ⟨h1, h2, h3⟩
    exact ⟨h1, h2, by omega⟩
@[simp] noncomputable def ct_l15Cycle : Ct := ⟨120, Strc, fun x => szStrc x ≤ 1048576 ∧ ∃ v, Fine v x, fun x => [encStrc x], fun x => .bool (cycB x)⟩
set_option maxHeartbeats 8000000 in
set_option maxRecDepth 100000 in
theorem ok_l15Cycle : ct_l15Cycle.Ok Try.prog := by
  rintro s ⟨hs, v, hF⟩
  change Strc at s
  change szStrc s ≤ 1048576 at hs
  have hs2 := strc_le s
  have hts := hF.truthS
  have hn10 := hF.n10
  have hT : TabOk Try.prog _ := tab_cons ok_sNextOf (tab_cons ok_sPathT tab_nil)
  refine Ok.of_cw fok_spec_l15Cycle ?_
  simp only [code_spec_l15Cycle, frame, List.length_cons, List.length_nil, List.replicate, Nat.reduceSub, Nat.reduceAdd, List.cons_append, List.nil_append]
  refine cw_seq (go_ok hT ?_)
  simp
  refine cw_seq (go_ok hT ?_)
  simp
  refine cw_round (fun (i : Nat) => ⟨slots 31 [(1, .pbox 0 0), (3, .int .i64 i)], [.cells [encL 4 encNode s.nodes, encL 1 encInt s.next]]⟩)
    (fun i => i ≤ s.nodes.length ∧ ∀ j, j < i → rchB s 2 j j = false) (fun i => s.nodes.length - i) 0 ⟨by simp, fun j hj => by omega⟩ ?_ ?_
  · exact weak_seal 1 (by simp) (by simp) (by simp [List.replicate])
  rintro N hN i ⟨hi, hc⟩
  have hwi : IntKind.i64.wrap ((i : Int) + 1) = ((i + 1 : Nat) : Int) := by rw [wrap_i64] <;> omega
  refine go_ok hT ?_
  by_cases gi : i < s.nodes.length
  case neg =>
    have e : i = s.nodes.length := by omega
    subst e
    have hA : cycB s = false := by
      unfold cycB
      rw [List.any_eq_false]
      intro j hj
      have := hc j (by simpa using hj)
      simp [this]
    simp [List.replicate]
    refine go_ok hT ?_
    simp [hA]
  have gi2 : ¬ s.nodes.length ≤ i := by omega
  simp [List.replicate, gi, gi2]
  refine cw_round (fun (j : Nat) => ⟨slots 31 [(1, .pbox 0 0), (3, .int .i64 i), (4, .int .i64 j)], [.cells [encL 4 encNode s.nodes, encL 1 encInt s.next]]⟩)
    (fun j => j ≤ s.nodes.length ∧ ∀ k : Nat, k < j → ¬ (nextOf s (i : Nat) (k : Nat) = 2 ∧ pathT s (k : Nat) (i : Nat) = 2)) (fun j => s.nodes.length - j) 0 ⟨by simp, fun j hj => by omega⟩ ?_ ?_
  · exact weak_seal 1 (by simp) (by simp) (by simp [List.replicate])
  rintro N2 hN2 j ⟨hj, hcj⟩
  have hwj : IntKind.i64.wrap ((j : Int) + 1) = ((j + 1 : Nat) : Int) := by rw [wrap_i64] <;> omega
  refine go_ok hT ?_
  by_cases gj : j < s.nodes.length
  case neg =>
    have e : j = s.nodes.length := by omega
    subst e
    have hr : rchB s 2 i i = false := by
      rw [rchB_not]
      intro h
      rcases rch_first h with h | ⟨k, h, g⟩
      · have h' := (edge2 hF).1 h
        exact hcj i gi ⟨h'.2.2, (path2_iff hF gi gi).2 (.inr rfl)⟩
      · have h' := (edge2 hF).1 h
        exact hcj k h'.2.1 ⟨h'.2.2, (path2_iff hF gi h'.2.1).2 (.inl g)⟩
    simp [List.replicate, hwi]
    refine hN i (i + 1) _ ⟨by omega, fun j hj => ?_⟩ (by omega) (weak_seal 1 (by simp) ?_ ?_)
    · by_cases e : j = i
      · subst e; exact hr
      · exact hc j (by omega)
    · simp
    · simp [List.replicate]
  have gj2 : ¬ s.nodes.length ≤ j := by omega
  by_cases h1 : nextOf s (i : Nat) (j : Nat) = 2
  · by_cases h2 : pathT s (j : Nat) (i : Nat) = 2
    · have hr : rchB s 2 i i = true := by
        rw [rchB_iff]
        have he : edgeG s 2 i j := (edge2 hF).2 ⟨gi, gj, h1⟩
        rcases (path2_iff hF gi gj).1 h2 with g | g
        · exact rch_cons he g
        · rw [g] at he; exact .one he
      have hA : cycB s = true := by
        unfold cycB
        rw [List.any_eq_true]
        exact ⟨i, by simpa using gi, hr⟩
      simp [List.replicate, gj, gj2, hs, hts, h1, h2, hA]
    · simp [List.replicate, gj, gj2, hs, hts, h1, h2, hwj]
      refine hN2 j (j + 1) _ ⟨by omega, fun k hk => ?_⟩ (by omega) (weak_seal 1 (by simp) ?_ ?_)
      · by_cases e : k = j
        · subst e; exact fun h => h2 h.2
        · exact hcj k (by omega)
      · simp
      · simp [List.replicate]
  · simp [List.replicate, gj, gj2, hs, hts, h1, hwj]
    refine hN2 j (j + 1) _ ⟨by omega, fun k hk => ?_⟩ (by omega) (weak_seal 1 (by simp) ?_ ?_)
    · by_cases e : k = j
      · subst e; exact fun h => h1 h.1
      · exact hcj k (by omega)
    · simp
    · simp [List.replicate]
@[simp] noncomputable def ct_l15SingleI : Ct := ⟨119, Int × Strc, fun x => szStrc x.2 ≤ 1048576 ∧ 0 ≤ x.1 ∧ Fine x.1.toNat x.2, fun x => [.int .i64 x.1, encStrc x.2], fun x => .bool (allC x.1.toNat x.2 && allR x.2)⟩
theorem ok_l15SingleI : ct_l15SingleI.Ok Try.prog := by
  rintro ⟨v, s⟩ ⟨hs, hv, hF⟩
  change 0 ≤ v at hv
  have h := ok_l15Single (v.toNat, s) ⟨hs, hF⟩
  have e : ((v.toNat : Nat) : Int) = v := by omega
  simp only [ct_l15Single, e] at h
  exact h
@[simp] noncomputable def ct_sIsCons : Ct := ⟨48, Int × Strc, fun x => szStrc x.2 ≤ 1048576, fun x => [.int .i64 x.1, encStrc x.2], fun x => .bool (consB x.1 x.2)⟩
set_option maxHeartbeats 8000000 in
set_option maxRecDepth 100000 in
theorem ok_sIsCons : ct_sIsCons.Ok Try.prog := by
  rintro ⟨vi, s⟩ hs
  change szStrc s ≤ 1048576 at hs
  have hs2 := strc_le s
  have hT : TabOk Try.prog _ := tab_cons ok_sIsStructure (tab_cons ok_spec_IsDefinite (tab_cons ok_l15SingleI (tab_cons ok_l15Cycle (tab_cons ok_sMeets (tab_cons ok_l7Has tab_nil)))))
  refine Ok.of_cw fok_spec_IsConsistent ?_
  simp only [code_spec_IsConsistent, frame, List.length_cons, List.length_nil, List.replicate, Nat.reduceSub, Nat.reduceAdd, List.cons_append, List.nil_append]
  refine cw_seq (go_ok hT ?_)
  simp
  refine cw_seq (go_ok hT ?_)
  cases hst : structB vi s
  · simp [hs, hst, consB]
  cases hde : isDef s
  · simp [hs, hst, hde, consB]
  obtain ⟨v, rfl, hF⟩ := fine_of hst hde
  have hv4 := hF.v4
  have hn10 := hF.n10
  have hts := hF.truthS
  have hFx : ∃ v, Fine v s := ⟨v, hF⟩
  have hE : consB (v : Int) s = (allC v s && ((allR s && (!cycB s && allH s)) && decide (meetsT s = 2))) := by rw [← allI_split]; simp [consB, hst, hde]
  change go _ _ _ _ (thenS _ (retP _ (.bool (consB (v : Int) s)))) _
  rw [hE]
  cases hC : allC v s
  · simp [hs, hst, hde, hF, hC]
  cases hR : allR s
  · simp [hs, hst, hde, hF, hC, hR]
  cases hY : cycB s
  case true => simp [hs, hst, hde, hF, hFx, hC, hR, hY]
  by_cases hM : meetsT s = 2
  case neg => simp [hs, hst, hde, hF, hFx, hC, hR, hY, hts, hM]
  simp [hs, hst, hde, hF, hFx, hC, hR, hY, hts, hM]
  refine cw_seq (go_ok hT ?_)
  simp
  refine cw_round (fun (i : Nat) => ⟨slots 45 [(3, .pbox 0 0), (5, .int .i64 i)], [.cells [encL 4 encNode s.nodes, encL 1 encInt s.next]]⟩)
    (fun i => i ≤ s.nodes.length ∧ ∀ j : Nat, j < i → decide (2 ∈ (nodeI s (j : Nat)).reach) = true) (fun i => s.nodes.length - i) 0 ⟨by simp, fun j hj => by omega⟩ ?_ ?_
  · exact weak_seal 1 (by simp) (by simp) (by simp [List.replicate])
  rintro N hN i ⟨hi, hc⟩
  have hwi : IntKind.i64.wrap ((i : Int) + 1) = ((i + 1 : Nat) : Int) := by rw [wrap_i64] <;> omega
  refine go_ok hT ?_
  by_cases gi : i < s.nodes.length
  case neg =>
    have e : i = s.nodes.length := by omega
    subst e
    have hA : allH s = true := all_true fun j hj => hc j hj
    simp [List.replicate]
    refine go_ok hT ?_
    simp [hA]
  have gi2 : ¬ s.nodes.length ≤ i := by omega
  have hno := nodeI_nat gi
  have hrl := hF.rl s.nodes[i] (List.getElem_mem gi)
  have hrl2 : (s.nodes[i]).reach.length ≤ 1048576 := by omega
  by_cases h2 : 2 ∈ (s.nodes[i]).reach
  · simp [List.replicate, gi, gi2, hrl2, h2, hwi]
    refine hN i (i + 1) _ ⟨by omega, fun j hj => ?_⟩ (by omega) (weak_seal 1 (by simp) ?_ ?_)
    · by_cases e : j = i
      · subst e; rw [hno]; simpa using h2
      · exact hc j (by omega)
    · simp
    · simp [List.replicate]
  · have hA : allH s = false := all_false gi (by rw [hno]; simpa using h2)
    simp [List.replicate, gi, gi2, hrl2, h2, hA]
def code_laws_FnExactIsConsistent : F := ⟨31, [.tmp 4],
 .seq (.reg [⟨some 3, .box (.t 1), none⟩,
    ⟨some 4, .mov (.k (.bool false)), none⟩])
 (.seq (.reg [⟨some 5, .mov (.k (.int .i64 1048576)), none⟩])
  (.seq (.reg [⟨some 9, .load 2 true (.t 3), none⟩,
      ⟨some 10, .mov (.t 5), none⟩,
      ⟨some 11, .call 12 [(.t 9), (.t 10)], none⟩,
      ⟨some 5, .mov (.t 11), none⟩])
   (.seq (.seq (.reg [⟨some 12, .mov (.t 5), none⟩,
        ⟨some 13, .bin .lss (.t 12) (.k (.int .i64 0)), none⟩])
     (.cond (.t 13)
      (.seq (.reg [⟨some 4, .mov (.k (.bool true)), none⟩])
       (.ret))
      (.skip)))
    (.seq (.reg [⟨some 14, .mov (.t 0), none⟩,
        ⟨some 15, .load 2 true (.t 3), none⟩,
        ⟨some 16, .call 14 [(.t 15)], none⟩,
        ⟨some 17, .call 48 [(.t 14), (.t 16)], none⟩,
        ⟨some 6, .mov (.t 17), none⟩])
     (.seq (.reg [⟨some 18, .load 2 true (.t 3), none⟩,
         ⟨some 19, .call 14 [(.t 18)], none⟩,
         ⟨some 7, .alloc [(.sl .nil 0 []), (.sl .nil 0 [])], none⟩,
         ⟨none, .store 2 (.t 7) (.t 19), none⟩])
      (.seq (.reg [⟨some 20, .mov (.t 0), none⟩,
          ⟨some 21, .load 2 true (.t 7), none⟩,
          ⟨some 22, .call 49 [(.t 20), (.t 21)], none⟩,
          ⟨some 8, .mov (.t 22), none⟩])
       (.seq (.seq (.reg [⟨some 23, .mov (.t 8), none⟩,
            ⟨some 24, .mov (.t 6), none⟩,
            ⟨some 25, .beq true (.t 23) (.t 24), none⟩])
         (.cond (.t 25)
          (.seq (.reg [⟨some 4, .mov (.k (.bool false)), none⟩])
           (.ret))
          (.skip)))
        (.seq (.seq (.dreg [false, false, false, true, true] [⟨some 26, .load 2 true (.t 7), none⟩,
             ⟨some 27, .load 2 true (.t 3), none⟩,
             ⟨some 28, .call 14 [(.t 27)], none⟩,
             ⟨some 29, .call 17 [(.t 26), (.t 28)], none⟩,
             ⟨some 30, .not (.t 29), none⟩])
          (.cond (.t 30)
           (.seq (.reg [⟨some 4, .mov (.k (.bool false)), none⟩])
            (.ret))
           (.skip)))
         (.seq (.reg [⟨some 4, .mov (.k (.bool true)), none⟩])
          (.ret))))))))))⟩
theorem fok_laws_FnExactIsConsistent : FOk Try.prog 9 code_laws_FnExactIsConsistent := fok Try.func9 (by kernel_rfl)
set_option maxHeartbeats 2000000 in
set_option maxRecDepth 100000 in
theorem ok_lawIsCons (v : Int) (x : Strc) : Ok Try.prog 9 [encInt v, encStrc x] (.bool true) := by
  by_cases h1 : (szStrc x : Int) ≤ 1048576
  case neg =>
    refine Ok.of_cw fok_laws_FnExactIsConsistent (go_ok (tab_cons ok_szStrc tab_nil) ?_)
    simp [code_laws_FnExactIsConsistent, List.replicate, left_neg (by omega : (1048576:Int) < szStrc x)]
  have l1 := left_ge h1
  have hx : szStrc x ≤ 1048576 := by omega
  refine Ok.of_cw fok_laws_FnExactIsConsistent (go_ok (tab_cons ok_szStrc (tab_cons ok_toStrc (tab_cons ok_sIsCons (tab_cons ok_pIsCons (tab_cons ok_eqStrc tab_nil))))) ?_)
  simp (maxSteps := 1000000) [code_laws_FnExactIsConsistent, List.replicate, l1, hx]
  try omega
end Go.Vm

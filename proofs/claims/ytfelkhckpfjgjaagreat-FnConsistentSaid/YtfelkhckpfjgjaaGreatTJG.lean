/- Consistency: the reference and the law. No condition. -/
import Derived.Test.YtfelkhckpfjgjaaGreatTMQ
import Derived.Test.YtfelkhckpfjgjaaGreatTJC
set_option linter.unusedSimpArgs false
set_option linter.unusedVariables false
namespace Go.Vm
open Go.Proofs
theorem path2_iff {v : Nat} {s : Strc} (h : Fine v s) {i j : Nat} (hi : i < s.nodes.length) (hj : j < s.nodes.length) : pathT s (j : Nat) (i : Nat) = 2 ↔ Rch (edgeG s 2) j i ∨ j = i := by
  have h1 : inN s (i : Int) := ⟨by omega, by omega⟩
  have h2 : inN s (j : Int) := ⟨by omega, by omega⟩
  have hm := h.mn s.nodes[j] (List.getElem_mem hj)
  have hsame : sameT s (j : Int) = 2 := by unfold sameT; simp [List.getD_eq_getElem?_getD, hj, hm]
  unfold pathT
  rw [if_pos ⟨h2, h1⟩, hsame]
  simp only [Int.toNat_natCast]
  by_cases g : Rch (edgeG s 2) j i
  · have hb : rchB s 2 j i = true := by rw [rchB_iff]; exact g
    simp [hb, g]
  · have hb : rchB s 2 j i = false := by rw [rchB_not]; exact g
    by_cases e : j = i
    · subst e; simp [hb]
    · have e2 : ¬ (j : Int) = i := by omega
      have k1 : ¬ (rchB s 2 j i = true) := by rw [hb]; simp
      have k2 : ¬ ((j : Int) = (i : Int) ∧ True) := fun h => e2 h.1
      rw [if_neg k1, if_neg k2]
      constructor
      · intro h
        split at h
        · omega
        · first | omega | (split at h <;> omega)
      · rintro (h | h)
        · exact absurd h g
        · exact absurd h e
theorem edge2 {v : Nat} {s : Strc} (h : Fine v s) {i j : Nat} : edgeG s 2 i j ↔ i < s.nodes.length ∧ j < s.nodes.length ∧ nextOf s (i : Nat) (j : Nat) = 2 := by
  constructor
  · rintro ⟨h1, h2, h3⟩
    exact ⟨h1, h2, by have := h.next h1 h2; omega⟩
  · rintro ⟨h1, h2, h3⟩
    exact ⟨h1, h2, by omega⟩
@[simp] noncomputable def ct_l15Cycle : Ct := ⟨83, Strc, fun x => szStrc x ≤ 1048576 ∧ ∃ v, Fine v x, fun x => [encStrc x], fun x => .bool (cycS x)⟩
set_option maxHeartbeats 8000000 in
set_option maxRecDepth 100000 in
theorem ok_l15Cycle : ct_l15Cycle.Ok Tryz.prog := by
  rintro s ⟨hs, v, hF⟩
  change Strc at s
  change szStrc s ≤ 1048576 at hs
  have hs2 := strc_le s
  have hts := hF.truthS
  have hn10 := hF.n10
  have hT : TabOk Tryz.prog _ := tab_cons ok_sNextOf (tab_cons ok_sPathT tab_nil)
  refine Ok.of_cw fok_spec_l15Cycle ?_
  simp only [code_spec_l15Cycle, frame, List.length_cons, List.length_nil, List.replicate, Nat.reduceSub, Nat.reduceAdd, List.cons_append, List.nil_append]
  refine cw_seq (go_ok hT ?_)
  simp
  refine cw_seq (go_ok hT ?_)
  simp
  refine cw_round (fun (i : Nat) => ⟨slots 31 [(1, .pbox 0 0), (3, .int .i64 i)], [.cells [encL 4 encNode s.nodes, encL 1 encInt s.next]]⟩)
    (fun i => i ≤ s.nodes.length ∧ ∀ j, j < i → rchB s 2 j j = false) (fun i => s.nodes.length - i) 0 ⟨by simp, fun j hj => by omega⟩ ?_ ?_
  · exact weak_seal 1 (by simp) (by simp) (by simp [List.replicate])
  rintro N hN i ⟨hi, hc⟩
  have hwi : IntKind.i64.wrap ((i : Int) + 1) = ((i + 1 : Nat) : Int) := by rw [wrap_i64] <;> omega
  refine go_ok hT ?_
  by_cases gi : i < s.nodes.length
  case neg =>
    have e : i = s.nodes.length := by omega
    subst e
    have hA : cycS s = false := by
      unfold cycS
      rw [List.any_eq_false]
      intro j hj
      have := hc j (by simpa using hj)
      simp [this]
    simp [List.replicate]
    refine go_ok hT ?_
    simp [hA]
  have gi2 : ¬ s.nodes.length ≤ i := by omega
  simp [List.replicate, gi, gi2]
  refine cw_round (fun (j : Nat) => ⟨slots 31 [(1, .pbox 0 0), (3, .int .i64 i), (4, .int .i64 j)], [.cells [encL 4 encNode s.nodes, encL 1 encInt s.next]]⟩)
    (fun j => j ≤ s.nodes.length ∧ ∀ k : Nat, k < j → ¬ (nextOf s (i : Nat) (k : Nat) = 2 ∧ pathT s (k : Nat) (i : Nat) = 2)) (fun j => s.nodes.length - j) 0 ⟨by simp, fun j hj => by omega⟩ ?_ ?_
  · exact weak_seal 1 (by simp) (by simp) (by simp [List.replicate])
  rintro N2 hN2 j ⟨hj, hcj⟩
  have hwj : IntKind.i64.wrap ((j : Int) + 1) = ((j + 1 : Nat) : Int) := by rw [wrap_i64] <;> omega
  refine go_ok hT ?_
  by_cases gj : j < s.nodes.length
  case neg =>
    have e : j = s.nodes.length := by omega
    subst e
    have hr : rchB s 2 i i = false := by
      rw [rchB_not]
      intro h
      rcases rch_first h with h | ⟨k, h, g⟩
      · have h' := (edge2 hF).1 h
        exact hcj i gi ⟨h'.2.2, (path2_iff hF gi gi).2 (.inr rfl)⟩
      · have h' := (edge2 hF).1 h
        exact hcj k h'.2.1 ⟨h'.2.2, (path2_iff hF gi h'.2.1).2 (.inl g)⟩
    simp [List.replicate, hwi]
    refine hN i (i + 1) _ ⟨by omega, fun j hj => ?_⟩ (by omega) (weak_seal 1 (by simp) ?_ ?_)
    · by_cases e : j = i
      · subst e; exact hr
      · exact hc j (by omega)
    · simp
    · simp [List.replicate]
  have gj2 : ¬ s.nodes.length ≤ j := by omega
  by_cases h1 : nextOf s (i : Nat) (j : Nat) = 2
  · by_cases h2 : pathT s (j : Nat) (i : Nat) = 2
    · have hr : rchB s 2 i i = true := by
        rw [rchB_iff]
        have he : edgeG s 2 i j := (edge2 hF).2 ⟨gi, gj, h1⟩
        rcases (path2_iff hF gi gj).1 h2 with g | g
        · exact rch_cons he g
        · rw [g] at he; exact .one he
      have hA : cycS s = true := by
        unfold cycS
        rw [List.any_eq_true]
        exact ⟨i, by simpa using gi, hr⟩
      simp [List.replicate, gj, gj2, hs, hts, h1, h2, hA]
    · simp [List.replicate, gj, gj2, hs, hts, h1, h2, hwj]
      refine hN2 j (j + 1) _ ⟨by omega, fun k hk => ?_⟩ (by omega) (weak_seal 1 (by simp) ?_ ?_)
      · by_cases e : k = j
        · subst e; exact fun h => h2 h.2
        · exact hcj k (by omega)
      · simp
      · simp [List.replicate]
  · simp [List.replicate, gj, gj2, hs, hts, h1, hwj]
    refine hN2 j (j + 1) _ ⟨by omega, fun k hk => ?_⟩ (by omega) (weak_seal 1 (by simp) ?_ ?_)
    · by_cases e : k = j
      · subst e; exact fun h => h1 h.1
      · exact hcj k (by omega)
    · simp
    · simp [List.replicate]
@[simp] noncomputable def ct_l15SingleI : Ct := ⟨82, Int × Strc, fun x => szStrc x.2 ≤ 1048576 ∧ 0 ≤ x.1 ∧ Fine x.1.toNat x.2, fun x => [.int .i64 x.1, encStrc x.2], fun x => .bool (allC x.1.toNat x.2 && allR x.2)⟩
theorem ok_l15SingleI : ct_l15SingleI.Ok Tryz.prog := by
  rintro ⟨v, s⟩ ⟨hs, hv, hF⟩
  change 0 ≤ v at hv
  have h := ok_l15Single (v.toNat, s) ⟨hs, hF⟩
  have e : ((v.toNat : Nat) : Int) = v := by omega
  simp only [ct_l15Single, e] at h
  exact h
@[simp] noncomputable def ct_sIsCons : Ct := ⟨27, Int × Strc, fun x => szStrc x.2 ≤ 1048576, fun x => [.int .i64 x.1, encStrc x.2], fun x => .bool (consB x.1 x.2)⟩
set_option maxHeartbeats 8000000 in
set_option maxRecDepth 100000 in
theorem ok_sIsCons : ct_sIsCons.Ok Tryz.prog := by
  rintro ⟨vi, s⟩ hs
  change szStrc s ≤ 1048576 at hs
  have hs2 := strc_le s
  have hT : TabOk Tryz.prog _ := tab_cons ok_sIsStructure (tab_cons ok_spec_IsDefinite (tab_cons ok_l15SingleI (tab_cons ok_l15Cycle (tab_cons ok_sMeets (tab_cons ok_l7Has tab_nil)))))
  refine Ok.of_cw fok_spec_IsConsistent ?_
  simp only [code_spec_IsConsistent, frame, List.length_cons, List.length_nil, List.replicate, Nat.reduceSub, Nat.reduceAdd, List.cons_append, List.nil_append]
  refine cw_seq (go_ok hT ?_)
  simp
  refine cw_seq (go_ok hT ?_)
  cases hst : structB vi s
  · simp [hs, hst, consB]
  cases hde : isDef s
  · simp [hs, hst, hde, consB]
  obtain ⟨v, rfl, hF⟩ := fine_of hst hde
  have hv4 := hF.v4
  have hn10 := hF.n10
  have hts := hF.truthS
  have hFx : ∃ v, Fine v s := ⟨v, hF⟩
  have hE : consB (v : Int) s = (allC v s && ((allR s && (!cycS s && allH s)) && decide (meetsT s = 2))) := by rw [← allI_split]; simp [consB, hst, hde]
  change go _ _ _ _ (thenS _ (retP _ (.bool (consB (v : Int) s)))) _
  rw [hE]
  cases hC : allC v s
  · simp [hs, hst, hde, hF, hC]
  cases hR : allR s
  · simp [hs, hst, hde, hF, hC, hR]
  cases hY : cycS s
  case true => simp [hs, hst, hde, hF, hFx, hC, hR, hY]
  by_cases hM : meetsT s = 2
  case neg => simp [hs, hst, hde, hF, hFx, hC, hR, hY, hts, hM]
  simp [hs, hst, hde, hF, hFx, hC, hR, hY, hts, hM]
  refine cw_seq (go_ok hT ?_)
  simp
  refine cw_round (fun (i : Nat) => ⟨slots 45 [(3, .pbox 0 0), (5, .int .i64 i)], [.cells [encL 4 encNode s.nodes, encL 1 encInt s.next]]⟩)
    (fun i => i ≤ s.nodes.length ∧ ∀ j : Nat, j < i → decide (2 ∈ (nodeI s (j : Nat)).reach) = true) (fun i => s.nodes.length - i) 0 ⟨by simp, fun j hj => by omega⟩ ?_ ?_
  · exact weak_seal 1 (by simp) (by simp) (by simp [List.replicate])
  rintro N hN i ⟨hi, hc⟩
  have hwi : IntKind.i64.wrap ((i : Int) + 1) = ((i + 1 : Nat) : Int) := by rw [wrap_i64] <;> omega
  refine go_ok hT ?_
  by_cases gi : i < s.nodes.length
  case neg =>
    have e : i = s.nodes.length := by omega
    subst e
    have hA : allH s = true := all_true fun j hj => hc j hj
    simp [List.replicate]
    refine go_ok hT ?_
    simp [hA]
  have gi2 : ¬ s.nodes.length ≤ i := by omega
  have hno := nodeI_nat gi
  have hrl := hF.rl s.nodes[i] (List.getElem_mem gi)
  have hrl2 : (s.nodes[i]).reach.length ≤ 1048576 := by omega
  by_cases h2 : 2 ∈ (s.nodes[i]).reach
  · simp [List.replicate, gi, gi2, hrl2, h2, hwi]
    refine hN i (i + 1) _ ⟨by omega, fun j hj => ?_⟩ (by omega) (weak_seal 1 (by simp) ?_ ?_)
    · by_cases e : j = i
      · subst e; rw [hno]; simpa using h2
      · exact hc j (by omega)
    · simp
    · simp [List.replicate]
  · have hA : allH s = false := all_false gi (by rw [hno]; simpa using h2)
    simp [List.replicate, gi, gi2, hrl2, h2, hA]
end Go.Vm
namespace Go.Vm
open Go.Proofs
theorem countP_one {n : Nat} {p : Nat → Bool} (h : ∀ i j, i < n → j < n → p i = true → p j = true → i = j) : (List.range n).countP p ≤ 1 := by
  induction n with
  | zero => simp
  | succ n ih =>
    rw [List.range_succ, List.countP_append]
    simp only [List.countP_cons, List.countP_nil, Nat.zero_add]
    cases e : p n
    · have := ih fun i j hi hj => h i j (by omega) (by omega)
      simp; exact this
    · have h0 : (List.range n).countP p = 0 := by
        rw [List.countP_eq_zero]
        intro a ha hp
        have ha : a < n := by simpa using ha
        have := h a n (by omega) (by omega) hp e
        omega
      rw [h0]; simp
theorem one_countP {n : Nat} {p : Nat → Bool} (h : (List.range n).countP p ≤ 1) {i j : Nat} (hi : i < n) (hj : j < n) (pi : p i = true) (pj : p j = true) : i = j := by
  induction n with
  | zero => omega
  | succ n ih =>
    rw [List.range_succ, List.countP_append] at h
    simp only [List.countP_cons, List.countP_nil, Nat.zero_add] at h
    have pos : ∀ a, a < n → p a = true → 0 < (List.range n).countP p := fun a ha hp => List.countP_pos_iff.2 ⟨a, by simpa using ha, hp⟩
    by_cases ei : i = n
    · by_cases ej : j = n
      · omega
      · have := pos j (by omega) pj
        rw [ei] at pi
        rw [pi, if_pos rfl] at h; omega
    · by_cases ej : j = n
      · have := pos i (by omega) pi
        rw [ej] at pj
        rw [pj, if_pos rfl] at h; omega
      · exact ih (by omega) (by omega) (by omega)
theorem trI_two {b : Bool} : trI b = 2 ↔ b = true := by cases b <;> simp [trI]
theorem colN_range (s : Strc) (k : Nat) : colN s k s.nodes.length = (List.range s.nodes.length).countP fun i => decide ((nodeI s (i : Nat)).vars.getD k 0 = 2) := by
  unfold colN
  rw [List.take_length]
  have : s.nodes = (List.range s.nodes.length).map fun (i : Nat) => nodeI s (i : Nat) := by
    apply List.ext_getElem
    · simp
    · intro i h1 h2
      rw [List.getElem_map, List.getElem_range, nodeI_nat h1]
  conv => lhs; rw [this]
  rw [List.countP_map]; rfl
theorem met_all {n : Int} {h : Heap} (hh : isHeapB n h = true) {i : Nat} (hi : i < h.next.length) : ∃ v ∈ h.vars, (i : Int) ∈ followed h.next v := by
  unfold isHeapB at hh
  simp only [Bool.and_eq_true, decide_eq_true_eq] at hh
  obtain ⟨⟨-, hid⟩, hl⟩ := hh
  unfold isIds at hid
  rw [List.all_eq_true] at hid
  have := hid i (by simp; omega)
  simp only [decide_eq_true_eq] at this
  have hm : (i : Int) ∈ met h := by
    rw [← this, List.getD_eq_getElem?_getD, List.getElem?_eq_getElem (by omega)]
    exact List.getElem_mem _
  exact mem_metTo.1 hm
theorem rank_rch {nx : List Int} {r : Int → Nat} (hr : ∀ c, inC nx.length c → nx.getD c.toNat 0 = -1 ∨ r (nx.getD c.toNat 0) < r c) {i j : Nat} (h : Rch (stepC nx) i j) : r j < r i := by
  have st : ∀ {x y : Nat}, stepC nx x y → r y < r x := fun {x y} hs => by
    have := hr (x : Int) ⟨by omega, by have := hs.1; omega⟩
    rw [show ((x : Int)).toNat = x by omega, hs.2.2] at this
    exact this.resolve_left (by omega)
  induction h with
  | one g => exact st g
  | more _ g ih => have := st g; omega
theorem cons_heap {h : Heap} (hh : isHeapB h.vars.length h = true) : consB h.vars.length (strcOf h) = true := by
  have hf := heap_fit hh
  obtain ⟨hc, r, hr⟩ := isHeap_parts hh
  obtain ⟨hcl, hv⟩ := canon_cells hc
  have e := strcOf_fit hf
  have hB := strcOf_structB hf
  rw [e] at hB
  unfold consB
  rw [e, hB, isDef_strc, meets_strc hcl hv]
  have hno : ∀ i, i < h.next.length → nodeI ⟨nodesT h.vars h.next h.next.length, nextsT h.next h.next.length⟩ (i : Nat) = nodeT h.vars h.next i := fun i hi => by
    rw [nodeI_nat (by rw [nodesT_len]; exact hi)]; simp [nodesT]
  have hC : allC (h.vars.length : Int).toNat ⟨nodesT h.vars h.next h.next.length, nextsT h.next h.next.length⟩ = true := by
    refine all_true fun k hk => ?_
    have hk : k < h.vars.length := by omega
    rw [decide_eq_true_eq, colN_range]
    simp only [nodesT_len]
    refine countP_one fun i j hi hj pi pj => ?_
    rw [hno i hi] at pi
    rw [hno j hj] at pj
    simp [nodeT, varT, List.getD_eq_getElem?_getD, hk, trI_two] at pi pj
    omega
  have hI : allI ⟨nodesT h.vars h.next h.next.length, nextsT h.next h.next.length⟩ = true := by
    refine all_true fun i hi => ?_
    simp only [nodesT_len] at hi
    unfold okI
    rw [hno i hi]
    have h1 : rowN ⟨nodesT h.vars h.next h.next.length, nextsT h.next h.next.length⟩ i h.next.length ≤ 1 := by
      unfold rowN
      refine countP_one fun a b ha hb pa pb => ?_
      rw [nextOf_strc _ _ hi ha] at pa
      rw [nextOf_strc _ _ hi hb] at pb
      simp [nextT, trI_two] at pa pb
      omega
    have h2 : 2 ∈ (nodeT h.vars h.next i).reach := by
      obtain ⟨v, hv, hm⟩ := met_all hh hi
      exact List.mem_map.2 ⟨v, hv, by unfold reachT; rw [decide_eq_true hm]; rfl⟩
    have h3 : rchB ⟨nodesT h.vars h.next h.next.length, nextsT h.next h.next.length⟩ 2 i i = false := by
      rw [rchB_not]
      intro g
      have := rank_rch hr (g.imp fun x y h => (edge_strc _ _ (by omega) (by omega) x y).1 h)
      omega
    simp only [nodesT_len]
    rw [h3, decide_eq_true h1, decide_eq_true h2]; rfl
  rw [hC, hI]; rfl
theorem first_cases (l : List Int) : (firstT l = -1 ∧ 2 ∉ l) ∨ ∃ j, j < l.length ∧ firstT l = (j : Int) ∧ l.getD j 0 = 2 := by
  unfold firstT findI
  cases e : List.findIdx? (fun a => (2 : Int) == a) l with
  | none =>
    rw [List.findIdx?_eq_none_iff] at e
    left
    refine ⟨rfl, fun h => ?_⟩
    have := e 2 h
    simp at this
  | some j =>
    rw [List.findIdx?_eq_some_iff_getElem] at e
    obtain ⟨hj, h1, -⟩ := e
    right
    refine ⟨j, hj, rfl, ?_⟩
    rw [List.getD_eq_getElem?_getD, List.getElem?_eq_getElem hj]
    simp at h1
    exact h1.symm
theorem cut_get {v : Nat} {s : Strc} (h : Fine v s) {i : Nat} (hi : i < s.nodes.length) : (cutT s.next s.nodes.length i).length = s.nodes.length ∧ ∀ j, j < s.nodes.length → (cutT s.next s.nodes.length i).getD j 0 = nextOf s (i : Nat) (j : Nat) := by
  have hnl : s.next.length = s.nodes.length * s.nodes.length := by have := h.nl; exact_mod_cast this
  have hle : (i + 1) * s.nodes.length ≤ s.next.length := by rw [hnl]; exact Nat.mul_le_mul_right _ hi
  have he : (i + 1) * s.nodes.length = i * s.nodes.length + s.nodes.length := by rw [Nat.add_mul, Nat.one_mul]
  refine ⟨by unfold cutT; rw [List.length_drop, List.length_take, Nat.min_eq_left hle]; omega, fun j hj => ?_⟩
  unfold nextOf
  have h1 : inN s (i : Int) := ⟨by omega, by omega⟩
  have h2 : inN s (j : Int) := ⟨by omega, by omega⟩
  rw [if_pos ⟨h1, h2, h.nl⟩]
  have e2 : ((i : Int) * s.nodes.length + j).toNat = i * s.nodes.length + j := by
    have : ((i : Int) * s.nodes.length + j) = ((i * s.nodes.length + j : Nat) : Int) := by simp
    rw [this, Int.toNat_natCast]
  rw [e2]
  unfold cutT
  rw [List.getD_eq_getElem?_getD, List.getElem?_drop, List.getElem?_take, if_pos (by omega), ← List.getD_eq_getElem?_getD]
theorem andT_two {a b : Int} (h : andT a b = 2) : a = 2 ∧ b = 2 := by
  unfold andT at h
  simp only [Bool.and_eq_true, isTruth_iff] at h
  (repeat' split at h) <;> omega
theorem agreeT_two {a b : Int} (h : agreeT a b = 2) : a = b := by
  unfold agreeT at h
  (repeat' split at h) <;> omega
theorem reachM_two {s : Strc} {i : Nat} {out : Int} : ∀ {k : Nat}, reachM s i out k = 2 → out = 2 ∧ ∀ j, j < k → (nodeI s i).reach.getD j 0 = evalT s (reachFm j) [(i : Int)]
  | 0, h => ⟨h, fun j hj => by omega⟩
  | k + 1, h => by
    rw [reachM_succ] at h
    obtain ⟨h1, h2⟩ := andT_two h
    obtain ⟨h3, h4⟩ := reachM_two h1
    refine ⟨h3, fun j hj => ?_⟩
    by_cases e : j = k
    · subst e; exact agreeT_two h2
    · exact h4 j (by omega)
theorem meetsTo_two {s : Strc} : ∀ {p : Nat}, meetsTo s p = 2 → ∀ i, i < p → ∀ j, j < (nodeI s i).reach.length → (nodeI s i).reach.getD j 0 = evalT s (reachFm j) [(i : Int)]
  | 0, _, i, hi => by omega
  | p + 1, h, i, hi => by
    rw [meetsTo_succ] at h
    unfold nodeM at h
    obtain ⟨h1, -⟩ := andT_two h
    obtain ⟨h3, h4⟩ := reachM_two h1
    by_cases e : i = p
    · subst e; exact h4
    · exact meetsTo_two h3 i (by omega)
theorem knownT_two {a : Int} (h : knownT a = 2) : a = 2 := by unfold knownT at h; split at h <;> omega
theorem heapOf_cons {vi : Int} {s : Strc} (h : consB vi s = true) (hn : s.nodes.length ≤ 6) : heapOfB vi s = true := by
  unfold consB at h
  simp only [Bool.and_eq_true, decide_eq_true_eq] at h
  obtain ⟨hS, hD, hC, hI, hM⟩ := h
  obtain ⟨v, rfl, hF⟩ := fine_of hS hD
  obtain ⟨⟨v1, v4⟩, -, -, -⟩ := struct_len hS
  rw [Int.toNat_natCast] at hC
  have hC : ∀ k, k < v → ∀ i j, i < s.nodes.length → j < s.nodes.length → (nodeI s (i : Nat)).vars.getD k 0 = 2 → (nodeI s (j : Nat)).vars.getD k 0 = 2 → i = j := by
    intro k hk i j hi hj e1 e2
    unfold allC at hC
    rw [List.all_eq_true] at hC
    have := hC k (by simpa using hk)
    rw [decide_eq_true_eq, colN_range] at this
    exact one_countP this hi hj (by simpa using e1) (by simpa using e2)
  have hI : ∀ i, i < s.nodes.length → (∀ a b, a < s.nodes.length → b < s.nodes.length → nextOf s (i : Nat) (a : Nat) = 2 → nextOf s (i : Nat) (b : Nat) = 2 → a = b) ∧ 2 ∈ (nodeI s (i : Nat)).reach ∧ ¬ Rch (edgeG s 2) i i := by
    intro i hi
    unfold allI at hI
    rw [List.all_eq_true] at hI
    have := hI i (by simpa using hi)
    unfold okI at this
    simp only [Bool.and_eq_true, decide_eq_true_eq, Bool.not_eq_true', rchB_not] at this
    refine ⟨fun a b ha hb e1 e2 => ?_, this.2.1, this.2.2⟩
    have h1 := this.1
    unfold rowN at h1
    exact one_countP h1 ha hb (by simpa using e1) (by simpa using e2)
  have hvl : ∀ i, i < s.nodes.length → (nodeI s (i : Nat)).vars.length = v ∧ (nodeI s (i : Nat)).reach.length = v := fun i hi => by
    rw [nodeI_nat hi]; exact ⟨hF.vl _ (List.getElem_mem hi), hF.rl _ (List.getElem_mem hi)⟩
  have hxl : (hnextT s.next s.nodes.length s.nodes.length).length = s.nodes.length := by simp [hnextT]
  have hvsl : (hvarsT s.nodes v).length = v := by simp [hvarsT]
  have hxg : ∀ i, i < s.nodes.length → (hnextT s.next s.nodes.length s.nodes.length).getD i 0 = firstT (cutT s.next s.nodes.length i) := fun i hi => by
    rw [List.getD_eq_getElem?_getD, List.getElem?_eq_getElem (by omega)]; simp [hnextT]
  have hcolg : ∀ k i, i < s.nodes.length → (colT s.nodes k).getD i 0 = (nodeI s (i : Nat)).vars.getD k 0 := fun k i hi => by
    rw [nodeI_nat hi, List.getD_eq_getElem?_getD, List.getElem?_eq_getElem (by simp [colT]; exact hi)]; simp [colT]
  have hcoll : ∀ k, (colT s.nodes k).length = s.nodes.length := fun k => by simp [colT]
  have hcl : closedC (hnextT s.next s.nodes.length s.nodes.length) := by
    intro x hx
    obtain ⟨i, hi, rfl⟩ := List.mem_map.1 hx
    have hi : i < s.nodes.length := by simpa using hi
    rcases first_cases (cutT s.next s.nodes.length i) with h | ⟨j, hj, e, -⟩
    · exact .inl h.1
    · right
      have := (cut_get hF hi).1
      unfold inC
      omega
  have hvs : ∀ x ∈ hvarsT s.nodes v, x = -1 ∨ inC (hnextT s.next s.nodes.length s.nodes.length).length x := by
    intro x hx
    obtain ⟨k, hk, rfl⟩ := List.mem_map.1 hx
    rcases first_cases (colT s.nodes k) with h | ⟨j, hj, e, -⟩
    · exact .inl h.1
    · right
      have := hcoll k
      unfold inC
      omega
  have hst : ∀ i j, stepC (hnextT s.next s.nodes.length s.nodes.length) i j ↔ edgeG s 2 i j := by
    intro i j
    rw [edge2 hF]
    unfold stepC
    rw [hxl]
    constructor
    · rintro ⟨h1, h2, h3⟩
      refine ⟨h1, h2, ?_⟩
      rw [hxg i h1] at h3
      rcases first_cases (cutT s.next s.nodes.length i) with h | ⟨a, ha, e, e2⟩
      · omega
      · have : a = j := by omega
        subst this
        rw [← e2, (cut_get hF h1).2 a h2]
    · rintro ⟨h1, h2, h3⟩
      refine ⟨h1, h2, ?_⟩
      rw [hxg i h1]
      obtain ⟨c1, c2⟩ := cut_get hF h1
      rcases first_cases (cutT s.next s.nodes.length i) with h | ⟨a, ha, e, e2⟩
      · exfalso
        apply h.2
        rw [← h3, ← c2 j h2, List.getD_eq_getElem?_getD, List.getElem?_eq_getElem (by omega)]
        exact List.getElem_mem _
      · rw [c2 a (by omega)] at e2
        rw [e, (hI i h1).1 a j (by omega) h2 e2 h3]
  generalize hX : hnextT s.next s.nodes.length s.nodes.length = X at *
  have hac : acycB ⟨hvarsT s.nodes v, X⟩ = true := by
    unfold acycB
    rw [acyclic_eq hcl]
    rw [Bool.not_eq_true', List.any_eq_false]
    intro c hc
    have hc : c < X.length := by simpa using hc
    unfold loopB
    simp only [decide_eq_true_eq]
    intro hm
    rcases closed_get hcl (c := (c : Int)) ⟨by omega, by omega⟩ with e | e
    · rw [show ((c : Int)).toNat = c by omega] at e
      rw [e, followed_neg] at hm
      cases hm
    · rw [show ((c : Int)).toNat = c by omega] at e
      obtain ⟨m, hm2⟩ : ∃ m : Nat, X.getD c 0 = m := ⟨(X.getD c 0).toNat, by unfold inC at e; omega⟩
      have hml : m < X.length := by unfold inC at e; omega
      rw [hm2] at hm
      have hs : stepC X c m := ⟨hc, hml, hm2⟩
      refine (hI c (by omega)).2.2 ?_
      rcases (follow_rch hcl hml).1 hm with e2 | g
      · subst e2
        exact .one ((hst _ _).1 hs)
      · exact rch_cons ((hst _ _).1 hs) (g.imp fun x y k => (hst x y).1 k)
  have hce : cellsB ⟨hvarsT s.nodes v, X⟩ = true := cells_iff.2 ⟨hcl, hvs⟩
  have hR : Rank X := (acyc_iff (h := ⟨hvarsT s.nodes v, X⟩) hcl).1 hac
  have hH := canon_heap (n := v) (p := ⟨hvarsT s.nodes v, X⟩) ⟨by omega, by omega⟩ (by simp [hvsl]) (by show X.length ≤ 6; omega) hce hR
  have hall : ∀ i : Nat, i < X.length → (i : Int) ∈ met ⟨hvarsT s.nodes v, X⟩ := by
    intro i hi
    have hi' : i < s.nodes.length := by omega
    obtain ⟨-, hr, -⟩ := hI i hi'
    obtain ⟨k, hk, hk2⟩ := List.getElem_of_mem hr
    have hkv : k < v := by rw [← (hvl i hi').2]; exact hk
    have e1 := meetsTo_two (p := s.nodes.length) hM i hi' k hk
    rw [List.getD_eq_getElem?_getD, List.getElem?_eq_getElem hk] at e1
    simp only [Option.getD_some] at e1
    rw [hk2, eval_reach hi'] at e1
    obtain ⟨j, hj, e2⟩ := (over_two fun j _ => andT_truth _ _).1 e1.symm
    obtain ⟨a1, a2⟩ := andT_two e2
    have a1 := knownT_two a1
    have a2 := (path2_iff hF hi' hj).1 (knownT_two a2)
    have a1 : (nodeI s (j : Nat)).vars.getD k 0 = 2 := by
      unfold at1 at a1
      rw [if_pos (by rw [(hvl j hj).1]; omega)] at a1
      simpa using a1
    have hf : (hvarsT s.nodes v)[k]'(by omega) = (j : Int) := by
      simp only [hvarsT, List.getElem_map, List.getElem_range]
      rcases first_cases (colT s.nodes k) with h | ⟨b, hb, e, e3⟩
      · exfalso
        apply h.2
        rw [← a1, ← hcolg k j hj, List.getD_eq_getElem?_getD, List.getElem?_eq_getElem (by rw [hcoll]; exact hj)]
        exact List.getElem_mem _
      · rw [hcoll] at hb
        rw [hcolg k b hb] at e3
        rw [e, hC k hkv b j hb hj e3 a1]
    refine mem_metTo.2 ⟨(j : Int), by rw [← hf]; exact List.getElem_mem _, ?_⟩
    refine (follow_rch hcl (by omega)).2 ?_
    rcases a2 with g | g
    · exact .inr (g.imp fun x y k => (hst x y).2 k)
    · exact .inl g.symm
  have hg := met_good ⟨hvarsT s.nodes v, X⟩
  have hlen : (met ⟨hvarsT s.nodes v, X⟩).length = s.nodes.length := by
    have h1 := goodC_len hg
    have h2 := nodup_sub_len (out := idsL X.length) (S := met ⟨hvarsT s.nodes v, X⟩) (fun x hx => by
      obtain ⟨i, hi, rfl⟩ := List.mem_map.1 hx
      exact hall i (by simpa using hi)) (List.Pairwise.map _ (fun a b h e => h (by omega)) List.nodup_range)
    rw [idsL_len] at h2
    change _ ≤ X.length at h1
    omega
  have hnl : (canonH ⟨hvarsT s.nodes v, X⟩).next.length = s.nodes.length := by
    unfold canonH
    rw [if_pos hce]
    simp [hlen]
  unfold heapOfB heapOfC
  rw [Int.toNat_natCast, hX, hS, hD, hH, hnl]
  simp
end Go.Vm

/- What Exec answers is a heap, and of a test and its opposite one holds. Plain; no condition. -/
import Derived.Test.YtkclkieeapdeiaaTCI
import Derived.Test.YtkclkieeapdeiaaTEX
set_option linter.unusedSimpArgs false
set_option linter.unusedVariables false
namespace Go.Vm
open Go.Proofs
theorem follow_in {nx : List Int} {S : Int → Prop} (hS : ∀ x, S x → inC nx.length x) (hc : ∀ x, S x → nx.getD x.toNat 0 = -1 ∨ S (nx.getD x.toNat 0)) : ∀ {n : Nat} {out : List Int} {c : Int}, (∀ x ∈ out, S x) → (c = -1 ∨ S c) → ∀ y ∈ follow nx n out c, S y
  | 0, out, c, ho, _, y, hy => ho y hy
  | n + 1, out, c, ho, h, y, hy => by
    by_cases h1 : c = -1 ∨ c ∈ out
    · rw [follow_stop h1] at hy; exact ho y hy
    · have h2 : S c := h.resolve_left fun e => h1 (.inl e)
      rw [follow_step h1 (hS c h2)] at hy
      refine follow_in hS hc (fun x hx => ?_) (hc c h2) y hy
      rcases List.mem_append.1 hx with hx | hx
      · exact ho x hx
      · rw [List.mem_singleton.1 hx]; exact h2
theorem followed_in {nx : List Int} {S : Int → Prop} (hS : ∀ x, S x → inC nx.length x) (hc : ∀ x, S x → nx.getD x.toNat 0 = -1 ∨ S (nx.getD x.toNat 0)) {c : Int} (h : c = -1 ∨ S c) : ∀ y ∈ followed nx c, S y :=
  follow_in hS hc (by simp) h
theorem followed_neg (nx : List Int) : followed nx (-1) = [] := by
  unfold followed
  rw [follow_stop (.inl rfl)]
/-- The cells stand in an order along Next. -/
def Rank (nx : List Int) : Prop := ∃ r : Int → Nat, ∀ c, inC nx.length c → nx.getD c.toNat 0 = -1 ∨ r (nx.getD c.toNat 0) < r c
theorem followed_next {nx : List Int} (hcl : closedC nx) {c : Int} (hc : inC nx.length c) : ∀ y ∈ followed nx (nx.getD c.toNat 0), y ∈ followed nx c :=
  followed_in (S := fun y => y ∈ followed nx c) (fun x hx => (followed_good nx c).2 x hx) (followed_closed hcl (.inr hc)) (followed_closed hcl (.inr hc) c (followed_self hcl hc))
theorem rank_of {nx : List Int} (hcl : closedC nx) (h : ∀ k, k < nx.length → endsB nx k = true) : Rank nx := by
  refine ⟨fun c => (followed nx c).length, fun c hc => ?_⟩
  by_cases h0 : nx.getD c.toNat 0 = -1
  · exact .inl h0
  refine .inr ?_
  have hn : c ∉ followed nx (nx.getD c.toNat 0) := fun hm => by
    have hk : c.toNat < nx.length := by unfold inC at hc; omega
    have e : ((c.toNat : Nat) : Int) = c := by unfold inC at hc; omega
    have hl : loopB nx c.toNat = true := by unfold loopB; rw [e]; simpa using hm
    have := loop_not_ends hcl hk hl
    rw [h _ hk] at this
    exact absurd this (by simp)
  have hs : c ∈ followed nx c := followed_self hcl hc
  have := nodup_sub_len (out := followed nx (nx.getD c.toNat 0)) (S := (followed nx c).erase c) (fun y hy => (List.mem_erase_of_ne (fun e : y = c => hn (e ▸ hy))).2 (followed_next hcl hc y hy)) (followed_good nx _).1
  rw [List.length_erase_of_mem hs] at this
  have := List.length_pos_of_mem hs
  change (followed nx (nx.getD c.toNat 0)).length < (followed nx c).length
  omega
theorem ends_of {nx : List Int} (hcl : closedC nx) (h : Rank nx) : ∀ k, k < nx.length → endsB nx k = true := by
  intro k hk
  cases he : endsB nx k
  · exfalso
    obtain ⟨c, hc, hl⟩ := not_ends_loop hcl hk he
    obtain ⟨r, hr⟩ := h
    have hc' : inC nx.length (c : Int) := ⟨by omega, by omega⟩
    unfold loopB at hl
    have hl := of_decide_eq_true hl
    have hn : nx.getD (c : Int).toNat 0 = nx.getD c 0 := by simp
    have h1 := hr c hc'
    rw [hn] at h1
    rcases h1 with h1 | h1
    · rw [h1, followed_neg] at hl; cases hl
    · have hd := closed_get hcl hc'
      rw [hn] at hd
      have hd : inC nx.length (nx.getD c 0) := hd.resolve_left fun e => by rw [e, followed_neg] at hl; cases hl
      have := followed_in (nx := nx) (S := fun y => inC nx.length y ∧ r y ≤ r (nx.getD c 0)) (fun x hx => hx.1) (fun x hx => by
        rcases hr x hx.1 with e | e
        · exact .inl e
        · rcases closed_get hcl hx.1 with e2 | e2
          · exact .inl e2
          · exact .inr ⟨e2, by have := hx.2; omega⟩) (c := nx.getD c 0) (.inr ⟨hd, Nat.le_refl _⟩) _ hl
      omega
  · rfl
theorem acyc_iff {h : Heap} (hcl : closedC h.next) : acycB h = true ↔ Rank h.next := by
  unfold acycB
  rw [List.all_eq_true]
  constructor
  · intro H; exact rank_of hcl fun k hk => H k (by simpa using hk)
  · intro H k hk; exact ends_of hcl H k (by simpa using hk)
theorem canon_rank {h : Heap} (hc : cellsB h = true) (hr : Rank h.next) : Rank (canonH h).next := by
  obtain ⟨hcl, hv⟩ := canon_cells hc
  obtain ⟨vs, nx⟩ := h
  have hg := met_good ⟨vs, nx⟩
  have hcan : canonH ⟨vs, nx⟩ = ⟨vs.map (nameT (met ⟨vs, nx⟩)), (met ⟨vs, nx⟩).map (nextN (met ⟨vs, nx⟩) nx)⟩ := by unfold canonH; rw [if_pos hc]; rfl
  rw [hcan]
  have hmem : ∀ x, x ∈ met ⟨vs, nx⟩ ↔ ∃ v ∈ vs, x ∈ followed nx v := fun x => mem_metTo
  change goodC nx.length _ at hg
  simp only at hcl hv hr ⊢
  generalize hS : met ⟨vs, nx⟩ = S at *
  obtain ⟨r, hr⟩ := hr
  refine ⟨fun i => r (S.getD i.toNat 0), fun i hi => ?_⟩
  have hi' : i.toNat < S.length := by unfold inC at hi; simp at hi; omega
  have hcS : S[i.toNat] ∈ S := List.getElem_mem hi'
  have e1 : (S.map (nextN S nx)).getD i.toNat 0 = nameT S (nx.getD S[i.toNat].toNat 0) := by simp [List.getD_eq_getElem?_getD, hi', nextN]
  have e2 : S.getD i.toNat 0 = S[i.toNat] := by simp [List.getD_eq_getElem?_getD, hi']
  rw [e1]
  simp only [e2]
  generalize S[i.toNat] = c at *
  have hcin : inC nx.length c := hg.2 c hcS
  rcases hr c hcin with h | h
  · left; rw [h]; exact name_neg hg
  · by_cases h0 : nx.getD c.toNat 0 = -1
    · left; rw [h0]; exact name_neg hg
    · right
      have hdS : nx.getD c.toNat 0 ∈ S := by
        obtain ⟨v, hv2, hx2⟩ := (hmem c).1 hcS
        exact (hmem _).2 ⟨v, hv2, (followed_closed hcl (hv v hv2) c hx2).resolve_left h0⟩
      generalize nx.getD c.toNat 0 = d at *
      have hl := List.idxOf_lt_length_of_mem hdS
      have e3 : nameT S d = ((S.idxOf d : Nat) : Int) := by
        have := name_get hg.1 hl
        rwa [List.getElem_idxOf] at this
      have e4 : S.getD (nameT S d).toNat 0 = d := by
        rw [e3, show (((S.idxOf d : Nat) : Int)).toNat = S.idxOf d by omega]
        simp [List.getD_eq_getElem?_getD, hl]
      rw [e4]; exact h
theorem canon_heap {n : Int} {p : Heap} (h1 : 1 ≤ n ∧ n ≤ 4) (hv : (p.vars.length : Int) = n) (hn : p.next.length ≤ 6) (hc : cellsB p = true) (hr : Rank p.next) : isHeapB n (canonH p) = true := by
  obtain ⟨hcc, hm⟩ := met_canon hc
  have hl : (canonH p).next.length ≤ p.next.length := by
    unfold canonH; rw [if_pos hc]
    have := goodC_len (met_good p)
    simpa using this
  have hvl : (canonH p).vars.length = p.vars.length := by unfold canonH; rw [if_pos hc]; simp
  have ha := (acyc_iff (canon_cells hcc).1).2 (canon_rank hc hr)
  unfold isHeapB
  rw [hm, hcc, ha, hvl, hv, idsL_len]
  have hid : isIds (idsL (canonH p).next.length) = true := ids_all fun j hj => by simp [idsL]
  rw [hid]
  simp
  omega
theorem cells_iff {p : Heap} : cellsB p = true ↔ closedC p.next ∧ ∀ v ∈ p.vars, v = -1 ∨ inC p.next.length v := by
  constructor
  · exact canon_cells
  · rintro ⟨h1, h2⟩
    unfold cellsB
    rw [List.all_eq_true]
    intro x hx
    rcases List.mem_append.1 hx with h | h
    · have := h2 x h; unfold inC at this; simp; omega
    · have := h1 x h; unfold inC at this; simp; omega
theorem getD_set {xs : List Int} {i j : Nat} {x d : Int} : (xs.set i x).getD j d = if i = j ∧ i < xs.length then x else xs.getD j d := by
  simp only [List.getD_eq_getElem?_getD]
  by_cases h : i = j ∧ i < xs.length
  · obtain ⟨rfl, h⟩ := h
    simp [h]
  · rw [if_neg h]
    by_cases e : i = j
    · subst e
      have : ¬ i < xs.length := fun h' => h ⟨rfl, h'⟩
      rw [List.set_eq_of_length_le (by omega)]
    · rw [List.getElem?_set_ne e]
theorem pos_two {xs : List Int} {n : Int} {i j : Nat} (hi : i < xs.length) (hj : j < xs.length) (h : i ≠ j) (e1 : xs.getD i 0 = n) (e2 : xs.getD j 0 = n) : 1 < (pos xs n).length := by
  have m1 : (i : Int) ∈ pos xs n := List.mem_map.2 ⟨i, List.mem_filter.2 ⟨by simpa using hi, by simpa using e1⟩, rfl⟩
  have m2 : (j : Int) ∈ pos xs n := List.mem_map.2 ⟨j, List.mem_filter.2 ⟨by simpa using hj, by simpa using e2⟩, rfl⟩
  generalize pos xs n = l at *
  match l, m1, m2 with
  | [], m1, _ => cases m1
  | [x], m1, m2 => simp at m1 m2; omega
  | _ :: _ :: _, _, _ => simp
/-- What performing gives. -/
theorem perf_good {h : Heap} {k o a b : Int} (hc : cellsB h = true) (hr : Rank h.next) (ho : k = 2 ∨ k = 3 ∨ k = 4 ∨ k = 5 ∨ k = 8 → 0 ≤ o ∧ o < h.vars.length)
    (ha : k = 6 ∨ k = 7 ∨ k = 8 → inC h.next.length a) (hb : k = 4 ∨ k = 7 → b = -1 ∨ inC h.next.length b) (hb5 : k = 5 → inC h.next.length b)
    (hao : k = 8 → h.vars.getD o.toNat 0 = a) (h8 : k = 8 → ¬ (1 < (pos h.vars a).length ∨ a ∈ h.next)) (h7 : k = 7 → a ∉ followed h.next b) (hl : h.next.length ≤ 6) (h3 : k = 3 → h.next.length ≠ 6) :
    cellsB (perfH k h o a b) = true ∧ Rank (perfH k h o a b).next ∧ (perfH k h o a b).vars.length = h.vars.length ∧ (perfH k h o a b).next.length ≤ 6 := by
  obtain ⟨hcl, hv⟩ := canon_cells hc
  obtain ⟨vs, nx⟩ := h
  simp only at *
  have hset : ∀ {n : Nat} {x : Int}, (∀ v ∈ vs, v = -1 ∨ inC n v) → (x = -1 ∨ inC n x) → ∀ v ∈ vs.set o.toNat x, v = -1 ∨ inC n v := fun h1 h2 v hv => by
    rcases List.mem_or_eq_of_mem_set hv with h | h
    · exact h1 v h
    · subst h; exact h2
  have hup : ∀ {n : Nat} {v : Int}, n ≤ nx.length + 1 → nx.length ≤ n → (v = -1 ∨ inC nx.length v) → (v = -1 ∨ inC n v) := fun h1 h2 h => by unfold inC at *; omega
  unfold perfH
  split
  · refine ⟨cells_iff.2 ⟨hcl, hset hv (.inl rfl)⟩, hr, by simp, hl⟩
  split
  · rename_i k3
    refine ⟨cells_iff.2 ⟨fun x hx => ?_, ?_⟩, ?_, by simp, ?_⟩
    · simp only [List.length_append, List.length_cons, List.length_nil]
      rcases List.mem_append.1 hx with h | h
      · exact hup (by omega) (by omega) (hcl x h)
      · simp at h; exact .inl h
    · simp only [List.length_append, List.length_cons, List.length_nil]
      exact hset (fun v hv' => hup (by omega) (by omega) (hv v hv')) (.inr (by unfold inC; omega))
    · obtain ⟨r, hr⟩ := hr
      refine ⟨r, fun c hc => ?_⟩
      simp only [List.length_append, List.length_cons, List.length_nil] at hc
      by_cases e : c.toNat < nx.length
      · have e1 : (nx ++ [-1]).getD c.toNat 0 = nx.getD c.toNat 0 := by simp [List.getD_eq_getElem?_getD, List.getElem?_append_left e]
        rw [e1]
        exact hr c (by unfold inC at *; omega)
      · left
        have e1 : c.toNat = nx.length := by unfold inC at hc; omega
        rw [e1]; simp [List.getD_eq_getElem?_getD]
    · have := h3 k3; simp; omega
  split
  · rename_i k4
    exact ⟨cells_iff.2 ⟨hcl, hset hv (hb (.inl k4))⟩, hr, by simp, hl⟩
  split
  · rename_i k5
    exact ⟨cells_iff.2 ⟨hcl, hset hv (closed_get hcl (hb5 k5))⟩, hr, by simp, hl⟩
  split
  · rename_i k6
    refine ⟨cells_iff.2 ⟨fun x hx => ?_, ?_⟩, ?_, rfl, by simpa using hl⟩
    · simp only [List.length_set]
      rcases List.mem_or_eq_of_mem_set hx with h | h
      · exact hcl x h
      · exact .inl h
    · simpa using hv
    · obtain ⟨r, hr⟩ := hr
      refine ⟨r, fun c hc => ?_⟩
      simp only [List.length_set] at hc
      rw [getD_set]
      split
      · exact .inl rfl
      · exact hr c hc
  split
  · rename_i k7
    have ha := ha (.inr (.inl k7))
    have hb := hb (.inr k7)
    have h7 := h7 k7
    have hal : a.toNat < nx.length := by unfold inC at ha; omega
    refine ⟨cells_iff.2 ⟨fun x hx => ?_, ?_⟩, ?_, rfl, by simpa using hl⟩
    · simp only [List.length_set]
      rcases List.mem_or_eq_of_mem_set hx with h | h
      · exact hcl x h
      · rw [h]; exact hb
    · simpa using hv
    · obtain ⟨r, hr⟩ := hr
      refine ⟨fun x => r x + if a ∈ followed nx x then r b + 1 else 0, fun c hc => ?_⟩
      simp only [List.length_set] at hc
      rw [getD_set]
      by_cases e : a.toNat = c.toNat
      · have e2 : a = c := by unfold inC at *; omega
        rw [if_pos ⟨e, hal⟩]
        subst e2
        right
        have hs := followed_self hcl ha
        simp only [h7, hs, if_true, if_false]
        omega
      · rw [if_neg fun h => e h.1]
        rcases hr c hc with h | h
        · exact .inl h
        · right
          by_cases g : a ∈ followed nx (nx.getD c.toNat 0)
          · have := followed_next hcl hc a g
            simp only [g, this, if_true]
            omega
          · simp only [g, if_false]
            omega
  split
  · rename_i k8
    have ho := ho (.inr (.inr (.inr (.inr k8))))
    have ha := ha (.inr (.inr k8))
    have hao := hao k8
    have h8 := h8 k8
    have h8b : a ∉ nx := fun e => h8 (.inr e)
    have h8a : ¬ 1 < (pos vs a).length := fun e => h8 (.inl e)
    obtain ⟨m, rfl⟩ : ∃ m : Nat, a = m := ⟨a.toNat, by unfold inC at ha; omega⟩
    have hm : m < nx.length := by unfold inC at ha; omega
    have em : (m : Int).toNat = m := by omega
    rw [em]
    have hel : (nx.eraseIdx m).length = nx.length - 1 := by rw [List.length_eraseIdx_of_lt hm]
    have hdec : ∀ y : Int, (y = -1 ∨ inC nx.length y) → y ≠ m → decC m y = -1 ∨ inC (nx.length - 1) (decC m y) := fun y h1 h2 => by
      unfold decC inC at *
      split <;> omega
    have hvs : ∀ v ∈ vs.set o.toNat (-1), v ≠ m := by
      intro v hv' e
      subst e
      obtain ⟨j, hj, e⟩ := List.getElem_of_mem hv'
      simp only [List.length_set] at hj
      rw [List.getElem_set] at e
      split at e
      · omega
      · rename_i hne
        exact h8a (pos_two (i := o.toNat) (j := j) (by omega) hj hne hao (by simp [List.getD_eq_getElem?_getD, hj, e]))
    have hnxm : ∀ y ∈ nx, y ≠ m := fun y hy e => h8b (e ▸ hy)
    refine ⟨cells_iff.2 ⟨fun x hx => ?_, fun v hv' => ?_⟩, ?_, by simp, ?_⟩
    · simp only [List.length_map, hel]
      obtain ⟨y, hy, rfl⟩ := List.mem_map.1 hx
      have hy' := List.mem_of_mem_eraseIdx hy
      exact hdec y (hcl y hy') (hnxm y hy')
    · simp only [List.length_map, hel]
      obtain ⟨y, hy, rfl⟩ := List.mem_map.1 hv'
      exact hdec y (hset hv (.inl rfl) y hy) (hvs y hy)
    · obtain ⟨r, hr⟩ := hr
      refine ⟨fun x => r (if (m : Int) ≤ x then x + 1 else x), fun c hc => ?_⟩
      simp only [List.length_map, hel] at hc
      have hq : ∃ q : Int, q = (if (m : Int) ≤ c then c + 1 else c) ∧ inC nx.length q ∧ ((nx.eraseIdx m).map (decC m)).getD c.toNat 0 = decC m (nx.getD q.toNat 0) := by
        refine ⟨_, rfl, by unfold inC at *; split <;> omega, ?_⟩
        have hcl' : c.toNat < (nx.eraseIdx m).length := by unfold inC at hc; omega
        have e1 : ((nx.eraseIdx m).map (decC m)).getD c.toNat 0 = decC m ((nx.eraseIdx m)[c.toNat]) := by
          rw [List.getD_eq_getElem?_getD, List.getElem?_map, List.getElem?_eq_getElem hcl']; rfl
        rw [e1, List.getElem_eraseIdx]
        unfold inC at hc
        split
        · rename_i g
          rw [if_neg (by omega)]
          simp [List.getD_eq_getElem?_getD, show c.toNat < nx.length by omega]
        · rename_i g
          rw [if_pos (by omega), show (c + 1).toNat = c.toNat + 1 by omega]
          simp [List.getD_eq_getElem?_getD, show c.toNat + 1 < nx.length by omega]
      obtain ⟨q, e1, hqin, e2⟩ := hq
      rw [e2]
      simp only [← e1]
      have hmem : nx.getD q.toNat 0 ∈ nx := by
        have : q.toNat < nx.length := by unfold inC at hqin; omega
        simp [List.getD_eq_getElem?_getD, this]
      have hd := hcl _ hmem
      have hdm := hnxm _ hmem
      rcases hr q hqin with h | h
      · left; rw [h]; unfold decC; rw [if_neg (by omega)]
      · generalize nx.getD q.toNat 0 = d at *
        rcases hd with rfl | hd
        · left; unfold decC; rw [if_neg (by omega)]
        · right
          have : (if (m : Int) ≤ decC m d then decC m d + 1 else decC m d) = d := by
            unfold decC inC at *
            split <;> split <;> omega
          rw [this]; exact h
    · simp only [List.length_map, hel]; omega
  · exact ⟨hc, hr, rfl, hl⟩
theorem isHeap_parts {n : Int} {h : Heap} (hh : isHeapB n h = true) : cellsB h = true ∧ Rank h.next := by
  unfold isHeapB at hh
  simp only [Bool.and_eq_true, decide_eq_true_eq] at hh
  obtain ⟨⟨⟨⟨⟨⟨⟨-, -⟩, -⟩, -⟩, hc⟩, ha⟩, -⟩, -⟩ := hh
  exact ⟨hc, (acyc_iff (cells_closed hc)).1 ha⟩
theorem at_in {vars : List (List UInt8)} {h : Heap} {x : List UInt8} (hl : h.vars.length = vars.length) (hv : ∀ v ∈ h.vars, v = -1 ∨ inC h.next.length v) (hx : 0 ≤ ixS vars x ∧ ixS vars x < vars.length) : atV vars h x = -1 ∨ inC h.next.length (atV vars h x) := by
  unfold atV
  rw [if_pos hx.1]
  have hi : (ixS vars x).toNat < h.vars.length := by omega
  rw [List.getD_eq_getElem?_getD, List.getElem?_eq_getElem hi]
  exact hv _ (List.getElem_mem hi)
theorem exec_heap {vars : List (List UInt8)} {s : Stmt} {h : Heap} (e : (execH vars s h).2 = 0) : isHeapB vars.length (execH vars s h).1 = true := by
  unfold execH at e ⊢
  simp only [] at e ⊢
  by_cases c0 : ¬ (stmtB vars s = true ∧ isHeapB vars.length h = true)
  · rw [if_pos c0] at e; exact absurd e (by decide)
  rw [if_neg c0] at e ⊢
  by_cases c1 : testB s.kind = true ∧ holdsB s.kind (atV vars h s.a) (atV vars h s.b) = false
  · rw [if_pos c1] at e; exact absurd e (by decide)
  rw [if_neg c1] at e ⊢
  by_cases c2 : needB s.kind = true ∧ needV s.kind (atV vars h s.a) (atV vars h s.b) = -1
  · rw [if_pos c2] at e; exact absurd e (by decide)
  rw [if_neg c2] at e ⊢
  by_cases c3 : s.kind = 3 ∧ h.next.length = 6
  · rw [if_pos c3] at e; exact absurd e (by decide)
  rw [if_neg c3] at e ⊢
  by_cases c4 : s.kind = 8 ∧ (1 < (pos h.vars (atV vars h s.a)).length ∨ atV vars h s.a ∈ h.next)
  · rw [if_pos c4] at e; exact absurd e (by decide)
  rw [if_neg c4] at e ⊢
  by_cases c5 : s.kind = 7 ∧ atV vars h s.a ∈ followed h.next (atV vars h s.b)
  · rw [if_pos c5] at e; exact absurd e (by decide)
  rw [if_neg c5] at e ⊢
  split at e
  · exact absurd e (by decide)
  rename_i c6
  rw [if_neg c6]
  have c0 := Decidable.not_not.mp c0
  obtain ⟨e1, e2, e3, e4, -, -⟩ := heap_bounds c0.2
  obtain ⟨hc, hr⟩ := isHeap_parts c0.2
  obtain ⟨hk, hna, hnb⟩ := stmt_names c0.1
  have hl : h.vars.length = vars.length := by omega
  obtain ⟨-, hv⟩ := canon_cells hc
  have nA : s.kind ≠ 1 → 0 < namesN s.kind := fun h1 => by
    unfold namesN
    rw [if_neg h1]
    split
    · omega
    · split <;> omega
  have nB : (s.kind = 4 ∨ s.kind = 5 ∨ s.kind = 7) → 1 < namesN s.kind := fun h => by rcases h with h | h | h <;> rw [h] <;> decide
  obtain ⟨p1, p2, p3, p4⟩ := perf_good (h := h) (k := s.kind) (o := ixS vars s.a) (a := atV vars h s.a) (b := atV vars h s.b) hc hr
    (fun hk => by have := hna (nA (by omega)); omega)
    (fun hk => (at_in hl hv (hna (nA (by omega)))).resolve_left fun ea => c2 ⟨by rcases hk with h | h | h <;> rw [h] <;> rfl, by unfold needV; rw [if_neg (by omega), if_pos (by omega)]; exact ea⟩)
    (fun hk => at_in hl hv (hnb (nB (by omega))))
    (fun hk => (at_in hl hv (hnb (nB (by omega)))).resolve_left fun ea => c2 ⟨by rw [hk]; rfl, by unfold needV; rw [if_pos hk]; exact ea⟩)
    (fun hk => by have := hna (nA (by omega)); unfold atV; rw [if_pos this.1])
    (fun hk hx => c4 ⟨hk, hx⟩) (fun hk hx => c5 ⟨hk, hx⟩) e4 (fun hk hx => c3 ⟨hk, hx⟩)
  exact canon_heap ⟨e3, e2⟩ (by omega) p4 p1 p2
/-- The opposite of a test. -/
def oppS (s : Stmt) : Stmt := ⟨if s.kind = 10 ∨ s.kind = 12 then s.kind - 1 else s.kind + 1, s.a, s.b⟩
theorem test_exec {vars : List (List UInt8)} {s : Stmt} {h : Heap} (hs : stmtB vars s = true) (hh : isHeapB vars.length h = true) (ht : testB s.kind = true) :
    execH vars s h = if holdsB s.kind (atV vars h s.a) (atV vars h s.b) = true then (h, 0) else (⟨[], []⟩, 1) := by
  have hk : s.kind = 9 ∨ s.kind = 10 ∨ s.kind = 11 ∨ s.kind = 12 := by unfold testB at ht; simp at ht; omega
  obtain ⟨q1, q2⟩ := heap_canon hh
  have hp : perfH s.kind h (ixS vars s.a) (atV vars h s.a) (atV vars h s.b) = h := by
    unfold perfH
    rw [if_neg (by omega), if_neg (by omega), if_neg (by omega), if_neg (by omega), if_neg (by omega), if_neg (by omega), if_neg (by omega)]
  unfold execH
  simp only [hp]
  rw [if_neg (fun c => c ⟨hs, hh⟩)]
  cases hb : holdsB s.kind (atV vars h s.a) (atV vars h s.b)
  · rw [if_pos ⟨ht, rfl⟩]; simp
  · rw [if_neg (by simp), if_neg (fun c => by have c := c.1; unfold needB at c; simp at c; omega), if_neg (fun c => by have := c.1; omega), if_neg (fun c => by have := c.1; omega), if_neg (fun c => by have := c.1; omega), q2, q1]
    simp
theorem exec_seven {vars : List (List UInt8)} {s : Stmt} {h : Heap} (e : (execH vars s h).2 ≠ 7) : stmtB vars s = true ∧ isHeapB vars.length h = true := by
  by_cases c0 : ¬ (stmtB vars s = true ∧ isHeapB vars.length h = true)
  · unfold execH at e; simp only [] at e; rw [if_pos c0] at e; exact absurd rfl e
  · exact Decidable.not_not.mp c0
theorem exec_test {vars : List (List UInt8)} {s : Stmt} {h : Heap} (ht : testB s.kind = true) (e : (execH vars s h).2 ≠ 7) :
    (((execH vars s h).2 = 0 ∧ (execH vars (oppS s) h).2 = 1) ∨ ((execH vars s h).2 = 1 ∧ (execH vars (oppS s) h).2 = 0)) ∧ ((execH vars s h).2 = 0 → (execH vars s h).1 = h) ∧ ((execH vars (oppS s) h).2 = 0 → (execH vars (oppS s) h).1 = h) := by
  obtain ⟨hs, hh⟩ := exec_seven e
  have hk : s.kind = 9 ∨ s.kind = 10 ∨ s.kind = 11 ∨ s.kind = 12 := by unfold testB at ht; simp at ht; omega
  have hn : namesN (oppS s).kind = namesN s.kind := by
    unfold oppS
    rcases hk with h | h | h | h <;> rw [h] <;> rfl
  have ht2 : testB (oppS s).kind = true := by
    unfold oppS
    rcases hk with h | h | h | h <;> rw [h] <;> rfl
  have hs2 : stmtB vars (oppS s) = true := by
    unfold stmtB namesOkB at hs ⊢
    rw [hn]
    exact hs
  have ho : holdsB (oppS s).kind (atV vars h (oppS s).a) (atV vars h (oppS s).b) = !holdsB s.kind (atV vars h s.a) (atV vars h s.b) := by
    change holdsB (oppS s).kind (atV vars h s.a) (atV vars h s.b) = _
    unfold oppS holdsB
    rcases hk with h | h | h | h <;> rw [h] <;> simp
  rw [test_exec hs hh ht, test_exec hs2 hh ht2, ho]
  cases holdsB s.kind (atV vars h s.a) (atV vars h s.b) <;> simp
end Go.Vm

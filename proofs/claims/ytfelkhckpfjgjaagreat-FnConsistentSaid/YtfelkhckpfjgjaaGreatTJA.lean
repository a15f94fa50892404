/- What Exec answers is a heap, and of a test and its opposite one holds. Plain; no condition. -/
import Derived.Test.YtfelkhckpfjgjaaGreatTCI
import Derived.Test.YtfelkhckpfjgjaaGreatTEX
import Derived.Test.YtfelkhckpfjgjaaGreatTDL
import Derived.Test.YtfelkhckpfjgjaaGreatTDE
import Derived.Test.YtfelkhckpfjgjaaGreatTGD
import Derived.Test.YtfelkhckpfjgjaaGreatTGG
set_option linter.unusedSimpArgs false
set_option linter.unusedVariables false
namespace Go.Vm
open Go.Proofs
theorem follow_in {nx : List Int} {S : Int → Prop} (hS : ∀ x, S x → inC nx.length x) (hc : ∀ x, S x → nx.getD x.toNat 0 = -1 ∨ S (nx.getD x.toNat 0)) : ∀ {n : Nat} {out : List Int} {c : Int}, (∀ x ∈ out, S x) → (c = -1 ∨ S c) → ∀ y ∈ follow nx n out c, S y
  | 0, out, c, ho, _, y, hy => ho y hy
  | n + 1, out, c, ho, h, y, hy => by
    by_cases h1 : c = -1 ∨ c ∈ out
    · rw [follow_stop h1] at hy; exact ho y hy
    · have h2 : S c := h.resolve_left fun e => h1 (.inl e)
      rw [follow_step h1 (hS c h2)] at hy
      refine follow_in hS hc (fun x hx => ?_) (hc c h2) y hy
      rcases List.mem_append.1 hx with hx | hx
      · exact ho x hx
      · rw [List.mem_singleton.1 hx]; exact h2
theorem followed_in {nx : List Int} {S : Int → Prop} (hS : ∀ x, S x → inC nx.length x) (hc : ∀ x, S x → nx.getD x.toNat 0 = -1 ∨ S (nx.getD x.toNat 0)) {c : Int} (h : c = -1 ∨ S c) : ∀ y ∈ followed nx c, S y :=
  follow_in hS hc (by simp) h
theorem followed_neg (nx : List Int) : followed nx (-1) = [] := by
  unfold followed
  rw [follow_stop (.inl rfl)]
def Rank (nx : List Int) : Prop := ∃ r : Int → Nat, ∀ c, inC nx.length c → nx.getD c.toNat 0 = -1 ∨ r (nx.getD c.toNat 0) < r c
theorem followed_next {nx : List Int} (hcl : closedC nx) {c : Int} (hc : inC nx.length c) : ∀ y ∈ followed nx (nx.getD c.toNat 0), y ∈ followed nx c :=
  followed_in (S := fun y => y ∈ followed nx c) (fun x hx => (followed_good nx c).2 x hx) (followed_closed hcl (.inr hc)) (followed_closed hcl (.inr hc) c (followed_self hcl hc))
theorem rank_of {nx : List Int} (hcl : closedC nx) (h : ∀ k, k < nx.length → endsB nx k = true) : Rank nx := by
  refine ⟨fun c => (followed nx c).length, fun c hc => ?_⟩
  by_cases h0 : nx.getD c.toNat 0 = -1
  · exact .inl h0
  refine .inr ?_
  have hn : c ∉ followed nx (nx.getD c.toNat 0) := fun hm => by
    have hk : c.toNat < nx.length := by unfold inC at hc; omega
    have e : ((c.toNat : Nat) : Int) = c := by unfold inC at hc; omega
    have hl : loopB nx c.toNat = true := by unfold loopB; rw [e]; simpa using hm
    have := loop_not_ends hcl hk hl
    rw [h _ hk] at this
    exact absurd this (by simp)
  have hs : c ∈ followed nx c := followed_self hcl hc
  have := nodup_sub_len (out := followed nx (nx.getD c.toNat 0)) (S := (followed nx c).erase c) (fun y hy => (List.mem_erase_of_ne (fun e : y = c => hn (e ▸ hy))).2 (followed_next hcl hc y hy)) (followed_good nx _).1
  rw [List.length_erase_of_mem hs] at this
  have := List.length_pos_of_mem hs
  change (followed nx (nx.getD c.toNat 0)).length < (followed nx c).length
  omega
theorem ends_of {nx : List Int} (hcl : closedC nx) (h : Rank nx) : ∀ k, k < nx.length → endsB nx k = true := by
  intro k hk
  cases he : endsB nx k
  · exfalso
    obtain ⟨c, hc, hl⟩ := not_ends_loop hcl hk he
    obtain ⟨r, hr⟩ := h
    have hc' : inC nx.length (c : Int) := ⟨by omega, by omega⟩
    unfold loopB at hl
    have hl := of_decide_eq_true hl
    have hn : nx.getD (c : Int).toNat 0 = nx.getD c 0 := by simp
    have h1 := hr c hc'
    rw [hn] at h1
    rcases h1 with h1 | h1
    · rw [h1, followed_neg] at hl; cases hl
    · have hd := closed_get hcl hc'
      rw [hn] at hd
      have hd : inC nx.length (nx.getD c 0) := hd.resolve_left fun e => by rw [e, followed_neg] at hl; cases hl
      have := followed_in (nx := nx) (S := fun y => inC nx.length y ∧ r y ≤ r (nx.getD c 0)) (fun x hx => hx.1) (fun x hx => by
        rcases hr x hx.1 with e | e
        · exact .inl e
        · rcases closed_get hcl hx.1 with e2 | e2
          · exact .inl e2
          · exact .inr ⟨e2, by have := hx.2; omega⟩) (c := nx.getD c 0) (.inr ⟨hd, Nat.le_refl _⟩) _ hl
      omega
  · rfl
theorem acyc_iff {h : Heap} (hcl : closedC h.next) : acycB h = true ↔ Rank h.next := by
  unfold acycB
  rw [List.all_eq_true]
  constructor
  · intro H; exact rank_of hcl fun k hk => H k (by simpa using hk)
  · intro H k hk; exact ends_of hcl H k (by simpa using hk)
theorem canon_rank {h : Heap} (hc : cellsB h = true) (hr : Rank h.next) : Rank (canonH h).next := by
  obtain ⟨hcl, hv⟩ := canon_cells hc
  obtain ⟨vs, nx⟩ := h
  have hg := met_good ⟨vs, nx⟩
  have hcan : canonH ⟨vs, nx⟩ = ⟨vs.map (nameT (met ⟨vs, nx⟩)), (met ⟨vs, nx⟩).map (nextN (met ⟨vs, nx⟩) nx)⟩ := by unfold canonH; rw [if_pos hc]; rfl
  rw [hcan]
  have hmem : ∀ x, x ∈ met ⟨vs, nx⟩ ↔ ∃ v ∈ vs, x ∈ followed nx v := fun x => mem_metTo
  change goodC nx.length _ at hg
  simp only at hcl hv hr ⊢
  generalize hS : met ⟨vs, nx⟩ = S at *
  obtain ⟨r, hr⟩ := hr
  refine ⟨fun i => r (S.getD i.toNat 0), fun i hi => ?_⟩
  have hi' : i.toNat < S.length := by unfold inC at hi; simp at hi; omega
  have hcS : S[i.toNat] ∈ S := List.getElem_mem hi'
  have e1 : (S.map (nextN S nx)).getD i.toNat 0 = nameT S (nx.getD S[i.toNat].toNat 0) := by simp [List.getD_eq_getElem?_getD, hi', nextN]
  have e2 : S.getD i.toNat 0 = S[i.toNat] := by simp [List.getD_eq_getElem?_getD, hi']
  rw [e1]
  simp only [e2]
  generalize S[i.toNat] = c at *
  have hcin : inC nx.length c := hg.2 c hcS
  rcases hr c hcin with h | h
  · left; rw [h]; exact name_neg hg
  · by_cases h0 : nx.getD c.toNat 0 = -1
    · left; rw [h0]; exact name_neg hg
    · right
      have hdS : nx.getD c.toNat 0 ∈ S := by
        obtain ⟨v, hv2, hx2⟩ := (hmem c).1 hcS
        exact (hmem _).2 ⟨v, hv2, (followed_closed hcl (hv v hv2) c hx2).resolve_left h0⟩
      generalize nx.getD c.toNat 0 = d at *
      have hl := List.idxOf_lt_length_of_mem hdS
      have e3 : nameT S d = ((S.idxOf d : Nat) : Int) := by
        have := name_get hg.1 hl
        rwa [List.getElem_idxOf] at this
      have e4 : S.getD (nameT S d).toNat 0 = d := by
        rw [e3, show (((S.idxOf d : Nat) : Int)).toNat = S.idxOf d by omega]
        simp [List.getD_eq_getElem?_getD, hl]
      rw [e4]; exact h
theorem canon_heap {n : Int} {p : Heap} (h1 : 1 ≤ n ∧ n ≤ 4) (hv : (p.vars.length : Int) = n) (hn : p.next.length ≤ 6) (hc : cellsB p = true) (hr : Rank p.next) : isHeapB n (canonH p) = true := by
  obtain ⟨hcc, hm⟩ := met_canon hc
  have hl : (canonH p).next.length ≤ p.next.length := by
    unfold canonH; rw [if_pos hc]
    have := goodC_len (met_good p)
    simpa using this
  have hvl : (canonH p).vars.length = p.vars.length := by unfold canonH; rw [if_pos hc]; simp
  have ha := (acyc_iff (canon_cells hcc).1).2 (canon_rank hc hr)
  unfold isHeapB
  rw [hm, hcc, ha, hvl, hv, idsL_len]
  have hid : isIds (idsL (canonH p).next.length) = true := ids_all fun j hj => by simp [idsL]
  rw [hid]
  simp
  omega
theorem cells_iff {p : Heap} : cellsB p = true ↔ closedC p.next ∧ ∀ v ∈ p.vars, v = -1 ∨ inC p.next.length v := by
  constructor
  · exact canon_cells
  · rintro ⟨h1, h2⟩
    unfold cellsB
    rw [List.all_eq_true]
    intro x hx
    rcases List.mem_append.1 hx with h | h
    · have := h2 x h; unfold inC at this; simp; omega
    · have := h1 x h; unfold inC at this; simp; omega
theorem pos_two {xs : List Int} {n : Int} {i j : Nat} (hi : i < xs.length) (hj : j < xs.length) (h : i ≠ j) (e1 : xs.getD i 0 = n) (e2 : xs.getD j 0 = n) : 1 < (pos xs n).length := by
  have m1 : (i : Int) ∈ pos xs n := List.mem_map.2 ⟨i, List.mem_filter.2 ⟨by simpa using hi, by simpa using e1⟩, rfl⟩
  have m2 : (j : Int) ∈ pos xs n := List.mem_map.2 ⟨j, List.mem_filter.2 ⟨by simpa using hj, by simpa using e2⟩, rfl⟩
  generalize pos xs n = l at *
  match l, m1, m2 with
  | [], m1, _ => cases m1
  | [x], m1, m2 => simp at m1 m2; omega
  | _ :: _ :: _, _, _ => simp
theorem isHeap_parts {n : Int} {h : Heap} (hh : isHeapB n h = true) : cellsB h = true ∧ Rank h.next := by
  unfold isHeapB at hh
  simp only [Bool.and_eq_true, decide_eq_true_eq] at hh
  obtain ⟨⟨⟨⟨⟨⟨⟨-, -⟩, -⟩, -⟩, hc⟩, ha⟩, -⟩, -⟩ := hh
  exact ⟨hc, (acyc_iff (cells_closed hc)).1 ha⟩
end Go.Vm
namespace Go.Vm
open Go.Proofs
theorem trI_ne (b : Bool) : trI b ≠ 1 := by cases b <;> decide
theorem isDef_strc (vs nx : List Int) (n m : Nat) : isDef ⟨nodesT vs nx n, nextsT nx m⟩ = true := by
  unfold isDef
  have e1 : ¬ (1 : Int) ∈ nextsT nx m := by
    intro h
    obtain ⟨c, _, h⟩ := List.mem_flatMap.1 h
    obtain ⟨d, _, h⟩ := List.mem_map.1 h
    exact trI_ne _ h
  have e2 : (nodesT vs nx n).any halfN = false := by
    rw [List.any_eq_false]
    intro x hx
    obtain ⟨i, _, rfl⟩ := List.mem_map.1 hx
    have t1 : ¬ (1 : Int) ∈ vs.map (varT i) := fun h => by obtain ⟨v, _, h⟩ := List.mem_map.1 h; exact trI_ne _ h
    have t2 : ¬ (1 : Int) ∈ vs.map (reachT nx i) := fun h => by obtain ⟨v, _, h⟩ := List.mem_map.1 h; exact trI_ne _ h
    have t3 : sharT nx i ≠ 1 := trI_ne _
    have b1 : (sharT nx i == 1) = false := by simpa using t3
    show ¬ (sharT nx i == 1 || (0 : Int) == 1 || decide (1 ∈ vs.map (varT i)) || decide (1 ∈ vs.map (reachT nx i))) = true
    rw [b1, decide_eq_false t1, decide_eq_false t2]
    decide
  rw [e2]
  simp [e1]
theorem heap_fit {n : Int} {h : Heap} (hh : isHeapB n h = true) : fitS h = true := by
  obtain ⟨e1, e2, e3, e4, -, -⟩ := heap_bounds hh
  unfold fitS
  rw [(isHeap_parts hh).1]
  simp
  omega
end Go.Vm

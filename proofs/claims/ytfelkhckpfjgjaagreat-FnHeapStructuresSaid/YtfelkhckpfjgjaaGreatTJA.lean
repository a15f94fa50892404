/- What Exec answers is a heap, and of a test and its opposite one holds. Plain; no condition. -/
import Derived.Test.YtfelkhckpfjgjaaGreatTCI
import Derived.Test.YtfelkhckpfjgjaaGreatTEX
import Derived.Test.YtfelkhckpfjgjaaGreatTDL
import Derived.Test.YtfelkhckpfjgjaaGreatTDE
import Derived.Test.YtfelkhckpfjgjaaGreatTGD
import Derived.Test.YtfelkhckpfjgjaaGreatTGG
set_option linter.unusedSimpArgs false
set_option linter.unusedVariables false
namespace Go.Vm
open Go.Proofs
theorem follow_in {nx : List Int} {S : Int → Prop} (hS : ∀ x, S x → inC nx.length x) (hc : ∀ x, S x → nx.getD x.toNat 0 = -1 ∨ S (nx.getD x.toNat 0)) : ∀ {n : Nat} {out : List Int} {c : Int}, (∀ x ∈ out, S x) → (c = -1 ∨ S c) → ∀ y ∈ follow nx n out c, S y
  | 0, out, c, ho, _, y, hy => ho y hy
  | n + 1, out, c, ho, h, y, hy => by
    by_cases h1 : c = -1 ∨ c ∈ out
    · rw [follow_stop h1] at hy; exact ho y hy
    · have h2 : S c := h.resolve_left fun e => h1 (.inl e)
      rw [follow_step h1 (hS c h2)] at hy
      refine follow_in hS hc (fun x hx => ?_) (hc c h2) y hy
      rcases List.mem_append.1 hx with hx | hx
      · exact ho x hx
      · rw [List.mem_singleton.1 hx]; exact h2
theorem followed_in {nx : List Int} {S : Int → Prop} (hS : ∀ x, S x → inC nx.length x) (hc : ∀ x, S x → nx.getD x.toNat 0 = -1 ∨ S (nx.getD x.toNat 0)) {c : Int} (h : c = -1 ∨ S c) : ∀ y ∈ followed nx c, S y :=
  follow_in hS hc (by simp) h
theorem followed_neg (nx : List Int) : followed nx (-1) = [] := by
  unfold followed
  rw [follow_stop (.inl rfl)]
/-- The cells stand in an order along Next. -/
def Rank (nx : List Int) : Prop := ∃ r : Int → Nat, ∀ c, inC nx.length c → nx.getD c.toNat 0 = -1 ∨ r (nx.getD c.toNat 0) < r c
theorem followed_next {nx : List Int} (hcl : closedC nx) {c : Int} (hc : inC nx.length c) : ∀ y ∈ followed nx (nx.getD c.toNat 0), y ∈ followed nx c :=
  followed_in (S := fun y => y ∈ followed nx c) (fun x hx => (followed_good nx c).2 x hx) (followed_closed hcl (.inr hc)) (followed_closed hcl (.inr hc) c (followed_self hcl hc))
theorem rank_of {nx : List Int} (hcl : closedC nx) (h : ∀ k, k < nx.length → endsB nx k = true) : Rank nx := by
  refine ⟨fun c => (followed nx c).length, fun c hc => ?_⟩
  by_cases h0 : nx.getD c.toNat 0 = -1
  · exact .inl h0
  refine .inr ?_
  have hn : c ∉ followed nx (nx.getD c.toNat 0) := fun hm => by
    have hk : c.toNat < nx.length := by unfold inC at hc; omega
    have e : ((c.toNat : Nat) : Int) = c := by unfold inC at hc; omega
    have hl : loopB nx c.toNat = true := by unfold loopB; rw [e]; simpa using hm
    have := loop_not_ends hcl hk hl
    rw [h _ hk] at this
    exact absurd this (by simp)
  have hs : c ∈ followed nx c := followed_self hcl hc
  have := nodup_sub_len (out := followed nx (nx.getD c.toNat 0)) (S := (followed nx c).erase c) (fun y hy => (List.mem_erase_of_ne (fun e : y = c => hn (e ▸ hy))).2 (followed_next hcl hc y hy)) (followed_good nx _).1
  rw [List.length_erase_of_mem hs] at this
  have := List.length_pos_of_mem hs
  change (followed nx (nx.getD c.toNat 0)).length < (followed nx c).length
  omega
theorem ends_of {nx : List Int} (hcl : closedC nx) (h : Rank nx) : ∀ k, k < nx.length → endsB nx k = true := by
  intro k hk
  cases he : endsB nx k
  · exfalso
    obtain ⟨c, hc, hl⟩ := not_ends_loop hcl hk he
    obtain ⟨r, hr⟩ := h
    have hc' : inC nx.length (c : Int) := ⟨by omega, by omega⟩
    unfold loopB at hl
    have hl := of_decide_eq_true hl
    have hn : nx.getD (c : Int).toNat 0 = nx.getD c 0 := by simp
    have h1 := hr c hc'
    rw [hn] at h1
    rcases h1 with h1 | h1
    · rw [h1, followed_neg] at hl; cases hl
    · have hd := closed_get hcl hc'
      rw [hn] at hd
      have hd : inC nx.length (nx.getD c 0) := hd.resolve_left fun e => by rw [e, followed_neg] at hl; cases hl
      have := followed_in (nx := nx) (S := fun y => inC nx.length y ∧ r y ≤ r (nx.getD c 0)) (fun x hx => hx.1) (fun x hx => by
        rcases hr x hx.1 with e | e
        · exact .inl e
        · rcases closed_get hcl hx.1 with e2 | e2
          · exact .inl e2
          · exact .inr ⟨e2, by have := hx.2; omega⟩) (c := nx.getD c 0) (.inr ⟨hd, Nat.le_refl _⟩) _ hl
      omega
  · rfl
theorem acyc_iff {h : Heap} (hcl : closedC h.next) : acycB h = true ↔ Rank h.next := by
  unfold acycB
  rw [List.all_eq_true]
  constructor
  · intro H; exact rank_of hcl fun k hk => H k (by simpa using hk)
  · intro H k hk; exact ends_of hcl H k (by simpa using hk)
theorem pos_two {xs : List Int} {n : Int} {i j : Nat} (hi : i < xs.length) (hj : j < xs.length) (h : i ≠ j) (e1 : xs.getD i 0 = n) (e2 : xs.getD j 0 = n) : 1 < (pos xs n).length := by
  have m1 : (i : Int) ∈ pos xs n := List.mem_map.2 ⟨i, List.mem_filter.2 ⟨by simpa using hi, by simpa using e1⟩, rfl⟩
  have m2 : (j : Int) ∈ pos xs n := List.mem_map.2 ⟨j, List.mem_filter.2 ⟨by simpa using hj, by simpa using e2⟩, rfl⟩
  generalize pos xs n = l at *
  match l, m1, m2 with
  | [], m1, _ => cases m1
  | [x], m1, m2 => simp at m1 m2; omega
  | _ :: _ :: _, _, _ => simp
theorem isHeap_parts {n : Int} {h : Heap} (hh : isHeapB n h = true) : cellsB h = true ∧ Rank h.next := by
  unfold isHeapB at hh
  simp only [Bool.and_eq_true, decide_eq_true_eq] at hh
  obtain ⟨⟨⟨⟨⟨⟨⟨-, -⟩, -⟩, -⟩, hc⟩, ha⟩, -⟩, -⟩ := hh
  exact ⟨hc, (acyc_iff (cells_closed hc)).1 ha⟩
end Go.Vm

namespace Go.Vm
open Go.Proofs
theorem trI_eq (b : Bool) : ((2 : Int) == trI b) = b := by cases b <;> rfl
theorem first_tri {n : Nat} {c : Int} (h : c = -1 ∨ inC n c) : firstT ((List.range n).map fun (i : Nat) => trI (decide (c = (i : Int)))) = c := by
  unfold firstT
  rw [findI_map]
  simp only [trI_eq]
  unfold findI
  rcases h with rfl | h
  · have : List.findIdx? (fun (i : Nat) => decide ((-1 : Int) = (i : Int))) (List.range n) = none := by
      rw [List.findIdx?_eq_none_iff]
      intro x _
      exact decide_eq_false (by omega)
    rw [this]
  · obtain ⟨k, rfl⟩ : ∃ k : Nat, c = k := ⟨c.toNat, by unfold inC at h; omega⟩
    have hk : k < n := by unfold inC at h; omega
    have : List.findIdx? (fun (i : Nat) => decide ((k : Int) = (i : Int))) (List.range n) = some k := by
      rw [List.findIdx?_eq_some_iff_getElem]
      refine ⟨by simpa using hk, by simp, fun j hj => ?_⟩
      simp
      omega
    rw [this]
theorem nextsT_take (nx : List Int) {m i : Nat} (h : i ≤ m) : (nextsT nx m).take (i * nx.length) = nextsT nx i := by
  induction m with
  | zero => have : i = 0 := by omega
            subst this; simp [nextsT]
  | succ m ih =>
    by_cases e : i = m + 1
    · subst e; exact List.take_of_length_le (by rw [nextsT_len]; exact Nat.le_refl _)
    · rw [nextsT_succ, List.take_append_of_le_length (by rw [nextsT_len]; exact Nat.mul_le_mul (by omega) (Nat.le_refl _))]
      exact ih (by omega)
theorem cut_nexts (nx : List Int) {m i : Nat} (h : i < m) : cutT (nextsT nx m) nx.length i = rowT nx i nx.length := by
  unfold cutT
  rw [nextsT_take nx h, nextsT_succ, List.drop_left' (nextsT_len nx i)]
theorem hvars_strc {vs nx : List Int} (hv : ∀ v ∈ vs, v = -1 ∨ inC nx.length v) : hvarsT (nodesT vs nx nx.length) vs.length = vs := by
  apply List.ext_getElem
  · simp [hvarsT]
  · intro k h1 h2
    have e : colT (nodesT vs nx nx.length) k = (List.range nx.length).map fun (i : Nat) => trI (decide (vs[k] = (i : Int))) := by
      simp only [colT, nodesT, List.map_map]
      refine List.map_congr_left fun i _ => ?_
      simp [nodeT, varT, h2]
    simp only [hvarsT, List.getElem_map, List.getElem_range]
    rw [e]
    exact first_tri (hv _ (List.getElem_mem h2))
theorem hnext_strc {nx : List Int} (hn : closedC nx) : hnextT (nextsT nx nx.length) nx.length nx.length = nx := by
  apply List.ext_getElem
  · simp [hnextT]
  · intro k h1 h2
    simp only [hnextT, List.getElem_map, List.getElem_range]
    rw [cut_nexts nx h2]
    have e : rowT nx k nx.length = (List.range nx.length).map fun (i : Nat) => trI (decide (nx[k] = (i : Int))) := by
      simp only [rowT]
      refine List.map_congr_left fun i _ => ?_
      simp [nextT, List.getD_eq_getElem?_getD, h2]
    rw [e]
    exact first_tri (hn _ (List.getElem_mem h2))
theorem trI_ne (b : Bool) : trI b ≠ 1 := by cases b <;> decide
theorem isDef_strc (vs nx : List Int) (n m : Nat) : isDef ⟨nodesT vs nx n, nextsT nx m⟩ = true := by
  unfold isDef
  have e1 : ¬ (1 : Int) ∈ nextsT nx m := by
    intro h
    obtain ⟨c, _, h⟩ := List.mem_flatMap.1 h
    obtain ⟨d, _, h⟩ := List.mem_map.1 h
    exact trI_ne _ h
  have e2 : (nodesT vs nx n).any halfN = false := by
    rw [List.any_eq_false]
    intro x hx
    obtain ⟨i, _, rfl⟩ := List.mem_map.1 hx
    have t1 : ¬ (1 : Int) ∈ vs.map (varT i) := fun h => by obtain ⟨v, _, h⟩ := List.mem_map.1 h; exact trI_ne _ h
    have t2 : ¬ (1 : Int) ∈ vs.map (reachT nx i) := fun h => by obtain ⟨v, _, h⟩ := List.mem_map.1 h; exact trI_ne _ h
    have t3 : sharT nx i ≠ 1 := trI_ne _
    have b1 : (sharT nx i == 1) = false := by simpa using t3
    show ¬ (sharT nx i == 1 || (0 : Int) == 1 || decide (1 ∈ vs.map (varT i)) || decide (1 ∈ vs.map (reachT nx i))) = true
    rw [b1, decide_eq_false t1, decide_eq_false t2]
    decide
  rw [e2]
  simp [e1]
theorem heap_fit {n : Int} {h : Heap} (hh : isHeapB n h = true) : fitS h = true := by
  obtain ⟨e1, e2, e3, e4, -, -⟩ := heap_bounds hh
  unfold fitS
  rw [(isHeap_parts hh).1]
  simp
  omega
theorem heapOf_strc {h : Heap} (hh : isHeapB h.vars.length h = true) : heapOfB h.vars.length (strcOf h) = true ∧ heapOfT h.vars.length (strcOf h) = h := by
  have hf := heap_fit hh
  obtain ⟨hcl, hv⟩ := canon_cells (isHeap_parts hh).1
  have e := strcOf_fit hf
  have hC : heapOfC h.vars.length (strcOf h) = h := by
    unfold heapOfC
    rw [e]
    simp only [nodesT_len, Int.toNat_natCast]
    rw [hvars_strc hv, hnext_strc hcl]
    exact (heap_canon hh).1
  have hB : heapOfB h.vars.length (strcOf h) = true := by
    unfold heapOfB
    rw [hC, hh, strcOf_structB hf, e]
    simp [isDef_strc, nodesT_len]
  exact ⟨hB, by unfold heapOfT; rw [if_pos hB, hC]⟩
end Go.Vm

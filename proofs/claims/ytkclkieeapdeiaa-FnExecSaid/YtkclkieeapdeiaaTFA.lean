/- Heaps: following ends everywhere just where no cell is met from itself. No condition. -/
import Derived.Test.YtkclkieeapdeiaaTHP
set_option linter.unusedSimpArgs false
set_option linter.unusedVariables false
namespace Go.Vm
open Go.Proofs
/-- Steps along Next. -/
def it (nx : List Int) : Nat → Int → Int
  | 0, c => c
  | i + 1, c => nx.getD (it nx i c).toNat 0
theorem it_add (nx : List Int) (m : Nat) : ∀ (i : Nat) (c : Int), it nx (m + i) c = it nx i (it nx m c)
  | 0, c => rfl
  | i + 1, c => by rw [← Nat.add_assoc, it, it_add nx m i c, it]
def inC (n : Nat) (c : Int) : Prop := 0 ≤ c ∧ c < n
def closedC (nx : List Int) : Prop := ∀ x ∈ nx, x = -1 ∨ inC nx.length x
theorem closed_get {nx : List Int} (h : closedC nx) {c : Int} (hc : inC nx.length c) : nx.getD c.toNat 0 = -1 ∨ inC nx.length (nx.getD c.toNat 0) := by
  have h1 : c.toNat < nx.length := by unfold inC at hc; omega
  have := h _ (List.getElem_mem h1)
  simpa [List.getD_eq_getElem?_getD, h1] using this
/-- The orbit of a cell. -/
def orb (nx : List Int) (c : Int) (n : Nat) : List Int := (List.range n).map fun i => it nx i c
theorem orb_succ (nx : List Int) (c : Int) (n : Nat) : orb nx c (n + 1) = orb nx c n ++ [it nx n c] := by
  simp [orb, List.range_succ]
theorem orb_mem {nx : List Int} {c x : Int} {n : Nat} : x ∈ orb nx c n ↔ ∃ i, i < n ∧ it nx i c = x := by
  simp [orb]
theorem follow_orb {nx : List Int} (hcl : closedC nx) {c0 : Int} (h0 : c0 = -1 ∨ inC nx.length c0) : ∀ (f n : Nat), goodC nx.length (orb nx c0 n) → (it nx n c0 = -1 ∨ inC nx.length (it nx n c0)) → n + f = nx.length + 1 →
    ∃ m, follow nx f (orb nx c0 n) (it nx n c0) = orb nx c0 m ∧ goodC nx.length (orb nx c0 m) ∧ (it nx m c0 = -1 ∨ it nx m c0 ∈ orb nx c0 m)
  | 0, n, hg, hc, hf => by
    have := goodC_len hg
    simp [orb] at this
    omega
  | f + 1, n, hg, hc, hf => by
    by_cases hs : it nx n c0 = -1 ∨ it nx n c0 ∈ orb nx c0 n
    · exact ⟨n, follow_stop hs, hg, hs⟩
    · have h1 : it nx n c0 ≠ -1 := fun e => hs (.inl e)
      have h2 : it nx n c0 ∉ orb nx c0 n := fun e => hs (.inr e)
      have hin : inC nx.length (it nx n c0) := hc.resolve_left h1
      obtain ⟨m, r1, r2, r3⟩ := follow_orb hcl h0 f (n + 1) (by rw [orb_succ]; exact goodC_add hg h2 hin.1 hin.2) (closed_get hcl hin) (by omega)
      refine ⟨m, ?_, r2, r3⟩
      rw [follow_step hs hin, ← orb_succ]
      exact r1
theorem followed_orb {nx : List Int} (hcl : closedC nx) {c0 : Int} (h0 : c0 = -1 ∨ inC nx.length c0) : ∃ m, followed nx c0 = orb nx c0 m ∧ goodC nx.length (orb nx c0 m) ∧ (it nx m c0 = -1 ∨ it nx m c0 ∈ orb nx c0 m) := by
  have := follow_orb hcl h0 (nx.length + 1) 0 (by simpa [orb] using goodC_nil nx.length) (by simpa [it] using h0) (by omega)
  simpa [followed, orb, it] using this
theorem orb_inj {nx : List Int} {c : Int} {n i j : Nat} (hg : goodC nx.length (orb nx c n)) (hi : i < n) (hj : j < n) (e : it nx i c = it nx j c) : i = j := by
  have := hg.1
  unfold orb at this
  have hp := List.pairwise_iff_getElem.1 this
  rcases Nat.lt_trichotomy i j with h | h | h
  · exact (hp i j (by simpa using hi) (by simpa using hj) h (by simp [e])).elim
  · exact h
  · exact (hp j i (by simpa using hj) (by simpa using hi) h (by simp [e])).elim
/-- Does following end at -1? -/
def endsB (nx : List Int) (k : Nat) : Bool := match (followed nx k).getLast? with | some l => decide (nx.getD l.toNat 0 = -1) | none => false
def loopB (nx : List Int) (c : Nat) : Bool := decide ((c : Int) ∈ followed nx (nx.getD c 0))
theorem ends_iff {nx : List Int} (hcl : closedC nx) {k : Nat} (hk : k < nx.length) {m : Nat} (hf : followed nx k = orb nx k m) (h : it nx m k = -1 ∨ it nx m k ∈ orb nx k m) : endsB nx k = decide (it nx m k = -1) := by
  have hm : m ≠ 0 := by
    rintro rfl
    simp [it, orb] at h
    try omega
  obtain ⟨q, rfl⟩ : ∃ q, m = q + 1 := ⟨m - 1, by omega⟩
  unfold endsB
  rw [hf, orb_succ]
  simp [it]
theorem not_ends_loop {nx : List Int} (hcl : closedC nx) {k : Nat} (hk : k < nx.length) (h : endsB nx k = false) : ∃ c, c < nx.length ∧ loopB nx c = true := by
  have hk' : inC nx.length (k : Int) := ⟨by omega, by omega⟩
  obtain ⟨m, hf, hg, hs⟩ := followed_orb hcl (.inr hk')
  rw [ends_iff hcl hk hf hs] at h
  have hne : it nx m k ≠ -1 := by simpa using h
  obtain ⟨j, hj, hjm⟩ := orb_mem.1 (hs.resolve_left hne)
  -- the cell
  have hin : ∀ i, i < m → inC nx.length (it nx i k) := fun i hi => hg.2 _ (orb_mem.2 ⟨i, hi, rfl⟩)
  have hc := hin j hj
  refine ⟨(it nx j k).toNat, by have := hc.1; have := hc.2; omega, ?_⟩
  have hcn : (((it nx j k).toNat : Nat) : Int) = it nx j k := by have := hc.1; omega
  unfold loopB
  rw [hcn]
  have hstep : nx.getD (it nx j k).toNat 0 = it nx (j + 1) k := rfl
  rw [hstep]
  have hs1 : it nx (j + 1) k = -1 ∨ inC nx.length (it nx (j + 1) k) := closed_get hcl hc
  obtain ⟨m', hf', hg', hs'⟩ := followed_orb hcl hs1
  rw [hf']
  simp only [decide_eq_true_eq]
  -- the orbit of the next cell, told by the first one's
  have sh : ∀ i, it nx i (it nx (j + 1) k) = it nx (j + 1 + i) k := fun i => (it_add nx (j + 1) i k).symm
  rw [orb_mem]
  by_cases hlt : m - (j + 1) < m'
  · exact ⟨m - (j + 1), hlt, by rw [sh, show j + 1 + (m - (j + 1)) = m by omega]; exact hjm.symm⟩
  · exfalso
    have hm' : m' ≤ m - (j + 1) := by omega
    rw [sh] at hs'
    rcases hs' with e | e
    · by_cases e2 : j + 1 + m' = m
      · rw [e2] at e; exact hne e
      · have := (hin (j + 1 + m') (by omega)).1
        omega
    · obtain ⟨i, hi, he⟩ := orb_mem.1 e
      rw [sh] at he
      by_cases e2 : j + 1 + m' = m
      · rw [e2, ← hjm] at he
        have := orb_inj hg (i := j + 1 + i) (j := j) (by omega) hj he
        omega
      · have := orb_inj hg (i := j + 1 + i) (j := j + 1 + m') (by omega) (by omega) he
        omega
theorem loop_not_ends {nx : List Int} (hcl : closedC nx) {c : Nat} (hc : c < nx.length) (h : loopB nx c = true) : endsB nx c = false := by
  have hc' : inC nx.length (c : Int) := ⟨by omega, by omega⟩
  obtain ⟨m, hf, hg, hs⟩ := followed_orb hcl (.inr hc')
  rw [ends_iff hcl hc hf hs]
  simp only [decide_eq_false_iff_not]
  intro e
  unfold loopB at h
  have hst : nx.getD c 0 = it nx 1 c := by simp [it]
  rw [hst] at h
  have hs1 : it nx 1 c = -1 ∨ inC nx.length (it nx 1 c) := closed_get hcl hc'
  obtain ⟨m', hf', hg', hs'⟩ := followed_orb hcl hs1
  rw [hf'] at h
  simp only [decide_eq_true_eq] at h
  obtain ⟨i, hi, he⟩ := orb_mem.1 h
  rw [← it_add] at he
  have hin : ∀ q, q ≤ i → inC nx.length (it nx (1 + q) c) := fun q hq => by
    have := hg'.2 (it nx q (it nx 1 c)) (orb_mem.2 ⟨q, by omega, rfl⟩)
    rwa [← it_add] at this
  -- all its steps are cells
  have all : ∀ n, inC nx.length (it nx n c) := by
    intro n
    induction n using Nat.strongRecOn with
    | ind n ih =>
      rcases Nat.lt_or_ge n (1 + i) with hn | hn
      · cases n with
        | zero => exact hc'
        | succ q => rw [Nat.add_comm]; exact hin q (by omega)
      · have := ih (n - (1 + i)) (by omega)
        rw [show n = (1 + i) + (n - (1 + i)) by omega, it_add, he]
        exact this
  have := (all m).1
  omega
theorem acyclic_eq {nx : List Int} (hcl : closedC nx) : ((List.range nx.length).all fun k => endsB nx k) = !((List.range nx.length).any fun c => loopB nx c) := by
  rw [Bool.eq_iff_iff]
  simp only [List.all_eq_true, List.mem_range, Bool.not_eq_true', List.any_eq_false]
  constructor
  · intro h c hc hl
    have := loop_not_ends hcl hc hl
    rw [h c hc] at this
    cases this
  · intro h k hk
    cases he : endsB nx k with
    | true => rfl
    | false =>
      obtain ⟨c, hc, hl⟩ := not_ends_loop hcl hk he
      exact absurd hl (h c hc)
end Go.Vm

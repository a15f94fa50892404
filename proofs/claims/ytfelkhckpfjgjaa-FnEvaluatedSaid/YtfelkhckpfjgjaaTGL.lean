/- spec.l12Copy in blocks of its own. No condition. -/
import Derived.Test.YtfelkhckpfjgjaaTGK
set_option linter.unusedSimpArgs false
set_option linter.unusedVariables false
namespace Go.Vm
open Go.Proofs
end Go.Vm
namespace Go.Vm
open Go.Proofs
theorem bent12_sz (c : Cur) : szStrc (bent12 c).2 ≤ 1048576 ∧ (bent12 c).2.nodes.length ≤ 10 := by
  obtain ⟨h, -⟩ := d12_sh c
  have hsum : ∀ l : List Node, (∀ x ∈ l, szNode x ≤ 6) → (l.map szNode).sum ≤ l.length * 6 := by
    intro l
    induction l with
    | nil => intro _; simp
    | cons x xs ih =>
      intro hl
      have := ih fun y hy => hl y (by simp [hy])
      have := hl x (by simp)
      simp only [List.map_cons, List.sum_cons, List.length_cons]
      omega
  have h6 : ∀ x ∈ (d12 c).2.nodes, szNode x ≤ 6 := fun x hx => by
    obtain ⟨a, b⟩ := h.r x hx
    have : szNode x = x.vars.length + x.reach.length := rfl
    omega
  have h25 := (sh12_sz h).2
  have h5 := h.n
  have fin : ∀ s : Strc, s.nodes.length ≤ 5 → s.next.length ≤ 26 → (∀ x ∈ s.nodes, szNode x ≤ 6) → szStrc s ≤ 1048576 ∧ s.nodes.length ≤ 10 := fun s a b d => by
    have e1 := hsum _ d
    have e2 : szStrc s = szNodes s.nodes + s.next.length := rfl
    have e3 : szNodes s.nodes = s.nodes.length + (s.nodes.map szNode).sum := rfl
    omega
  have hset : ∀ (f : Node → Node), (∀ y, szNode (f y) ≤ szNode y) → szStrc (setN (d12 c).2 0 f) ≤ 1048576 ∧ (setN (d12 c).2 0 f).nodes.length ≤ 10 := fun f hf => by
    obtain ⟨e1, e2⟩ := setN_len (d12 c).2 0 f
    refine fin _ (by omega) (by rw [e2]; omega) fun x hx => ?_
    unfold setN at hx
    split at hx
    · rcases List.mem_or_eq_of_mem_set hx with hx | hx
      · exact h6 x hx
      · subst hx
        exact Nat.le_trans (hf _) (h6 _ (List.getElem_mem _))
    · exact h6 x hx
  unfold bent12
  split
  · exact fin _ h5 (by simp; omega) h6
  split
  · exact fin (d12 c).2 h5 (by omega) h6
  split
  · exact hset _ fun y => Nat.le_refl _
  split
  · exact hset _ fun y => by simp [szNode]
  split
  · exact hset _ fun y => by simp [szNode]
  · exact fin (d12 c).2 h5 (by omega) h6
end Go.Vm

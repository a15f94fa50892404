/- Statements of both. No condition. -/
import Derived.Test.YtfelkhckpfjgjaaGreatTST
import Derived.Test.YtfelkhckpfjgjaaGreatTSQ
import Derived.Test.YtfelkhckpfjgjaaGreatTCI
set_option linter.unusedSimpArgs false
set_option linter.unusedVariables false
namespace Go.Vm
open Go.Proofs
end Go.Vm
namespace Go.Vm
open Go.Proofs
theorem heap_bounds {n : Int} {h : Heap} (hh : isHeapB n h = true) : (h.vars.length : Int) = n ∧ n ≤ 4 ∧ 1 ≤ n ∧ h.next.length ≤ 6 ∧ (∀ y ∈ h.vars, -1 ≤ y ∧ y < h.next.length) ∧ (∀ y ∈ h.next, -1 ≤ y ∧ y < h.next.length) := by
  unfold isHeapB at hh
  simp only [Bool.and_eq_true, decide_eq_true_eq] at hh
  obtain ⟨⟨⟨⟨⟨⟨⟨h1, h2⟩, h3⟩, h4⟩, hc⟩, -⟩, -⟩, -⟩ := hh
  unfold cellsB at hc
  rw [List.all_eq_true] at hc
  refine ⟨h3, h2, h1, h4, fun y hy => ?_, fun y hy => ?_⟩
  · have := hc y (by simp [hy]); simp at this; omega
  · have := hc y (by simp [hy]); simp at this; omega
end Go.Vm

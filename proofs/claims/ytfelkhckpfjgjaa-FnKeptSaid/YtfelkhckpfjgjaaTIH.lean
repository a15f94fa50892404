/- Heaps: following ends everywhere just where no cell is met from itself. No condition. -/
import Derived.Test.YtfelkhckpfjgjaaTHP
import Derived.Test.YtfelkhckpfjgjaaTMK
import Derived.Test.YtfelkhckpfjgjaaTEM
set_option linter.unusedSimpArgs false
set_option linter.unusedVariables false
namespace Go.Vm
open Go.Proofs
def inC (n : Nat) (c : Int) : Prop := 0 ≤ c ∧ c < n
def closedC (nx : List Int) : Prop := ∀ x ∈ nx, x = -1 ∨ inC nx.length x
theorem closed_get {nx : List Int} (h : closedC nx) {c : Int} (hc : inC nx.length c) : nx.getD c.toNat 0 = -1 ∨ inC nx.length (nx.getD c.toNat 0) := by
  have h1 : c.toNat < nx.length := by unfold inC at hc; omega
  have := h _ (List.getElem_mem h1)
  simpa [List.getD_eq_getElem?_getD, h1] using this
end Go.Vm
namespace Go.Vm
open Go.Proofs
theorem cells_closed {h : Heap} (hc : cellsB h = true) : closedC h.next := by
  intro x hx
  unfold cellsB at hc
  have := List.all_eq_true.1 hc x (by simp [hx])
  simp at this
  unfold inC
  omega
end Go.Vm

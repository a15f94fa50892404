/- Formulas: comparing, counting up and copying. No condition. -/
import Derived.Test.YtfelkhckpfjgjaaTG
import Derived.Test.YtfelkhckpfjgjaaTSL
set_option linter.unusedSimpArgs false
set_option linter.unusedVariables false
namespace Go.Vm
open Go.Proofs
mutual
def Fm.size : Fm → Nat | .mk _ _ _ _ l => 1 + sizes l
def sizes : List Fm → Nat | [] => 0 | x :: xs => x.size + sizes xs
end
theorem size_eq (x : Fm) : x.size = 1 + sizes x.args := by cases x; simp [Fm.size]
theorem size_mem : ∀ {xs : List Fm} {i : Nat} (h : i < xs.length), xs[i].size ≤ sizes xs
  | x :: xs, 0, _ => by simp [sizes]
  | x :: xs, i + 1, h => by
    have := size_mem (xs := xs) (i := i) (by simpa using h)
    simp [sizes]; omega
theorem sizes_len : ∀ xs : List Fm, xs.length ≤ sizes xs
  | [] => by simp [sizes]
  | x :: xs => by have := sizes_len xs; have := size_eq x; simp [sizes]; omega
noncomputable instance : DecidableEq Fm := fun _ _ => Classical.propDecidable _
end Go.Vm
namespace Go.Vm
open Go.Proofs
end Go.Vm

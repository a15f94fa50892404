/- What the laws' further size, copy and comparison functions answer. No condition. -/
import Derived.Test.YtkclkieeapdeiaaDoorTG
set_option linter.unusedSimpArgs false
set_option linter.unusedVariables false
namespace Go.Vm
open Go.Proofs
@[simp] theorem belowE_encL {α : Type} (d k : Nat) (f : α → AV) (xs : List α) : belowE d (encL k f xs) = true := by simp [encL, mksl, belowE, belowC, belowR]
@[simp] theorem withCells_encL {α : Type} (k : Nat) (f : α → AV) (xs : List α) (c : AV) : (encL k f xs).withCells [c] = c := by simp [encL, mksl]
def szStrcs (l : List Strc) : Nat := l.length + (l.map szStrc).sum
def szStrcss (l : List (List Strc)) : Nat := l.length + (l.map szStrcs).sum
def szAnal (x : Anal) : Nat := szStrcss x.sets + x.alarms.length
end Go.Vm

/- Truth values and their texts. No condition. -/
import Derived.Test.YtkclkieeapdeiaaTPB
set_option linter.unusedSimpArgs false
set_option linter.unusedVariables false
namespace Go.Vm
open Go.Proofs
def isTruth (a : Int) : Bool := decide (0 ≤ a) && decide (a ≤ 2)
def truthText (a : Int) : List UInt8 := if a = 0 then [48] else if a = 1 then [63] else if a = 2 then [49] else []
theorem truthText_len (a : Int) : (truthText a).length ≤ 1 := by unfold truthText; (repeat' split) <;> simp
end Go.Vm

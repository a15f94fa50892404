/- What the laws' copies and comparisons answer. No condition. -/
import Derived.Test.YtkclkieeapdeiaaDoorTS
set_option linter.unusedSimpArgs false
set_option linter.unusedVariables false
namespace Go.Vm
open Go.Proofs
end Go.Vm

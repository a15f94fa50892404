/- What the laws' size functions answer. No condition. -/
import Derived.Test.YtkclkieeapdeiaaDoorTD
set_option linter.unusedSimpArgs false
set_option linter.unusedVariables false
namespace Go.Vm
open Go.Proofs
end Go.Vm

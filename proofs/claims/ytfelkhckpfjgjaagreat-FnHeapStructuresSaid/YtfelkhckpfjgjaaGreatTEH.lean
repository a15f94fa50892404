/- Formulas evaluated by the program. No condition. -/
import Derived.Test.YtfelkhckpfjgjaaGreatTJB
set_option linter.unusedSimpArgs false
set_option linter.unusedVariables false
namespace Go.Vm
open Go.Proofs
/-! ### copies -/
end Go.Vm

namespace Go.Vm
open Go.Proofs
end Go.Vm

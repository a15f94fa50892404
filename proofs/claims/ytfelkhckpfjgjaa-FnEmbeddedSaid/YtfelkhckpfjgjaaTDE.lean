/- Searching the nodes by a test. No condition. -/
import Derived.Test.YtfelkhckpfjgjaaTG
import Derived.Test.YtfelkhckpfjgjaaTSL
set_option linter.unusedSimpArgs false
set_option linter.unusedVariables false
namespace Go.Vm
open Go.Proofs
end Go.Vm
namespace Go.Vm
open Go.Proofs
end Go.Vm

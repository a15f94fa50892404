/- spec.l12Copy in blocks of its own. No condition. -/
import Derived.Test.YtfelkhckpfjgjaaTGK
set_option linter.unusedSimpArgs false
set_option linter.unusedVariables false
namespace Go.Vm
open Go.Proofs
end Go.Vm
namespace Go.Vm
open Go.Proofs
end Go.Vm

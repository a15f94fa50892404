/- The beginning of an embedding, the program's test. No condition. -/
import Derived.Test.YtfelkhckpfjgjaaTEN
set_option linter.unusedSimpArgs false
set_option linter.unusedVariables false
namespace Go.Vm
open Go.Proofs
end Go.Vm
namespace Go.Vm
open Go.Proofs
end Go.Vm

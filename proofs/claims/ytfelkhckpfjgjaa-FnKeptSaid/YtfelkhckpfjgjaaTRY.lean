/- Formulas evaluated by the program. No condition. -/
import Derived.Test.YtfelkhckpfjgjaaTEF
import Derived.Test.YtfelkhckpfjgjaaTEI
set_option linter.unusedSimpArgs false
set_option linter.unusedVariables false
namespace Go.Vm
open Go.Proofs
end Go.Vm
namespace Go.Vm
open Go.Proofs
section
variable {eb eq m : Nat} {s : Strc} {seen : List Bool} {els : List Int}
end
end Go.Vm

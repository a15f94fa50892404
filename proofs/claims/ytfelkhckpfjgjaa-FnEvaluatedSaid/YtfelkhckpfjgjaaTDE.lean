/- Searching the nodes by a test. No condition. -/
import Derived.Test.YtfelkhckpfjgjaaTG
import Derived.Test.YtfelkhckpfjgjaaTSL
set_option linter.unusedSimpArgs false
set_option linter.unusedVariables false
namespace Go.Vm
open Go.Proofs
end Go.Vm
namespace Go.Vm
open Go.Proofs
def halfN (x : Node) : Bool := x.shared == 1 || x.many == 1 || decide (1 ∈ x.vars) || decide (1 ∈ x.reach)
def isDef (x : Strc) : Bool := !decide (1 ∈ x.next) && !x.nodes.any halfN
end Go.Vm

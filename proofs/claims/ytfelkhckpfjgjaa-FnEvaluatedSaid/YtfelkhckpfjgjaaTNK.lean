/- Nodes marked where they stand. No condition. -/
import Derived.Test.YtfelkhckpfjgjaaTNI
set_option linter.unusedSimpArgs false
set_option linter.unusedVariables false
namespace Go.Vm
open Go.Proofs
def aggN (p q : Nat → Nat) (i : Nat) (y : Node) : AV := .agg [.slref (p i) 0 y.vars.length y.vars.length, .slref (q i) 0 y.reach.length y.reach.length, .int .i64 y.shared, .int .i64 y.many]
end Go.Vm
namespace Go.Vm
open Go.Proofs
end Go.Vm

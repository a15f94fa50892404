/- The reference's draws of heaps. No condition. -/
import Derived.Test.YtfelkhckpfjgjaaTRG
import Derived.Test.YtfelkhckpfjgjaaTKC
import Derived.Test.YtfelkhckpfjgjaaTGJ
import Derived.Test.YtfelkhckpfjgjaaVme
set_option linter.unusedSimpArgs false
set_option linter.unusedVariables false
namespace Go.Vm
open Go.Proofs
@[simp] theorem isVoid_cur {c : Cur} : isVoid (some c.cells) = false := (rfl)
end Go.Vm
namespace Go.Vm
open Go.Proofs
end Go.Vm

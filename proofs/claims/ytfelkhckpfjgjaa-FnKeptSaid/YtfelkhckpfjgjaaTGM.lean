/- The reference's draws of structures. No condition. -/
import Derived.Test.YtfelkhckpfjgjaaTRH
import Derived.Test.YtfelkhckpfjgjaaVme
set_option linter.unusedSimpArgs false
set_option linter.unusedVariables false
namespace Go.Vm
open Go.Proofs
theorem bent12_buf (c : Cur) : (bent12 c).1.buf = c.buf := by
  have h := (d12_sh c).2
  unfold bent12
  (repeat' split) <;> exact h
end Go.Vm
namespace Go.Vm
open Go.Proofs
end Go.Vm

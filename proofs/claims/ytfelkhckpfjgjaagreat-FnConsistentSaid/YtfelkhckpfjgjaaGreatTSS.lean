/- (impl.Heap).without on two rows of the caller's. No condition. -/
import Derived.Test.YtfelkhckpfjgjaaGreatTDL
import Derived.Test.YtfelkhckpfjgjaaGreatTG
set_option linter.unusedSimpArgs false
set_option linter.unusedVariables false
namespace Go.Vm
open Go.Proofs
structure Wo where
  x : Blk × Blk × Blk × Blk × Blk × Blk
  vs : List Int
  nx : List Int
  c : Nat
end Go.Vm
namespace Go.Vm
open Go.Proofs
end Go.Vm

/- What searching and comparing slices of numbers answers. No condition. -/
import Derived.Test.YtmakeoekklcbdaaDoorTG
set_option linter.unusedSimpArgs false
set_option linter.unusedVariables false
namespace Go.Vm
open Go.Proofs
end Go.Vm

/- (impl.Heap).performed. No condition. -/
import Derived.Test.YtfelkhckpfjgjaaGreatTSS
import Derived.Test.YtfelkhckpfjgjaaGreatTSL
import Derived.Test.YtfelkhckpfjgjaaGreatTTR
set_option linter.unusedSimpArgs false
set_option linter.unusedVariables false
namespace Go.Vm
open Go.Proofs
structure Pf where
  h : Heap
  s : Stmt
  o : Int
  a : Int
  b : Int
structure Pf.Pre (x : Pf) : Prop where
  lv : x.h.vars.length ≤ 4
  ln : x.h.next.length ≤ 6
  bv : ∀ y ∈ x.h.vars, -1 ≤ y ∧ y ≤ 1000
  bn : ∀ y ∈ x.h.next, -1 ≤ y ∧ y ≤ 1000
  own : x.s.kind = 2 ∨ x.s.kind = 3 ∨ x.s.kind = 4 ∨ x.s.kind = 5 ∨ x.s.kind = 8 → 0 ≤ x.o ∧ x.o < x.h.vars.length
  ca : x.s.kind = 6 ∨ x.s.kind = 7 ∨ x.s.kind = 8 → 0 ≤ x.a ∧ x.a < x.h.next.length
  cb : x.s.kind = 5 → 0 ≤ x.b ∧ x.b < x.h.next.length
end Go.Vm
namespace Go.Vm
open Go.Proofs
end Go.Vm

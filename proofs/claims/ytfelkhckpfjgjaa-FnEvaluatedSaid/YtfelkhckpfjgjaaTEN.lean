/- IsEmbedding. No condition. -/
import Derived.Test.YtfelkhckpfjgjaaTTR
import Derived.Test.YtfelkhckpfjgjaaTSO
set_option linter.unusedSimpArgs false
set_option linter.unusedVariables false
namespace Go.Vm
open Go.Proofs
def withinB (a b : Int) : Bool := isTruth a && isTruth b && (decide (b = 1) || decide (a = b))
def listsB (xs ys : List Int) : Bool := decide (xs.length = ys.length) && (List.range xs.length).all fun j => withinB (xs.getD j 0) (ys.getD j 0)
def nodeB (x y : Node) : Bool := listsB x.vars y.vars && listsB x.reach y.reach && withinB x.shared y.shared && withinB x.many y.many
def pairB (s t : Strc) (to : List Int) (i k : Nat) : Bool :=
  withinB (nextOf s i k) (nextOf t (to.getD i 0) (to.getD k 0)) && withinB (nextOf s k i) (nextOf t (to.getD k 0) (to.getD i 0)) && !(decide (k < i) && decide (to.getD k 0 = to.getD i 0) && !decide ((t.nodes.getD (to.getD i 0).toNat default).many = 1))
def fitsB (s t : Strc) (to : List Int) (i : Nat) : Bool := nodeB (s.nodes.getD i default) (t.nodes.getD (to.getD i 0).toNat default) && (List.range (i + 1)).all fun k => pairB s t to i k
end Go.Vm
namespace Go.Vm
open Go.Proofs
end Go.Vm

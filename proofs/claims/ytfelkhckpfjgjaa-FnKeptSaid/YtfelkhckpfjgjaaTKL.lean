/- StructureOf: the law. No condition. -/
import Derived.Test.YtfelkhckpfjgjaaTSV
import Derived.Test.YtfelkhckpfjgjaaTSS
import Derived.Test.YtfelkhckpfjgjaaTFF
import Derived.Test.YtfelkhckpfjgjaaTKE
set_option linter.unusedSimpArgs false
set_option linter.unusedVariables false
namespace Go.Vm
open Go.Proofs
end Go.Vm
namespace Go.Vm
open Go.Proofs
def emB (s t : Strc) : Bool := (embed s t).isSome
def emL (s t : Strc) : List Int := (embed s t).getD []
@[simp] def ct_pFindK : Ct := ⟨9, Strc × Strc, fun x => szStrc x.1 ≤ 1048576 ∧ szStrc x.2 ≤ 1048576, fun x => [encStrc x.1, encStrc x.2], fun x => .tup [encL 1 encInt (emL x.1 x.2), .bool (emB x.1 x.2)]⟩
theorem ok_pFindK : ct_pFindK.Ok Try.prog := ok_pFindEmbP
@[simp] def ct_sFindK : Ct := ⟨10, Strc × Strc, fun x => szStrc x.1 ≤ 1048576 ∧ szStrc x.2 ≤ 1048576, fun x => [encStrc x.1, encStrc x.2], fun x => .tup [encL 1 encInt (emL x.1 x.2), .bool (emB x.1 x.2)]⟩
theorem ok_sFindK : ct_sFindK.Ok Try.prog := ok_sFindEmb
theorem some_get {α : Type} {o : Option (List α)} (h : o.isSome = true) : o = some (o.getD []) := by
  cases o with
  | none => cases h
  | some x => rfl
end Go.Vm

/-
  NARROWER THAN 'FOR EVERY INPUT', by the rows' own cells (each row's printed sentence says how): FnExactHeapHolds: loops.
  DERIVED. THE GIVEN ROWS OF THIS SEAT. 9 by the template 'for every input the law returns true; each argument reads behind the call as it read before'; 0 by the template 'total and deterministic' (their statements: YtmakeoekklcbdaaTotals.lean).
  GIVEN WITH THE SEED: the statements are not yours to turn. If you find one false, say at which input.
  Laid BY PROGRAM, IN A SANDBOX (cutbox-rows.mjs): the forced cells as the released guide's own fill.sh prints them over the translation 3434b700844fb2c3… (all of the seat's roots in one cut). By AI agents, Wed Nov 11 2026. No macro, syntax, notation, axiom, sorry.
-/
import Derived.Test.YtmakeoekklcbdaaChecked
import GoSem.Claim
import GoSem.ClaimJoined
import GoSem.ClaimMapViews
import Derived.JoinedTies
import Derived.KernelRfl
namespace Go.Proofs.Ytmakeoekklcbdaa
/- THE CELL 'sum', in the pinned program and in every row, IS THE sha256 OF THE DUMP (.gsa) THAT YtmakeoekklcbdaaProg.lean LOADS. Nothing in Lean hashes anything: it is a label: what it is worth is what the hold of that sum in a sandbox is worth. -/
noncomputable def Try.pinned : Pinned := { name := "ytmakeoekklcbdaa", sum := "3434b700844fb2c37cca2d234feb6169ef42d283b7685f92dbc007ecc120049b", checked := Try.checked }
namespace Rows
def none {H : Type} : Left H := { results := [], args := [] }

/-- 'laws.FnExactHeapOf': WHATEVER THE INPUT: true; the input reads as it did. -/
def fnExactHeapOfSpec : ChangeSpec := { name := "fnExactHeapOf", fn := fun _ => fun
  | [d1, d2] => { results := [.lit (.bool true)], args := [d1, d2] }
  | _ => none }
def fnExactHeapOfRow : OpenClaim := { program := "ytmakeoekklcbdaa", sum := "3434b700844fb2c37cca2d234feb6169ef42d283b7685f92dbc007ecc120049b", func := "loop.example/g00590/laws.FnExactHeapOf", spec := "fnExactHeapOf", unfollowed := true, recurses := true, apart := false }
def FnExactHeapOfSaid : Prop := fnExactHeapOfRow.holds Try.pinned (OpenSpec.ofChange fnExactHeapOfSpec)

/-- ITS FALSE NEIGHBOUR: 'it returns false'. Refute it at one input. -/
def fnExactHeapOfWrong : ChangeSpec := { name := "fnExactHeapOf", fn := fun _ => fun
  | [d1, d2] => { results := [.lit (.bool false)], args := [d1, d2] }
  | _ => none }
def FnExactHeapOfWrongFalsely : Prop := fnExactHeapOfRow.holds Try.pinned (OpenSpec.ofChange fnExactHeapOfWrong)

/-- 'laws.FnExactStructureOf': WHATEVER THE INPUT: true; the input reads as it did. -/
def fnExactStructureOfSpec : ChangeSpec := { name := "fnExactStructureOf", fn := fun _ => fun
  | [d] => { results := [.lit (.bool true)], args := [d] }
  | _ => none }
def fnExactStructureOfRow : OpenClaim := { program := "ytmakeoekklcbdaa", sum := "3434b700844fb2c37cca2d234feb6169ef42d283b7685f92dbc007ecc120049b", func := "loop.example/g00590/laws.FnExactStructureOf", spec := "fnExactStructureOf", unfollowed := true, recurses := true, apart := false }
def FnExactStructureOfSaid : Prop := fnExactStructureOfRow.holds Try.pinned (OpenSpec.ofChange fnExactStructureOfSpec)

/-- ITS FALSE NEIGHBOUR: 'it returns false'. Refute it at one input. -/
def fnExactStructureOfWrong : ChangeSpec := { name := "fnExactStructureOf", fn := fun _ => fun
  | [d] => { results := [.lit (.bool false)], args := [d] }
  | _ => none }
def FnExactStructureOfWrongFalsely : Prop := fnExactStructureOfRow.holds Try.pinned (OpenSpec.ofChange fnExactStructureOfWrong)

/-- 'laws.FnExactListHeaps': WHATEVER THE INPUT: true; the input reads as it did. -/
def fnExactListHeapsSpec : ChangeSpec := { name := "fnExactListHeaps", fn := fun _ => fun
  | [d1, d2] => { results := [.lit (.bool true)], args := [d1, d2] }
  | _ => none }
def fnExactListHeapsRow : OpenClaim := { program := "ytmakeoekklcbdaa", sum := "3434b700844fb2c37cca2d234feb6169ef42d283b7685f92dbc007ecc120049b", func := "loop.example/g00590/laws.FnExactListHeaps", spec := "fnExactListHeaps", apart := false }
def FnExactListHeapsSaid : Prop := fnExactListHeapsRow.holds Try.pinned (OpenSpec.ofChange fnExactListHeapsSpec)

/-- ITS FALSE NEIGHBOUR: 'it returns false'. Refute it at one input. -/
def fnExactListHeapsWrong : ChangeSpec := { name := "fnExactListHeaps", fn := fun _ => fun
  | [d1, d2] => { results := [.lit (.bool false)], args := [d1, d2] }
  | _ => none }
def FnExactListHeapsWrongFalsely : Prop := fnExactListHeapsRow.holds Try.pinned (OpenSpec.ofChange fnExactListHeapsWrong)

/-- 'laws.FnExactEdgeFormula': WHATEVER THE INPUT: true; the input reads as it did. -/
def fnExactEdgeFormulaSpec : ChangeSpec := { name := "fnExactEdgeFormula", fn := fun _ => fun
  | [d1, d2] => { results := [.lit (.bool true)], args := [d1, d2] }
  | _ => none }
def fnExactEdgeFormulaRow : OpenClaim := { program := "ytmakeoekklcbdaa", sum := "3434b700844fb2c37cca2d234feb6169ef42d283b7685f92dbc007ecc120049b", func := "loop.example/g00590/laws.FnExactEdgeFormula", spec := "fnExactEdgeFormula", unfollowed := true, recurses := true, apart := false }
def FnExactEdgeFormulaSaid : Prop := fnExactEdgeFormulaRow.holds Try.pinned (OpenSpec.ofChange fnExactEdgeFormulaSpec)

/-- ITS FALSE NEIGHBOUR: 'it returns false'. Refute it at one input. -/
def fnExactEdgeFormulaWrong : ChangeSpec := { name := "fnExactEdgeFormula", fn := fun _ => fun
  | [d1, d2] => { results := [.lit (.bool false)], args := [d1, d2] }
  | _ => none }
def FnExactEdgeFormulaWrongFalsely : Prop := fnExactEdgeFormulaRow.holds Try.pinned (OpenSpec.ofChange fnExactEdgeFormulaWrong)

/-- 'laws.FnExactPredicateFormula': WHATEVER THE INPUT: true; the input reads as it did. -/
def fnExactPredicateFormulaSpec : ChangeSpec := { name := "fnExactPredicateFormula", fn := fun _ => fun
  | [d1, d2, d3] => { results := [.lit (.bool true)], args := [d1, d2, d3] }
  | _ => none }
def fnExactPredicateFormulaRow : OpenClaim := { program := "ytmakeoekklcbdaa", sum := "3434b700844fb2c37cca2d234feb6169ef42d283b7685f92dbc007ecc120049b", func := "loop.example/g00590/laws.FnExactPredicateFormula", spec := "fnExactPredicateFormula", unfollowed := true, recurses := true, apart := false }
def FnExactPredicateFormulaSaid : Prop := fnExactPredicateFormulaRow.holds Try.pinned (OpenSpec.ofChange fnExactPredicateFormulaSpec)

/-- ITS FALSE NEIGHBOUR: 'it returns false'. Refute it at one input. -/
def fnExactPredicateFormulaWrong : ChangeSpec := { name := "fnExactPredicateFormula", fn := fun _ => fun
  | [d1, d2, d3] => { results := [.lit (.bool false)], args := [d1, d2, d3] }
  | _ => none }
def FnExactPredicateFormulaWrongFalsely : Prop := fnExactPredicateFormulaRow.holds Try.pinned (OpenSpec.ofChange fnExactPredicateFormulaWrong)

/-- 'laws.FnExactHeapHolds': WHATEVER THE INPUT: true; the input reads as it did. -/
def fnExactHeapHoldsSpec : ChangeSpec := { name := "fnExactHeapHolds", fn := fun _ => fun
  | [d1, d2] => { results := [.lit (.bool true)], args := [d1, d2] }
  | _ => none }
def fnExactHeapHoldsRow : OpenClaim := { program := "ytmakeoekklcbdaa", sum := "3434b700844fb2c37cca2d234feb6169ef42d283b7685f92dbc007ecc120049b", func := "loop.example/g00590/laws.FnExactHeapHolds", spec := "fnExactHeapHolds", unfollowed := true, recurses := true, loops := true, apart := false }
def FnExactHeapHoldsSaid : Prop := fnExactHeapHoldsRow.holds Try.pinned (OpenSpec.ofChange fnExactHeapHoldsSpec)

/-- ITS FALSE NEIGHBOUR: 'it returns false'. Refute it at one input. -/
def fnExactHeapHoldsWrong : ChangeSpec := { name := "fnExactHeapHolds", fn := fun _ => fun
  | [d1, d2] => { results := [.lit (.bool false)], args := [d1, d2] }
  | _ => none }
def FnExactHeapHoldsWrongFalsely : Prop := fnExactHeapHoldsRow.holds Try.pinned (OpenSpec.ofChange fnExactHeapHoldsWrong)

/-- 'laws.FnExactIsConsistent': WHATEVER THE INPUT: true; the input reads as it did. -/
def fnExactIsConsistentSpec : ChangeSpec := { name := "fnExactIsConsistent", fn := fun _ => fun
  | [d1, d2] => { results := [.lit (.bool true)], args := [d1, d2] }
  | _ => none }
def fnExactIsConsistentRow : OpenClaim := { program := "ytmakeoekklcbdaa", sum := "3434b700844fb2c37cca2d234feb6169ef42d283b7685f92dbc007ecc120049b", func := "loop.example/g00590/laws.FnExactIsConsistent", spec := "fnExactIsConsistent", unfollowed := true, recurses := true, apart := false }
def FnExactIsConsistentSaid : Prop := fnExactIsConsistentRow.holds Try.pinned (OpenSpec.ofChange fnExactIsConsistentSpec)

/-- ITS FALSE NEIGHBOUR: 'it returns false'. Refute it at one input. -/
def fnExactIsConsistentWrong : ChangeSpec := { name := "fnExactIsConsistent", fn := fun _ => fun
  | [d1, d2] => { results := [.lit (.bool false)], args := [d1, d2] }
  | _ => none }
def FnExactIsConsistentWrongFalsely : Prop := fnExactIsConsistentRow.holds Try.pinned (OpenSpec.ofChange fnExactIsConsistentWrong)

/-- 'laws.FnExactPasses': WHATEVER THE INPUT: true; the input reads as it did. -/
def fnExactPassesSpec : ChangeSpec := { name := "fnExactPasses", fn := fun _ => fun
  | [d1, d2, d3] => { results := [.lit (.bool true)], args := [d1, d2, d3] }
  | _ => none }
def fnExactPassesRow : OpenClaim := { program := "ytmakeoekklcbdaa", sum := "3434b700844fb2c37cca2d234feb6169ef42d283b7685f92dbc007ecc120049b", func := "loop.example/g00590/laws.FnExactPasses", spec := "fnExactPasses", unfollowed := true, recurses := true, apart := false }
def FnExactPassesSaid : Prop := fnExactPassesRow.holds Try.pinned (OpenSpec.ofChange fnExactPassesSpec)

/-- ITS FALSE NEIGHBOUR: 'it returns false'. Refute it at one input. -/
def fnExactPassesWrong : ChangeSpec := { name := "fnExactPasses", fn := fun _ => fun
  | [d1, d2, d3] => { results := [.lit (.bool false)], args := [d1, d2, d3] }
  | _ => none }
def FnExactPassesWrongFalsely : Prop := fnExactPassesRow.holds Try.pinned (OpenSpec.ofChange fnExactPassesWrong)

/-- 'laws.FnExactExec': WHATEVER THE INPUT: true; the input reads as it did. -/
def fnExactExecSpec : ChangeSpec := { name := "fnExactExec", fn := fun _ => fun
  | [d1, d2, d3] => { results := [.lit (.bool true)], args := [d1, d2, d3] }
  | _ => none }
def fnExactExecRow : OpenClaim := { program := "ytmakeoekklcbdaa", sum := "3434b700844fb2c37cca2d234feb6169ef42d283b7685f92dbc007ecc120049b", func := "loop.example/g00590/laws.FnExactExec", spec := "fnExactExec", unfollowed := true, recurses := true, apart := false }
def FnExactExecSaid : Prop := fnExactExecRow.holds Try.pinned (OpenSpec.ofChange fnExactExecSpec)

/-- ITS FALSE NEIGHBOUR: 'it returns false'. Refute it at one input. -/
def fnExactExecWrong : ChangeSpec := { name := "fnExactExec", fn := fun _ => fun
  | [d1, d2, d3] => { results := [.lit (.bool false)], args := [d1, d2, d3] }
  | _ => none }
def FnExactExecWrongFalsely : Prop := fnExactExecRow.holds Try.pinned (OpenSpec.ofChange fnExactExecWrong)

/- THE SECOND FORM. 'bulk': how many values and letters a reading holds, each counted each time it is reached (what is shared counts as often as it is met; a slice's spare places count too). A statement '..UptoSaid' is the law's where the arguments, and the package variables that the reading takes, are together of bulk at most 1048576: NARROWER than '..Said'. Prove '..Said' where nothing that the law and all that it calls make is longer than what came in: it says more and counts as full. Else prove '..UptoSaid'. A law counts once. -/
mutual
def uptoBulk {H : Type} : DataW H → Nat
  | .lit (.string bytes) => bytes.length + 1
  | .lit _ => 1
  | .nil => 1
  | .ptr d => uptoBulk d + 1
  | .slice elems spare => uptoBulkAll elems + uptoBulkAll spare + 1
  | .agg parts => uptoBulkAll parts + 1
  | .iface _ d => uptoBulk d + 1
  | .map entries => uptoBulkEntries entries + 1
  | .held _ => 1
def uptoBulkAll {H : Type} : List (DataW H) → Nat
  | [] => 0
  | d :: r => uptoBulk d + uptoBulkAll r
def uptoBulkEntries {H : Type} : List (Lit × DataW H) → Nat
  | [] => 0
  | x :: r => uptoBulkEntry x + uptoBulkEntries r
def uptoBulkEntry {H : Type} : Lit × DataW H → Nat
  | (.string bytes, d) => bytes.length + uptoBulk d + 1
  | (_, d) => uptoBulk d + 1
 end
def uptoSmall : (H : Type) → List (DataW H) → Bool := fun _ ds => decide (uptoBulkAll ds ≤ 1048576)
def OpenSpec.upto (s : _root_.Go.ChangeSpec) : _root_.Go.OpenSpec := { _root_.Go.OpenSpec.ofChange s with cond := some uptoSmall }

/-- 'laws.FnExactHeapOf', WHERE WHAT IT READS IS OF BULK AT MOST 1048576: true; the input reads as it did. -/
def fnExactHeapOfUptoRow : OpenClaim := { program := "ytmakeoekklcbdaa", sum := "3434b700844fb2c37cca2d234feb6169ef42d283b7685f92dbc007ecc120049b", func := "loop.example/g00590/laws.FnExactHeapOf", spec := "fnExactHeapOf", unfollowed := true, recurses := true, apart := false, narrowed := true }
def FnExactHeapOfUptoSaid : Prop := fnExactHeapOfUptoRow.holds Try.pinned (OpenSpec.upto fnExactHeapOfSpec)

/-- 'laws.FnExactStructureOf', WHERE WHAT IT READS IS OF BULK AT MOST 1048576: true; the input reads as it did. -/
def fnExactStructureOfUptoRow : OpenClaim := { program := "ytmakeoekklcbdaa", sum := "3434b700844fb2c37cca2d234feb6169ef42d283b7685f92dbc007ecc120049b", func := "loop.example/g00590/laws.FnExactStructureOf", spec := "fnExactStructureOf", unfollowed := true, recurses := true, apart := false, narrowed := true }
def FnExactStructureOfUptoSaid : Prop := fnExactStructureOfUptoRow.holds Try.pinned (OpenSpec.upto fnExactStructureOfSpec)

/-- 'laws.FnExactListHeaps', WHERE WHAT IT READS IS OF BULK AT MOST 1048576: true; the input reads as it did. -/
def fnExactListHeapsUptoRow : OpenClaim := { program := "ytmakeoekklcbdaa", sum := "3434b700844fb2c37cca2d234feb6169ef42d283b7685f92dbc007ecc120049b", func := "loop.example/g00590/laws.FnExactListHeaps", spec := "fnExactListHeaps", apart := false, narrowed := true }
def FnExactListHeapsUptoSaid : Prop := fnExactListHeapsUptoRow.holds Try.pinned (OpenSpec.upto fnExactListHeapsSpec)

/-- 'laws.FnExactEdgeFormula', WHERE WHAT IT READS IS OF BULK AT MOST 1048576: true; the input reads as it did. -/
def fnExactEdgeFormulaUptoRow : OpenClaim := { program := "ytmakeoekklcbdaa", sum := "3434b700844fb2c37cca2d234feb6169ef42d283b7685f92dbc007ecc120049b", func := "loop.example/g00590/laws.FnExactEdgeFormula", spec := "fnExactEdgeFormula", unfollowed := true, recurses := true, apart := false, narrowed := true }
def FnExactEdgeFormulaUptoSaid : Prop := fnExactEdgeFormulaUptoRow.holds Try.pinned (OpenSpec.upto fnExactEdgeFormulaSpec)

/-- 'laws.FnExactPredicateFormula', WHERE WHAT IT READS IS OF BULK AT MOST 1048576: true; the input reads as it did. -/
def fnExactPredicateFormulaUptoRow : OpenClaim := { program := "ytmakeoekklcbdaa", sum := "3434b700844fb2c37cca2d234feb6169ef42d283b7685f92dbc007ecc120049b", func := "loop.example/g00590/laws.FnExactPredicateFormula", spec := "fnExactPredicateFormula", unfollowed := true, recurses := true, apart := false, narrowed := true }
def FnExactPredicateFormulaUptoSaid : Prop := fnExactPredicateFormulaUptoRow.holds Try.pinned (OpenSpec.upto fnExactPredicateFormulaSpec)

/-- 'laws.FnExactHeapHolds', WHERE WHAT IT READS IS OF BULK AT MOST 1048576: true; the input reads as it did. -/
def fnExactHeapHoldsUptoRow : OpenClaim := { program := "ytmakeoekklcbdaa", sum := "3434b700844fb2c37cca2d234feb6169ef42d283b7685f92dbc007ecc120049b", func := "loop.example/g00590/laws.FnExactHeapHolds", spec := "fnExactHeapHolds", unfollowed := true, recurses := true, loops := true, apart := false, narrowed := true }
def FnExactHeapHoldsUptoSaid : Prop := fnExactHeapHoldsUptoRow.holds Try.pinned (OpenSpec.upto fnExactHeapHoldsSpec)

/-- 'laws.FnExactIsConsistent', WHERE WHAT IT READS IS OF BULK AT MOST 1048576: true; the input reads as it did. -/
def fnExactIsConsistentUptoRow : OpenClaim := { program := "ytmakeoekklcbdaa", sum := "3434b700844fb2c37cca2d234feb6169ef42d283b7685f92dbc007ecc120049b", func := "loop.example/g00590/laws.FnExactIsConsistent", spec := "fnExactIsConsistent", unfollowed := true, recurses := true, apart := false, narrowed := true }
def FnExactIsConsistentUptoSaid : Prop := fnExactIsConsistentUptoRow.holds Try.pinned (OpenSpec.upto fnExactIsConsistentSpec)

/-- 'laws.FnExactPasses', WHERE WHAT IT READS IS OF BULK AT MOST 1048576: true; the input reads as it did. -/
def fnExactPassesUptoRow : OpenClaim := { program := "ytmakeoekklcbdaa", sum := "3434b700844fb2c37cca2d234feb6169ef42d283b7685f92dbc007ecc120049b", func := "loop.example/g00590/laws.FnExactPasses", spec := "fnExactPasses", unfollowed := true, recurses := true, apart := false, narrowed := true }
def FnExactPassesUptoSaid : Prop := fnExactPassesUptoRow.holds Try.pinned (OpenSpec.upto fnExactPassesSpec)

/-- 'laws.FnExactExec', WHERE WHAT IT READS IS OF BULK AT MOST 1048576: true; the input reads as it did. -/
def fnExactExecUptoRow : OpenClaim := { program := "ytmakeoekklcbdaa", sum := "3434b700844fb2c37cca2d234feb6169ef42d283b7685f92dbc007ecc120049b", func := "loop.example/g00590/laws.FnExactExec", spec := "fnExactExec", unfollowed := true, recurses := true, apart := false, narrowed := true }
def FnExactExecUptoSaid : Prop := fnExactExecUptoRow.holds Try.pinned (OpenSpec.upto fnExactExecSpec)

end Rows
end Go.Proofs.Ytmakeoekklcbdaa

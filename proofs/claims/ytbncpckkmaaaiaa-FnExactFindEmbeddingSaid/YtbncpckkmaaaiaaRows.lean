/-
  No cell of these rows narrows 'for every input' (looked for: loops, veiled, ifaces, maps, wideKeys, modest, calm, conditions, laid).
  DERIVED. THE GIVEN ROWS OF THIS SEAT. 10 by the template 'for every input the law returns true; each argument reads behind the call as it read before'; 0 by the template 'total and deterministic' (their statements: YtbncpckkmaaaiaaTotals.lean).
  GIVEN WITH THE SEED: the statements are not yours to turn. If you find one false, say at which input.
  Laid BY PROGRAM, IN A SANDBOX (cutbox-rows.mjs): the forced cells as the released guide's own fill.sh prints them over the translation 13b60c11cd9034ee… (all of the seat's roots in one cut). By AI agents, Wed Nov 11 2026. No macro, syntax, notation, axiom, sorry.
-/
import Derived.Test.YtbncpckkmaaaiaaChecked
import GoSem.Claim
import GoSem.ClaimJoined
import GoSem.ClaimMapViews
import Derived.JoinedTies
import Derived.KernelRfl
namespace Go.Proofs.Ytbncpckkmaaaiaa
/- THE CELL 'sum', in the pinned program and in every row, IS THE sha256 OF THE DUMP (.gsa) THAT YtbncpckkmaaaiaaProg.lean LOADS. Nothing in Lean hashes anything: it is a label: what it is worth is what the hold of that sum in a sandbox is worth. -/
noncomputable def Try.pinned : Pinned := { name := "ytbncpckkmaaaiaa", sum := "13b60c11cd9034ee5251669ec636c7518bc6899899b91e71ec591bbf979a06bf", checked := Try.checked }
namespace Rows
def none {H : Type} : Left H := { results := [], args := [] }

/-- 'laws.FnExactIsEmbedding': WHATEVER THE INPUT: true; the input reads as it did. -/
def fnExactIsEmbeddingSpec : ChangeSpec := { name := "fnExactIsEmbedding", fn := fun _ => fun
  | [d1, d2, d3] => { results := [.lit (.bool true)], args := [d1, d2, d3] }
  | _ => none }
def fnExactIsEmbeddingRow : OpenClaim := { program := "ytbncpckkmaaaiaa", sum := "13b60c11cd9034ee5251669ec636c7518bc6899899b91e71ec591bbf979a06bf", func := "loop.example/g00590/laws.FnExactIsEmbedding", spec := "fnExactIsEmbedding", unfollowed := true, recurses := true, apart := false }
def FnExactIsEmbeddingSaid : Prop := fnExactIsEmbeddingRow.holds Try.pinned (OpenSpec.ofChange fnExactIsEmbeddingSpec)

/-- ITS FALSE NEIGHBOUR: 'it returns false'. Refute it at one input. -/
def fnExactIsEmbeddingWrong : ChangeSpec := { name := "fnExactIsEmbedding", fn := fun _ => fun
  | [d1, d2, d3] => { results := [.lit (.bool false)], args := [d1, d2, d3] }
  | _ => none }
def FnExactIsEmbeddingWrongFalsely : Prop := fnExactIsEmbeddingRow.holds Try.pinned (OpenSpec.ofChange fnExactIsEmbeddingWrong)

/-- 'laws.FnExactIsEmbedded': WHATEVER THE INPUT: true; the input reads as it did. -/
def fnExactIsEmbeddedSpec : ChangeSpec := { name := "fnExactIsEmbedded", fn := fun _ => fun
  | [d1, d2] => { results := [.lit (.bool true)], args := [d1, d2] }
  | _ => none }
def fnExactIsEmbeddedRow : OpenClaim := { program := "ytbncpckkmaaaiaa", sum := "13b60c11cd9034ee5251669ec636c7518bc6899899b91e71ec591bbf979a06bf", func := "loop.example/g00590/laws.FnExactIsEmbedded", spec := "fnExactIsEmbedded", unfollowed := true, recurses := true, apart := false }
def FnExactIsEmbeddedSaid : Prop := fnExactIsEmbeddedRow.holds Try.pinned (OpenSpec.ofChange fnExactIsEmbeddedSpec)

/-- ITS FALSE NEIGHBOUR: 'it returns false'. Refute it at one input. -/
def fnExactIsEmbeddedWrong : ChangeSpec := { name := "fnExactIsEmbedded", fn := fun _ => fun
  | [d1, d2] => { results := [.lit (.bool false)], args := [d1, d2] }
  | _ => none }
def FnExactIsEmbeddedWrongFalsely : Prop := fnExactIsEmbeddedRow.holds Try.pinned (OpenSpec.ofChange fnExactIsEmbeddedWrong)

/-- 'laws.FnExactFindEmbedding': WHATEVER THE INPUT: true; the input reads as it did. -/
def fnExactFindEmbeddingSpec : ChangeSpec := { name := "fnExactFindEmbedding", fn := fun _ => fun
  | [d1, d2] => { results := [.lit (.bool true)], args := [d1, d2] }
  | _ => none }
def fnExactFindEmbeddingRow : OpenClaim := { program := "ytbncpckkmaaaiaa", sum := "13b60c11cd9034ee5251669ec636c7518bc6899899b91e71ec591bbf979a06bf", func := "loop.example/g00590/laws.FnExactFindEmbedding", spec := "fnExactFindEmbedding", unfollowed := true, recurses := true, apart := false }
def FnExactFindEmbeddingSaid : Prop := fnExactFindEmbeddingRow.holds Try.pinned (OpenSpec.ofChange fnExactFindEmbeddingSpec)

/-- ITS FALSE NEIGHBOUR: 'it returns false'. Refute it at one input. -/
def fnExactFindEmbeddingWrong : ChangeSpec := { name := "fnExactFindEmbedding", fn := fun _ => fun
  | [d1, d2] => { results := [.lit (.bool false)], args := [d1, d2] }
  | _ => none }
def FnExactFindEmbeddingWrongFalsely : Prop := fnExactFindEmbeddingRow.holds Try.pinned (OpenSpec.ofChange fnExactFindEmbeddingWrong)

/-- 'laws.FnExactStructureOf': WHATEVER THE INPUT: true; the input reads as it did. -/
def fnExactStructureOfSpec : ChangeSpec := { name := "fnExactStructureOf", fn := fun _ => fun
  | [d] => { results := [.lit (.bool true)], args := [d] }
  | _ => none }
def fnExactStructureOfRow : OpenClaim := { program := "ytbncpckkmaaaiaa", sum := "13b60c11cd9034ee5251669ec636c7518bc6899899b91e71ec591bbf979a06bf", func := "loop.example/g00590/laws.FnExactStructureOf", spec := "fnExactStructureOf", unfollowed := true, recurses := true, apart := false }
def FnExactStructureOfSaid : Prop := fnExactStructureOfRow.holds Try.pinned (OpenSpec.ofChange fnExactStructureOfSpec)

/-- ITS FALSE NEIGHBOUR: 'it returns false'. Refute it at one input. -/
def fnExactStructureOfWrong : ChangeSpec := { name := "fnExactStructureOf", fn := fun _ => fun
  | [d] => { results := [.lit (.bool false)], args := [d] }
  | _ => none }
def FnExactStructureOfWrongFalsely : Prop := fnExactStructureOfRow.holds Try.pinned (OpenSpec.ofChange fnExactStructureOfWrong)

/-- 'laws.FnExactHeapOf': WHATEVER THE INPUT: true; the input reads as it did. -/
def fnExactHeapOfSpec : ChangeSpec := { name := "fnExactHeapOf", fn := fun _ => fun
  | [d1, d2] => { results := [.lit (.bool true)], args := [d1, d2] }
  | _ => none }
def fnExactHeapOfRow : OpenClaim := { program := "ytbncpckkmaaaiaa", sum := "13b60c11cd9034ee5251669ec636c7518bc6899899b91e71ec591bbf979a06bf", func := "loop.example/g00590/laws.FnExactHeapOf", spec := "fnExactHeapOf", unfollowed := true, recurses := true, apart := false }
def FnExactHeapOfSaid : Prop := fnExactHeapOfRow.holds Try.pinned (OpenSpec.ofChange fnExactHeapOfSpec)

/-- ITS FALSE NEIGHBOUR: 'it returns false'. Refute it at one input. -/
def fnExactHeapOfWrong : ChangeSpec := { name := "fnExactHeapOf", fn := fun _ => fun
  | [d1, d2] => { results := [.lit (.bool false)], args := [d1, d2] }
  | _ => none }
def FnExactHeapOfWrongFalsely : Prop := fnExactHeapOfRow.holds Try.pinned (OpenSpec.ofChange fnExactHeapOfWrong)

/-- 'laws.FnExactCovers': WHATEVER THE INPUT: true; the input reads as it did. -/
def fnExactCoversSpec : ChangeSpec := { name := "fnExactCovers", fn := fun _ => fun
  | [d1, d2] => { results := [.lit (.bool true)], args := [d1, d2] }
  | _ => none }
def fnExactCoversRow : OpenClaim := { program := "ytbncpckkmaaaiaa", sum := "13b60c11cd9034ee5251669ec636c7518bc6899899b91e71ec591bbf979a06bf", func := "loop.example/g00590/laws.FnExactCovers", spec := "fnExactCovers", unfollowed := true, recurses := true, apart := false }
def FnExactCoversSaid : Prop := fnExactCoversRow.holds Try.pinned (OpenSpec.ofChange fnExactCoversSpec)

/-- ITS FALSE NEIGHBOUR: 'it returns false'. Refute it at one input. -/
def fnExactCoversWrong : ChangeSpec := { name := "fnExactCovers", fn := fun _ => fun
  | [d1, d2] => { results := [.lit (.bool false)], args := [d1, d2] }
  | _ => none }
def FnExactCoversWrongFalsely : Prop := fnExactCoversRow.holds Try.pinned (OpenSpec.ofChange fnExactCoversWrong)

/-- 'laws.FnExactDescribes': WHATEVER THE INPUT: true; the input reads as it did. -/
def fnExactDescribesSpec : ChangeSpec := { name := "fnExactDescribes", fn := fun _ => fun
  | [d1, d2] => { results := [.lit (.bool true)], args := [d1, d2] }
  | _ => none }
def fnExactDescribesRow : OpenClaim := { program := "ytbncpckkmaaaiaa", sum := "13b60c11cd9034ee5251669ec636c7518bc6899899b91e71ec591bbf979a06bf", func := "loop.example/g00590/laws.FnExactDescribes", spec := "fnExactDescribes", unfollowed := true, recurses := true, apart := false }
def FnExactDescribesSaid : Prop := fnExactDescribesRow.holds Try.pinned (OpenSpec.ofChange fnExactDescribesSpec)

/-- ITS FALSE NEIGHBOUR: 'it returns false'. Refute it at one input. -/
def fnExactDescribesWrong : ChangeSpec := { name := "fnExactDescribes", fn := fun _ => fun
  | [d1, d2] => { results := [.lit (.bool false)], args := [d1, d2] }
  | _ => none }
def FnExactDescribesWrongFalsely : Prop := fnExactDescribesRow.holds Try.pinned (OpenSpec.ofChange fnExactDescribesWrong)

/-- 'laws.FnExactSetDescribes': WHATEVER THE INPUT: true; the input reads as it did. -/
def fnExactSetDescribesSpec : ChangeSpec := { name := "fnExactSetDescribes", fn := fun _ => fun
  | [d1, d2] => { results := [.lit (.bool true)], args := [d1, d2] }
  | _ => none }
def fnExactSetDescribesRow : OpenClaim := { program := "ytbncpckkmaaaiaa", sum := "13b60c11cd9034ee5251669ec636c7518bc6899899b91e71ec591bbf979a06bf", func := "loop.example/g00590/laws.FnExactSetDescribes", spec := "fnExactSetDescribes", unfollowed := true, recurses := true, apart := false }
def FnExactSetDescribesSaid : Prop := fnExactSetDescribesRow.holds Try.pinned (OpenSpec.ofChange fnExactSetDescribesSpec)

/-- ITS FALSE NEIGHBOUR: 'it returns false'. Refute it at one input. -/
def fnExactSetDescribesWrong : ChangeSpec := { name := "fnExactSetDescribes", fn := fun _ => fun
  | [d1, d2] => { results := [.lit (.bool false)], args := [d1, d2] }
  | _ => none }
def FnExactSetDescribesWrongFalsely : Prop := fnExactSetDescribesRow.holds Try.pinned (OpenSpec.ofChange fnExactSetDescribesWrong)

/-- 'laws.FnExactEdgeFormula': WHATEVER THE INPUT: true; the input reads as it did. -/
def fnExactEdgeFormulaSpec : ChangeSpec := { name := "fnExactEdgeFormula", fn := fun _ => fun
  | [d1, d2] => { results := [.lit (.bool true)], args := [d1, d2] }
  | _ => none }
def fnExactEdgeFormulaRow : OpenClaim := { program := "ytbncpckkmaaaiaa", sum := "13b60c11cd9034ee5251669ec636c7518bc6899899b91e71ec591bbf979a06bf", func := "loop.example/g00590/laws.FnExactEdgeFormula", spec := "fnExactEdgeFormula", unfollowed := true, recurses := true, apart := false }
def FnExactEdgeFormulaSaid : Prop := fnExactEdgeFormulaRow.holds Try.pinned (OpenSpec.ofChange fnExactEdgeFormulaSpec)

/-- ITS FALSE NEIGHBOUR: 'it returns false'. Refute it at one input. -/
def fnExactEdgeFormulaWrong : ChangeSpec := { name := "fnExactEdgeFormula", fn := fun _ => fun
  | [d1, d2] => { results := [.lit (.bool false)], args := [d1, d2] }
  | _ => none }
def FnExactEdgeFormulaWrongFalsely : Prop := fnExactEdgeFormulaRow.holds Try.pinned (OpenSpec.ofChange fnExactEdgeFormulaWrong)

/-- 'laws.FnExactPredicateFormula': WHATEVER THE INPUT: true; the input reads as it did. -/
def fnExactPredicateFormulaSpec : ChangeSpec := { name := "fnExactPredicateFormula", fn := fun _ => fun
  | [d1, d2, d3] => { results := [.lit (.bool true)], args := [d1, d2, d3] }
  | _ => none }
def fnExactPredicateFormulaRow : OpenClaim := { program := "ytbncpckkmaaaiaa", sum := "13b60c11cd9034ee5251669ec636c7518bc6899899b91e71ec591bbf979a06bf", func := "loop.example/g00590/laws.FnExactPredicateFormula", spec := "fnExactPredicateFormula", unfollowed := true, recurses := true, apart := false }
def FnExactPredicateFormulaSaid : Prop := fnExactPredicateFormulaRow.holds Try.pinned (OpenSpec.ofChange fnExactPredicateFormulaSpec)

/-- ITS FALSE NEIGHBOUR: 'it returns false'. Refute it at one input. -/
def fnExactPredicateFormulaWrong : ChangeSpec := { name := "fnExactPredicateFormula", fn := fun _ => fun
  | [d1, d2, d3] => { results := [.lit (.bool false)], args := [d1, d2, d3] }
  | _ => none }
def FnExactPredicateFormulaWrongFalsely : Prop := fnExactPredicateFormulaRow.holds Try.pinned (OpenSpec.ofChange fnExactPredicateFormulaWrong)

/- THE SECOND FORM. 'bulk': how many values and letters a reading holds, each counted each time it is reached (what is shared counts as often as it is met; a slice's spare places count too). A statement '..UptoSaid' is the law's where the arguments, and the package variables that the reading takes, are together of bulk at most 1048576: NARROWER than '..Said'. Prove '..Said' where nothing that the law and all that it calls make is longer than what came in: it says more and counts as full. Else prove '..UptoSaid'. A law counts once. -/
mutual
def uptoBulk {H : Type} : DataW H → Nat
  | .lit (.string bytes) => bytes.length + 1
  | .lit _ => 1
  | .nil => 1
  | .ptr d => uptoBulk d + 1
  | .slice elems spare => uptoBulkAll elems + uptoBulkAll spare + 1
  | .agg parts => uptoBulkAll parts + 1
  | .iface _ d => uptoBulk d + 1
  | .map entries => uptoBulkEntries entries + 1
  | .held _ => 1
def uptoBulkAll {H : Type} : List (DataW H) → Nat
  | [] => 0
  | d :: r => uptoBulk d + uptoBulkAll r
def uptoBulkEntries {H : Type} : List (Lit × DataW H) → Nat
  | [] => 0
  | x :: r => uptoBulkEntry x + uptoBulkEntries r
def uptoBulkEntry {H : Type} : Lit × DataW H → Nat
  | (.string bytes, d) => bytes.length + uptoBulk d + 1
  | (_, d) => uptoBulk d + 1
 end
def uptoSmall : (H : Type) → List (DataW H) → Bool := fun _ ds => decide (uptoBulkAll ds ≤ 1048576)
def OpenSpec.upto (s : _root_.Go.ChangeSpec) : _root_.Go.OpenSpec := { _root_.Go.OpenSpec.ofChange s with cond := some uptoSmall }

/-- 'laws.FnExactIsEmbedding', WHERE WHAT IT READS IS OF BULK AT MOST 1048576: true; the input reads as it did. -/
def fnExactIsEmbeddingUptoRow : OpenClaim := { program := "ytbncpckkmaaaiaa", sum := "13b60c11cd9034ee5251669ec636c7518bc6899899b91e71ec591bbf979a06bf", func := "loop.example/g00590/laws.FnExactIsEmbedding", spec := "fnExactIsEmbedding", unfollowed := true, recurses := true, apart := false, narrowed := true }
def FnExactIsEmbeddingUptoSaid : Prop := fnExactIsEmbeddingUptoRow.holds Try.pinned (OpenSpec.upto fnExactIsEmbeddingSpec)

/-- 'laws.FnExactIsEmbedded', WHERE WHAT IT READS IS OF BULK AT MOST 1048576: true; the input reads as it did. -/
def fnExactIsEmbeddedUptoRow : OpenClaim := { program := "ytbncpckkmaaaiaa", sum := "13b60c11cd9034ee5251669ec636c7518bc6899899b91e71ec591bbf979a06bf", func := "loop.example/g00590/laws.FnExactIsEmbedded", spec := "fnExactIsEmbedded", unfollowed := true, recurses := true, apart := false, narrowed := true }
def FnExactIsEmbeddedUptoSaid : Prop := fnExactIsEmbeddedUptoRow.holds Try.pinned (OpenSpec.upto fnExactIsEmbeddedSpec)

/-- 'laws.FnExactFindEmbedding', WHERE WHAT IT READS IS OF BULK AT MOST 1048576: true; the input reads as it did. -/
def fnExactFindEmbeddingUptoRow : OpenClaim := { program := "ytbncpckkmaaaiaa", sum := "13b60c11cd9034ee5251669ec636c7518bc6899899b91e71ec591bbf979a06bf", func := "loop.example/g00590/laws.FnExactFindEmbedding", spec := "fnExactFindEmbedding", unfollowed := true, recurses := true, apart := false, narrowed := true }
def FnExactFindEmbeddingUptoSaid : Prop := fnExactFindEmbeddingUptoRow.holds Try.pinned (OpenSpec.upto fnExactFindEmbeddingSpec)

/-- 'laws.FnExactStructureOf', WHERE WHAT IT READS IS OF BULK AT MOST 1048576: true; the input reads as it did. -/
def fnExactStructureOfUptoRow : OpenClaim := { program := "ytbncpckkmaaaiaa", sum := "13b60c11cd9034ee5251669ec636c7518bc6899899b91e71ec591bbf979a06bf", func := "loop.example/g00590/laws.FnExactStructureOf", spec := "fnExactStructureOf", unfollowed := true, recurses := true, apart := false, narrowed := true }
def FnExactStructureOfUptoSaid : Prop := fnExactStructureOfUptoRow.holds Try.pinned (OpenSpec.upto fnExactStructureOfSpec)

/-- 'laws.FnExactHeapOf', WHERE WHAT IT READS IS OF BULK AT MOST 1048576: true; the input reads as it did. -/
def fnExactHeapOfUptoRow : OpenClaim := { program := "ytbncpckkmaaaiaa", sum := "13b60c11cd9034ee5251669ec636c7518bc6899899b91e71ec591bbf979a06bf", func := "loop.example/g00590/laws.FnExactHeapOf", spec := "fnExactHeapOf", unfollowed := true, recurses := true, apart := false, narrowed := true }
def FnExactHeapOfUptoSaid : Prop := fnExactHeapOfUptoRow.holds Try.pinned (OpenSpec.upto fnExactHeapOfSpec)

/-- 'laws.FnExactCovers', WHERE WHAT IT READS IS OF BULK AT MOST 1048576: true; the input reads as it did. -/
def fnExactCoversUptoRow : OpenClaim := { program := "ytbncpckkmaaaiaa", sum := "13b60c11cd9034ee5251669ec636c7518bc6899899b91e71ec591bbf979a06bf", func := "loop.example/g00590/laws.FnExactCovers", spec := "fnExactCovers", unfollowed := true, recurses := true, apart := false, narrowed := true }
def FnExactCoversUptoSaid : Prop := fnExactCoversUptoRow.holds Try.pinned (OpenSpec.upto fnExactCoversSpec)

/-- 'laws.FnExactDescribes', WHERE WHAT IT READS IS OF BULK AT MOST 1048576: true; the input reads as it did. -/
def fnExactDescribesUptoRow : OpenClaim := { program := "ytbncpckkmaaaiaa", sum := "13b60c11cd9034ee5251669ec636c7518bc6899899b91e71ec591bbf979a06bf", func := "loop.example/g00590/laws.FnExactDescribes", spec := "fnExactDescribes", unfollowed := true, recurses := true, apart := false, narrowed := true }
def FnExactDescribesUptoSaid : Prop := fnExactDescribesUptoRow.holds Try.pinned (OpenSpec.upto fnExactDescribesSpec)

/-- 'laws.FnExactSetDescribes', WHERE WHAT IT READS IS OF BULK AT MOST 1048576: true; the input reads as it did. -/
def fnExactSetDescribesUptoRow : OpenClaim := { program := "ytbncpckkmaaaiaa", sum := "13b60c11cd9034ee5251669ec636c7518bc6899899b91e71ec591bbf979a06bf", func := "loop.example/g00590/laws.FnExactSetDescribes", spec := "fnExactSetDescribes", unfollowed := true, recurses := true, apart := false, narrowed := true }
def FnExactSetDescribesUptoSaid : Prop := fnExactSetDescribesUptoRow.holds Try.pinned (OpenSpec.upto fnExactSetDescribesSpec)

/-- 'laws.FnExactEdgeFormula', WHERE WHAT IT READS IS OF BULK AT MOST 1048576: true; the input reads as it did. -/
def fnExactEdgeFormulaUptoRow : OpenClaim := { program := "ytbncpckkmaaaiaa", sum := "13b60c11cd9034ee5251669ec636c7518bc6899899b91e71ec591bbf979a06bf", func := "loop.example/g00590/laws.FnExactEdgeFormula", spec := "fnExactEdgeFormula", unfollowed := true, recurses := true, apart := false, narrowed := true }
def FnExactEdgeFormulaUptoSaid : Prop := fnExactEdgeFormulaUptoRow.holds Try.pinned (OpenSpec.upto fnExactEdgeFormulaSpec)

/-- 'laws.FnExactPredicateFormula', WHERE WHAT IT READS IS OF BULK AT MOST 1048576: true; the input reads as it did. -/
def fnExactPredicateFormulaUptoRow : OpenClaim := { program := "ytbncpckkmaaaiaa", sum := "13b60c11cd9034ee5251669ec636c7518bc6899899b91e71ec591bbf979a06bf", func := "loop.example/g00590/laws.FnExactPredicateFormula", spec := "fnExactPredicateFormula", unfollowed := true, recurses := true, apart := false, narrowed := true }
def FnExactPredicateFormulaUptoSaid : Prop := fnExactPredicateFormulaUptoRow.holds Try.pinned (OpenSpec.upto fnExactPredicateFormulaSpec)

end Rows
end Go.Proofs.Ytbncpckkmaaaiaa

/-
  No cell of these rows narrows 'for every input' (looked for: loops, veiled, ifaces, maps, wideKeys, modest, calm, conditions, laid).
  DERIVED. THE GIVEN ROWS OF THIS SEAT. 12 by the template 'for every input the law returns true; each argument reads behind the call as it read before'; 0 by the template 'total and deterministic' (their statements: YtjkjbiegekbikaaTotals.lean).
  GIVEN WITH THE SEED: the statements are not yours to turn. If you find one false, say at which input.
  Laid BY PROGRAM, IN A SANDBOX (cutbox-rows.mjs): the forced cells as the released guide's own fill.sh prints them over the translation 0a965a7fd21f1369… (all of the seat's roots in one cut). By AI agents, Wed Nov 11 2026. No macro, syntax, notation, axiom, sorry.
-/
import Derived.Test.YtjkjbiegekbikaaChecked
import GoSem.Claim
import GoSem.ClaimJoined
import GoSem.ClaimMapViews
import Derived.JoinedTies
import Derived.KernelRfl
namespace Go.Proofs.Ytjkjbiegekbikaa
/- THE CELL 'sum', in the pinned program and in every row, IS THE sha256 OF THE DUMP (.gsa) THAT YtjkjbiegekbikaaProg.lean LOADS. Nothing in Lean hashes anything: it is a label: what it is worth is what the hold of that sum in a sandbox is worth. -/
noncomputable def Try.pinned : Pinned := { name := "ytjkjbiegekbikaa", sum := "0a965a7fd21f13697368cdb6e32bfc7e6d1e2c45bc61967923a27e6a9ac089d3", checked := Try.checked }
namespace Rows
def none {H : Type} : Left H := { results := [], args := [] }

/-- 'laws.FnExactExampleText': WHATEVER THE INPUT: true; the input reads as it did. -/
def fnExactExampleTextSpec : ChangeSpec := { name := "fnExactExampleText", fn := fun _ => fun
  | [d] => { results := [.lit (.bool true)], args := [d] }
  | _ => none }
def fnExactExampleTextRow : OpenClaim := { program := "ytjkjbiegekbikaa", sum := "0a965a7fd21f13697368cdb6e32bfc7e6d1e2c45bc61967923a27e6a9ac089d3", func := "loop.example/g00590/laws.FnExactExampleText", spec := "fnExactExampleText", apart := false }
def FnExactExampleTextSaid : Prop := fnExactExampleTextRow.holds Try.pinned (OpenSpec.ofChange fnExactExampleTextSpec)

/-- ITS FALSE NEIGHBOUR: 'it returns false'. Refute it at one input. -/
def fnExactExampleTextWrong : ChangeSpec := { name := "fnExactExampleText", fn := fun _ => fun
  | [d] => { results := [.lit (.bool false)], args := [d] }
  | _ => none }
def FnExactExampleTextWrongFalsely : Prop := fnExactExampleTextRow.holds Try.pinned (OpenSpec.ofChange fnExactExampleTextWrong)

/-- 'laws.FnExactIsUnshared': WHATEVER THE INPUT: true; the input reads as it did. -/
def fnExactIsUnsharedSpec : ChangeSpec := { name := "fnExactIsUnshared", fn := fun _ => fun
  | [] => { results := [.lit (.bool true)], args := [] }
  | _ => none }
def fnExactIsUnsharedRow : OpenClaim := { program := "ytjkjbiegekbikaa", sum := "0a965a7fd21f13697368cdb6e32bfc7e6d1e2c45bc61967923a27e6a9ac089d3", func := "loop.example/g00590/laws.FnExactIsUnshared", spec := "fnExactIsUnshared", recurses := true, apart := false }
def FnExactIsUnsharedSaid : Prop := fnExactIsUnsharedRow.holds Try.pinned (OpenSpec.ofChange fnExactIsUnsharedSpec)

/-- ITS FALSE NEIGHBOUR: 'it returns false'. Refute it at one input. -/
def fnExactIsUnsharedWrong : ChangeSpec := { name := "fnExactIsUnshared", fn := fun _ => fun
  | [] => { results := [.lit (.bool false)], args := [] }
  | _ => none }
def FnExactIsUnsharedWrongFalsely : Prop := fnExactIsUnsharedRow.holds Try.pinned (OpenSpec.ofChange fnExactIsUnsharedWrong)

/-- 'laws.FnExactReachFormula': WHATEVER THE INPUT: true; the input reads as it did. -/
def fnExactReachFormulaSpec : ChangeSpec := { name := "fnExactReachFormula", fn := fun _ => fun
  | [d] => { results := [.lit (.bool true)], args := [d] }
  | _ => none }
def fnExactReachFormulaRow : OpenClaim := { program := "ytjkjbiegekbikaa", sum := "0a965a7fd21f13697368cdb6e32bfc7e6d1e2c45bc61967923a27e6a9ac089d3", func := "loop.example/g00590/laws.FnExactReachFormula", spec := "fnExactReachFormula", recurses := true, apart := false }
def FnExactReachFormulaSaid : Prop := fnExactReachFormulaRow.holds Try.pinned (OpenSpec.ofChange fnExactReachFormulaSpec)

/-- ITS FALSE NEIGHBOUR: 'it returns false'. Refute it at one input. -/
def fnExactReachFormulaWrong : ChangeSpec := { name := "fnExactReachFormula", fn := fun _ => fun
  | [d] => { results := [.lit (.bool false)], args := [d] }
  | _ => none }
def FnExactReachFormulaWrongFalsely : Prop := fnExactReachFormulaRow.holds Try.pinned (OpenSpec.ofChange fnExactReachFormulaWrong)

/-- 'laws.FnExactSeparateFormula': WHATEVER THE INPUT: true; the input reads as it did. -/
def fnExactSeparateFormulaSpec : ChangeSpec := { name := "fnExactSeparateFormula", fn := fun _ => fun
  | [d1, d2] => { results := [.lit (.bool true)], args := [d1, d2] }
  | _ => none }
def fnExactSeparateFormulaRow : OpenClaim := { program := "ytjkjbiegekbikaa", sum := "0a965a7fd21f13697368cdb6e32bfc7e6d1e2c45bc61967923a27e6a9ac089d3", func := "loop.example/g00590/laws.FnExactSeparateFormula", spec := "fnExactSeparateFormula", recurses := true, apart := false }
def FnExactSeparateFormulaSaid : Prop := fnExactSeparateFormulaRow.holds Try.pinned (OpenSpec.ofChange fnExactSeparateFormulaSpec)

/-- ITS FALSE NEIGHBOUR: 'it returns false'. Refute it at one input. -/
def fnExactSeparateFormulaWrong : ChangeSpec := { name := "fnExactSeparateFormula", fn := fun _ => fun
  | [d1, d2] => { results := [.lit (.bool false)], args := [d1, d2] }
  | _ => none }
def FnExactSeparateFormulaWrongFalsely : Prop := fnExactSeparateFormulaRow.holds Try.pinned (OpenSpec.ofChange fnExactSeparateFormulaWrong)

/-- 'laws.FnExactListFormula': WHATEVER THE INPUT: true; the input reads as it did. -/
def fnExactListFormulaSpec : ChangeSpec := { name := "fnExactListFormula", fn := fun _ => fun
  | [d] => { results := [.lit (.bool true)], args := [d] }
  | _ => none }
def fnExactListFormulaRow : OpenClaim := { program := "ytjkjbiegekbikaa", sum := "0a965a7fd21f13697368cdb6e32bfc7e6d1e2c45bc61967923a27e6a9ac089d3", func := "loop.example/g00590/laws.FnExactListFormula", spec := "fnExactListFormula", recurses := true, apart := false }
def FnExactListFormulaSaid : Prop := fnExactListFormulaRow.holds Try.pinned (OpenSpec.ofChange fnExactListFormulaSpec)

/-- ITS FALSE NEIGHBOUR: 'it returns false'. Refute it at one input. -/
def fnExactListFormulaWrong : ChangeSpec := { name := "fnExactListFormula", fn := fun _ => fun
  | [d] => { results := [.lit (.bool false)], args := [d] }
  | _ => none }
def FnExactListFormulaWrongFalsely : Prop := fnExactListFormulaRow.holds Try.pinned (OpenSpec.ofChange fnExactListFormulaWrong)

/-- 'laws.FnExactSharedFormula': WHATEVER THE INPUT: true; the input reads as it did. -/
def fnExactSharedFormulaSpec : ChangeSpec := { name := "fnExactSharedFormula", fn := fun _ => fun
  | [] => { results := [.lit (.bool true)], args := [] }
  | _ => none }
def fnExactSharedFormulaRow : OpenClaim := { program := "ytjkjbiegekbikaa", sum := "0a965a7fd21f13697368cdb6e32bfc7e6d1e2c45bc61967923a27e6a9ac089d3", func := "loop.example/g00590/laws.FnExactSharedFormula", spec := "fnExactSharedFormula", recurses := true, apart := false }
def FnExactSharedFormulaSaid : Prop := fnExactSharedFormulaRow.holds Try.pinned (OpenSpec.ofChange fnExactSharedFormulaSpec)

/-- ITS FALSE NEIGHBOUR: 'it returns false'. Refute it at one input. -/
def fnExactSharedFormulaWrong : ChangeSpec := { name := "fnExactSharedFormula", fn := fun _ => fun
  | [] => { results := [.lit (.bool false)], args := [] }
  | _ => none }
def FnExactSharedFormulaWrongFalsely : Prop := fnExactSharedFormulaRow.holds Try.pinned (OpenSpec.ofChange fnExactSharedFormulaWrong)

/-- 'laws.FnExactHasLeak': WHATEVER THE INPUT: true; the input reads as it did. -/
def fnExactHasLeakSpec : ChangeSpec := { name := "fnExactHasLeak", fn := fun _ => fun
  | [d] => { results := [.lit (.bool true)], args := [d] }
  | _ => none }
def fnExactHasLeakRow : OpenClaim := { program := "ytjkjbiegekbikaa", sum := "0a965a7fd21f13697368cdb6e32bfc7e6d1e2c45bc61967923a27e6a9ac089d3", func := "loop.example/g00590/laws.FnExactHasLeak", spec := "fnExactHasLeak", apart := false }
def FnExactHasLeakSaid : Prop := fnExactHasLeakRow.holds Try.pinned (OpenSpec.ofChange fnExactHasLeakSpec)

/-- ITS FALSE NEIGHBOUR: 'it returns false'. Refute it at one input. -/
def fnExactHasLeakWrong : ChangeSpec := { name := "fnExactHasLeak", fn := fun _ => fun
  | [d] => { results := [.lit (.bool false)], args := [d] }
  | _ => none }
def FnExactHasLeakWrongFalsely : Prop := fnExactHasLeakRow.holds Try.pinned (OpenSpec.ofChange fnExactHasLeakWrong)

/-- 'laws.FnExactListHeaps': WHATEVER THE INPUT: true; the input reads as it did. -/
def fnExactListHeapsSpec : ChangeSpec := { name := "fnExactListHeaps", fn := fun _ => fun
  | [d1, d2] => { results := [.lit (.bool true)], args := [d1, d2] }
  | _ => none }
def fnExactListHeapsRow : OpenClaim := { program := "ytjkjbiegekbikaa", sum := "0a965a7fd21f13697368cdb6e32bfc7e6d1e2c45bc61967923a27e6a9ac089d3", func := "loop.example/g00590/laws.FnExactListHeaps", spec := "fnExactListHeaps", apart := false }
def FnExactListHeapsSaid : Prop := fnExactListHeapsRow.holds Try.pinned (OpenSpec.ofChange fnExactListHeapsSpec)

/-- ITS FALSE NEIGHBOUR: 'it returns false'. Refute it at one input. -/
def fnExactListHeapsWrong : ChangeSpec := { name := "fnExactListHeaps", fn := fun _ => fun
  | [d1, d2] => { results := [.lit (.bool false)], args := [d1, d2] }
  | _ => none }
def FnExactListHeapsWrongFalsely : Prop := fnExactListHeapsRow.holds Try.pinned (OpenSpec.ofChange fnExactListHeapsWrong)

/-- 'laws.FnExactCountPredicates': WHATEVER THE INPUT: true; the input reads as it did. -/
def fnExactCountPredicatesSpec : ChangeSpec := { name := "fnExactCountPredicates", fn := fun _ => fun
  | [d] => { results := [.lit (.bool true)], args := [d] }
  | _ => none }
def fnExactCountPredicatesRow : OpenClaim := { program := "ytjkjbiegekbikaa", sum := "0a965a7fd21f13697368cdb6e32bfc7e6d1e2c45bc61967923a27e6a9ac089d3", func := "loop.example/g00590/laws.FnExactCountPredicates", spec := "fnExactCountPredicates", apart := false }
def FnExactCountPredicatesSaid : Prop := fnExactCountPredicatesRow.holds Try.pinned (OpenSpec.ofChange fnExactCountPredicatesSpec)

/-- ITS FALSE NEIGHBOUR: 'it returns false'. Refute it at one input. -/
def fnExactCountPredicatesWrong : ChangeSpec := { name := "fnExactCountPredicates", fn := fun _ => fun
  | [d] => { results := [.lit (.bool false)], args := [d] }
  | _ => none }
def FnExactCountPredicatesWrongFalsely : Prop := fnExactCountPredicatesRow.holds Try.pinned (OpenSpec.ofChange fnExactCountPredicatesWrong)

/-- 'laws.FnExactIsDefinite': WHATEVER THE INPUT: true; the input reads as it did. -/
def fnExactIsDefiniteSpec : ChangeSpec := { name := "fnExactIsDefinite", fn := fun _ => fun
  | [d] => { results := [.lit (.bool true)], args := [d] }
  | _ => none }
def fnExactIsDefiniteRow : OpenClaim := { program := "ytjkjbiegekbikaa", sum := "0a965a7fd21f13697368cdb6e32bfc7e6d1e2c45bc61967923a27e6a9ac089d3", func := "loop.example/g00590/laws.FnExactIsDefinite", spec := "fnExactIsDefinite", unfollowed := true, recurses := true, apart := false }
def FnExactIsDefiniteSaid : Prop := fnExactIsDefiniteRow.holds Try.pinned (OpenSpec.ofChange fnExactIsDefiniteSpec)

/-- ITS FALSE NEIGHBOUR: 'it returns false'. Refute it at one input. -/
def fnExactIsDefiniteWrong : ChangeSpec := { name := "fnExactIsDefinite", fn := fun _ => fun
  | [d] => { results := [.lit (.bool false)], args := [d] }
  | _ => none }
def FnExactIsDefiniteWrongFalsely : Prop := fnExactIsDefiniteRow.holds Try.pinned (OpenSpec.ofChange fnExactIsDefiniteWrong)

/-- 'laws.FnExactEqualStructure': WHATEVER THE INPUT: true; the input reads as it did. -/
def fnExactEqualStructureSpec : ChangeSpec := { name := "fnExactEqualStructure", fn := fun _ => fun
  | [d1, d2] => { results := [.lit (.bool true)], args := [d1, d2] }
  | _ => none }
def fnExactEqualStructureRow : OpenClaim := { program := "ytjkjbiegekbikaa", sum := "0a965a7fd21f13697368cdb6e32bfc7e6d1e2c45bc61967923a27e6a9ac089d3", func := "loop.example/g00590/laws.FnExactEqualStructure", spec := "fnExactEqualStructure", unfollowed := true, recurses := true, apart := false }
def FnExactEqualStructureSaid : Prop := fnExactEqualStructureRow.holds Try.pinned (OpenSpec.ofChange fnExactEqualStructureSpec)

/-- ITS FALSE NEIGHBOUR: 'it returns false'. Refute it at one input. -/
def fnExactEqualStructureWrong : ChangeSpec := { name := "fnExactEqualStructure", fn := fun _ => fun
  | [d1, d2] => { results := [.lit (.bool false)], args := [d1, d2] }
  | _ => none }
def FnExactEqualStructureWrongFalsely : Prop := fnExactEqualStructureRow.holds Try.pinned (OpenSpec.ofChange fnExactEqualStructureWrong)

/-- 'laws.FnExactPredicateAt': WHATEVER THE INPUT: true; the input reads as it did. -/
def fnExactPredicateAtSpec : ChangeSpec := { name := "fnExactPredicateAt", fn := fun _ => fun
  | [d1, d2, d3] => { results := [.lit (.bool true)], args := [d1, d2, d3] }
  | _ => none }
def fnExactPredicateAtRow : OpenClaim := { program := "ytjkjbiegekbikaa", sum := "0a965a7fd21f13697368cdb6e32bfc7e6d1e2c45bc61967923a27e6a9ac089d3", func := "loop.example/g00590/laws.FnExactPredicateAt", spec := "fnExactPredicateAt", apart := false }
def FnExactPredicateAtSaid : Prop := fnExactPredicateAtRow.holds Try.pinned (OpenSpec.ofChange fnExactPredicateAtSpec)

/-- ITS FALSE NEIGHBOUR: 'it returns false'. Refute it at one input. -/
def fnExactPredicateAtWrong : ChangeSpec := { name := "fnExactPredicateAt", fn := fun _ => fun
  | [d1, d2, d3] => { results := [.lit (.bool false)], args := [d1, d2, d3] }
  | _ => none }
def FnExactPredicateAtWrongFalsely : Prop := fnExactPredicateAtRow.holds Try.pinned (OpenSpec.ofChange fnExactPredicateAtWrong)

/- THE SECOND FORM. 'bulk': how many values and letters a reading holds, each counted each time it is reached (what is shared counts as often as it is met; a slice's spare places count too). A statement '..UptoSaid' is the law's where the arguments, and the package variables that the reading takes, are together of bulk at most 1048576: NARROWER than '..Said'. Prove '..Said' where nothing that the law and all that it calls make is longer than what came in: it says more and counts as full. Else prove '..UptoSaid'. A law counts once. -/
mutual
def uptoBulk {H : Type} : DataW H → Nat
  | .lit (.string bytes) => bytes.length + 1
  | .lit _ => 1
  | .nil => 1
  | .ptr d => uptoBulk d + 1
  | .slice elems spare => uptoBulkAll elems + uptoBulkAll spare + 1
  | .agg parts => uptoBulkAll parts + 1
  | .iface _ d => uptoBulk d + 1
  | .map entries => uptoBulkEntries entries + 1
  | .held _ => 1
def uptoBulkAll {H : Type} : List (DataW H) → Nat
  | [] => 0
  | d :: r => uptoBulk d + uptoBulkAll r
def uptoBulkEntries {H : Type} : List (Lit × DataW H) → Nat
  | [] => 0
  | x :: r => uptoBulkEntry x + uptoBulkEntries r
def uptoBulkEntry {H : Type} : Lit × DataW H → Nat
  | (.string bytes, d) => bytes.length + uptoBulk d + 1
  | (_, d) => uptoBulk d + 1
 end
def uptoSmall : (H : Type) → List (DataW H) → Bool := fun _ ds => decide (uptoBulkAll ds ≤ 1048576)
def OpenSpec.upto (s : _root_.Go.ChangeSpec) : _root_.Go.OpenSpec := { _root_.Go.OpenSpec.ofChange s with cond := some uptoSmall }

/-- 'laws.FnExactExampleText', WHERE WHAT IT READS IS OF BULK AT MOST 1048576: true; the input reads as it did. -/
def fnExactExampleTextUptoRow : OpenClaim := { program := "ytjkjbiegekbikaa", sum := "0a965a7fd21f13697368cdb6e32bfc7e6d1e2c45bc61967923a27e6a9ac089d3", func := "loop.example/g00590/laws.FnExactExampleText", spec := "fnExactExampleText", apart := false, narrowed := true }
def FnExactExampleTextUptoSaid : Prop := fnExactExampleTextUptoRow.holds Try.pinned (OpenSpec.upto fnExactExampleTextSpec)

/-- 'laws.FnExactIsUnshared', WHERE WHAT IT READS IS OF BULK AT MOST 1048576: true; the input reads as it did. -/
def fnExactIsUnsharedUptoRow : OpenClaim := { program := "ytjkjbiegekbikaa", sum := "0a965a7fd21f13697368cdb6e32bfc7e6d1e2c45bc61967923a27e6a9ac089d3", func := "loop.example/g00590/laws.FnExactIsUnshared", spec := "fnExactIsUnshared", recurses := true, apart := false, narrowed := true }
def FnExactIsUnsharedUptoSaid : Prop := fnExactIsUnsharedUptoRow.holds Try.pinned (OpenSpec.upto fnExactIsUnsharedSpec)

/-- 'laws.FnExactReachFormula', WHERE WHAT IT READS IS OF BULK AT MOST 1048576: true; the input reads as it did. -/
def fnExactReachFormulaUptoRow : OpenClaim := { program := "ytjkjbiegekbikaa", sum := "0a965a7fd21f13697368cdb6e32bfc7e6d1e2c45bc61967923a27e6a9ac089d3", func := "loop.example/g00590/laws.FnExactReachFormula", spec := "fnExactReachFormula", recurses := true, apart := false, narrowed := true }
def FnExactReachFormulaUptoSaid : Prop := fnExactReachFormulaUptoRow.holds Try.pinned (OpenSpec.upto fnExactReachFormulaSpec)

/-- 'laws.FnExactSeparateFormula', WHERE WHAT IT READS IS OF BULK AT MOST 1048576: true; the input reads as it did. -/
def fnExactSeparateFormulaUptoRow : OpenClaim := { program := "ytjkjbiegekbikaa", sum := "0a965a7fd21f13697368cdb6e32bfc7e6d1e2c45bc61967923a27e6a9ac089d3", func := "loop.example/g00590/laws.FnExactSeparateFormula", spec := "fnExactSeparateFormula", recurses := true, apart := false, narrowed := true }
def FnExactSeparateFormulaUptoSaid : Prop := fnExactSeparateFormulaUptoRow.holds Try.pinned (OpenSpec.upto fnExactSeparateFormulaSpec)

/-- 'laws.FnExactListFormula', WHERE WHAT IT READS IS OF BULK AT MOST 1048576: true; the input reads as it did. -/
def fnExactListFormulaUptoRow : OpenClaim := { program := "ytjkjbiegekbikaa", sum := "0a965a7fd21f13697368cdb6e32bfc7e6d1e2c45bc61967923a27e6a9ac089d3", func := "loop.example/g00590/laws.FnExactListFormula", spec := "fnExactListFormula", recurses := true, apart := false, narrowed := true }
def FnExactListFormulaUptoSaid : Prop := fnExactListFormulaUptoRow.holds Try.pinned (OpenSpec.upto fnExactListFormulaSpec)

/-- 'laws.FnExactSharedFormula', WHERE WHAT IT READS IS OF BULK AT MOST 1048576: true; the input reads as it did. -/
def fnExactSharedFormulaUptoRow : OpenClaim := { program := "ytjkjbiegekbikaa", sum := "0a965a7fd21f13697368cdb6e32bfc7e6d1e2c45bc61967923a27e6a9ac089d3", func := "loop.example/g00590/laws.FnExactSharedFormula", spec := "fnExactSharedFormula", recurses := true, apart := false, narrowed := true }
def FnExactSharedFormulaUptoSaid : Prop := fnExactSharedFormulaUptoRow.holds Try.pinned (OpenSpec.upto fnExactSharedFormulaSpec)

/-- 'laws.FnExactHasLeak', WHERE WHAT IT READS IS OF BULK AT MOST 1048576: true; the input reads as it did. -/
def fnExactHasLeakUptoRow : OpenClaim := { program := "ytjkjbiegekbikaa", sum := "0a965a7fd21f13697368cdb6e32bfc7e6d1e2c45bc61967923a27e6a9ac089d3", func := "loop.example/g00590/laws.FnExactHasLeak", spec := "fnExactHasLeak", apart := false, narrowed := true }
def FnExactHasLeakUptoSaid : Prop := fnExactHasLeakUptoRow.holds Try.pinned (OpenSpec.upto fnExactHasLeakSpec)

/-- 'laws.FnExactListHeaps', WHERE WHAT IT READS IS OF BULK AT MOST 1048576: true; the input reads as it did. -/
def fnExactListHeapsUptoRow : OpenClaim := { program := "ytjkjbiegekbikaa", sum := "0a965a7fd21f13697368cdb6e32bfc7e6d1e2c45bc61967923a27e6a9ac089d3", func := "loop.example/g00590/laws.FnExactListHeaps", spec := "fnExactListHeaps", apart := false, narrowed := true }
def FnExactListHeapsUptoSaid : Prop := fnExactListHeapsUptoRow.holds Try.pinned (OpenSpec.upto fnExactListHeapsSpec)

/-- 'laws.FnExactCountPredicates', WHERE WHAT IT READS IS OF BULK AT MOST 1048576: true; the input reads as it did. -/
def fnExactCountPredicatesUptoRow : OpenClaim := { program := "ytjkjbiegekbikaa", sum := "0a965a7fd21f13697368cdb6e32bfc7e6d1e2c45bc61967923a27e6a9ac089d3", func := "loop.example/g00590/laws.FnExactCountPredicates", spec := "fnExactCountPredicates", apart := false, narrowed := true }
def FnExactCountPredicatesUptoSaid : Prop := fnExactCountPredicatesUptoRow.holds Try.pinned (OpenSpec.upto fnExactCountPredicatesSpec)

/-- 'laws.FnExactIsDefinite', WHERE WHAT IT READS IS OF BULK AT MOST 1048576: true; the input reads as it did. -/
def fnExactIsDefiniteUptoRow : OpenClaim := { program := "ytjkjbiegekbikaa", sum := "0a965a7fd21f13697368cdb6e32bfc7e6d1e2c45bc61967923a27e6a9ac089d3", func := "loop.example/g00590/laws.FnExactIsDefinite", spec := "fnExactIsDefinite", unfollowed := true, recurses := true, apart := false, narrowed := true }
def FnExactIsDefiniteUptoSaid : Prop := fnExactIsDefiniteUptoRow.holds Try.pinned (OpenSpec.upto fnExactIsDefiniteSpec)

/-- 'laws.FnExactEqualStructure', WHERE WHAT IT READS IS OF BULK AT MOST 1048576: true; the input reads as it did. -/
def fnExactEqualStructureUptoRow : OpenClaim := { program := "ytjkjbiegekbikaa", sum := "0a965a7fd21f13697368cdb6e32bfc7e6d1e2c45bc61967923a27e6a9ac089d3", func := "loop.example/g00590/laws.FnExactEqualStructure", spec := "fnExactEqualStructure", unfollowed := true, recurses := true, apart := false, narrowed := true }
def FnExactEqualStructureUptoSaid : Prop := fnExactEqualStructureUptoRow.holds Try.pinned (OpenSpec.upto fnExactEqualStructureSpec)

/-- 'laws.FnExactPredicateAt', WHERE WHAT IT READS IS OF BULK AT MOST 1048576: true; the input reads as it did. -/
def fnExactPredicateAtUptoRow : OpenClaim := { program := "ytjkjbiegekbikaa", sum := "0a965a7fd21f13697368cdb6e32bfc7e6d1e2c45bc61967923a27e6a9ac089d3", func := "loop.example/g00590/laws.FnExactPredicateAt", spec := "fnExactPredicateAt", apart := false, narrowed := true }
def FnExactPredicateAtUptoSaid : Prop := fnExactPredicateAtUptoRow.holds Try.pinned (OpenSpec.upto fnExactPredicateAtSpec)

end Rows
end Go.Proofs.Ytjkjbiegekbikaa

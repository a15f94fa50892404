/-
  DERIVED. GIVEN WITH THE SEED: THE CARDS: each row of YtekiceofgkcpfaaDoorRows.lean that lists a variable, with what it lists TIED to the program's text (the seventh form; the later family's looks); each row that meets fmt, with fmt's text TOLD by the authors' own Lean function (tested against real Go, not proved from fmt's source: count such statements apart). THE CARD IS WHAT COUNTS. Prove the row's statement (the work); the ties are given (YtekiceofgkcpfaaDoorTie.lean); close each card by the builder's one call (the guide's Derived/Test/ToyasCard.lean, 'card_holds'). Laid BY PROGRAM, IN A SANDBOX (cutbox-door.mjs). By AI agents, Wed Nov 11 2026. No macro, syntax, notation, axiom, sorry.
-/
import Derived.Test.YtekiceofgkcpfaaDoorRows
import GoSem.ClaimSeven
namespace Go.Proofs.YtekiceofgkcpfaaDoor
namespace Rows

/-- THE TIED CARD OF 'laws.FnExactSetLines'. -/
def fnExactSetLinesCard : Claim7 := { stood := { row := fnExactSetLinesRow, standIns := [], harness := (true, "07c8dd17881c66dd65f1078c63504e3bb33c8c5b6f26f704aa4911923bea0a93"), looks := false }, kinds := [], alts := [], laidByText := true, laidKinds := [.data, .data, .data], laidTests := true, laidLooks := .later }
def FnExactSetLinesCardSaid : Prop := Claim7.holds Tryd.pinned (.plain (OpenSpec.ofChange fnExactSetLinesSpec)) fnExactSetLinesCard

/-- THE TIED CARD OF 'laws.FnExactHeapText'. -/
def fnExactHeapTextCard : Claim7 := { stood := { row := fnExactHeapTextRow, standIns := [], harness := (true, "07c8dd17881c66dd65f1078c63504e3bb33c8c5b6f26f704aa4911923bea0a93"), looks := false }, kinds := [], alts := [], laidByText := true, laidKinds := [.data, .data, .data], laidTests := true, laidLooks := .later }
def FnExactHeapTextCardSaid : Prop := Claim7.holds Tryd.pinned (.plain (OpenSpec.ofChange fnExactHeapTextSpec)) fnExactHeapTextCard

/-- THE TIED CARD OF 'laws.FnHeaps'. -/
def fnHeapsCard : Claim7 := { stood := { row := fnHeapsRow, standIns := [], harness := (true, "07c8dd17881c66dd65f1078c63504e3bb33c8c5b6f26f704aa4911923bea0a93"), looks := false }, kinds := [], alts := [], laidByText := true, laidKinds := [.data, .data, .data], laidTests := true, laidLooks := .later }
def FnHeapsCardSaid : Prop := Claim7.holds Tryd.pinned (.plain (OpenSpec.ofChange fnHeapsSpec)) fnHeapsCard

/-- THE SECOND FORM's CARD OF 'laws.FnExactSetLines'. -/
def fnExactSetLinesUptoCard : Claim7 := { stood := { row := fnExactSetLinesUptoRow, standIns := [], harness := (true, "07c8dd17881c66dd65f1078c63504e3bb33c8c5b6f26f704aa4911923bea0a93"), looks := false }, kinds := [], alts := [], laidByText := true, laidKinds := [.data, .data, .data], laidTests := true, laidLooks := .later }
def FnExactSetLinesUptoCardSaid : Prop := Claim7.holds Tryd.pinned (.plain (OpenSpec.upto fnExactSetLinesSpec)) fnExactSetLinesUptoCard

/-- THE SECOND FORM's CARD OF 'laws.FnExactHeapText'. -/
def fnExactHeapTextUptoCard : Claim7 := { stood := { row := fnExactHeapTextUptoRow, standIns := [], harness := (true, "07c8dd17881c66dd65f1078c63504e3bb33c8c5b6f26f704aa4911923bea0a93"), looks := false }, kinds := [], alts := [], laidByText := true, laidKinds := [.data, .data, .data], laidTests := true, laidLooks := .later }
def FnExactHeapTextUptoCardSaid : Prop := Claim7.holds Tryd.pinned (.plain (OpenSpec.upto fnExactHeapTextSpec)) fnExactHeapTextUptoCard

/-- THE SECOND FORM's CARD OF 'laws.FnHeaps'. -/
def fnHeapsUptoCard : Claim7 := { stood := { row := fnHeapsUptoRow, standIns := [], harness := (true, "07c8dd17881c66dd65f1078c63504e3bb33c8c5b6f26f704aa4911923bea0a93"), looks := false }, kinds := [], alts := [], laidByText := true, laidKinds := [.data, .data, .data], laidTests := true, laidLooks := .later }
def FnHeapsUptoCardSaid : Prop := Claim7.holds Tryd.pinned (.plain (OpenSpec.upto fnHeapsSpec)) fnHeapsUptoCard
end Rows
end Go.Proofs.YtekiceofgkcpfaaDoor

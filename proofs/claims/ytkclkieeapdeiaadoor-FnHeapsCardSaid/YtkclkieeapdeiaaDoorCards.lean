/-
  DERIVED. GIVEN WITH THE SEED: THE CARDS: each row of YtkclkieeapdeiaaDoorRows.lean that lists a variable, with what it lists TIED to the program's text (the seventh form; the later family's looks); each row that meets fmt, with fmt's text TOLD by the authors' own Lean function (tested against real Go, not proved from fmt's source: count such statements apart). THE CARD IS WHAT COUNTS. Prove the row's statement (the work); the ties are given (YtkclkieeapdeiaaDoorTie.lean); close each card by the builder's one call (the guide's Derived/Test/ToyasCard.lean, 'card_holds'). Laid BY PROGRAM, IN A SANDBOX (cutbox-door.mjs). By AI agents, Wed Nov 11 2026. No macro, syntax, notation, axiom, sorry.
-/
import Derived.Test.YtkclkieeapdeiaaDoorRows
import GoSem.ClaimSeven
namespace Go.Proofs.YtkclkieeapdeiaaDoor
namespace Rows

/-- THE TIED CARD OF 'laws.FnHeaps'. -/
def fnHeapsCard : Claim7 := { stood := { row := fnHeapsRow, standIns := [], harness := (true, "a8eafbfc6a053e5e273986d6708389c75ea53ee1ccdce3ec3e73355b1f563406"), looks := false }, kinds := [], alts := [], laidByText := true, laidKinds := [.data, .data, .data], laidTests := true, laidLooks := .later }
def FnHeapsCardSaid : Prop := Claim7.holds Tryd.pinned (.plain (OpenSpec.ofChange fnHeapsSpec)) fnHeapsCard

/-- THE SECOND FORM's CARD OF 'laws.FnHeaps'. -/
def fnHeapsUptoCard : Claim7 := { stood := { row := fnHeapsUptoRow, standIns := [], harness := (true, "a8eafbfc6a053e5e273986d6708389c75ea53ee1ccdce3ec3e73355b1f563406"), looks := false }, kinds := [], alts := [], laidByText := true, laidKinds := [.data, .data, .data], laidTests := true, laidLooks := .later }
def FnHeapsUptoCardSaid : Prop := Claim7.holds Tryd.pinned (.plain (OpenSpec.upto fnHeapsSpec)) fnHeapsUptoCard
end Rows
end Go.Proofs.YtkclkieeapdeiaaDoor

/-
  DERIVED. GIVEN WITH THE SEED: THE CARDS: each row of YtfelkhckpfjgjaaGreatDoorRows.lean that lists a variable, with what it lists TIED to the program's text (the seventh form; the later family's looks); each row that meets fmt, with fmt's text TOLD by the authors' own Lean function (tested against real Go, not proved from fmt's source: count such statements apart). THE CARD IS WHAT COUNTS. Prove the row's statement (the work); the ties are given (YtfelkhckpfjgjaaGreatDoorTie.lean); close each card by the builder's one call (the guide's Derived/Test/ToyasCard.lean, 'card_holds'). Laid BY PROGRAM, IN A SANDBOX (cutbox-door.mjs). By AI agents, Wed Nov 11 2026. No macro, syntax, notation, axiom, sorry.
-/
import Derived.Test.YtfelkhckpfjgjaaGreatDoorRows
import GoSem.ClaimSeven
namespace Go.Proofs.YtfelkhckpfjgjaaGreatDoor
namespace Rows

/-- THE TIED CARD OF 'laws.FnStructures'. -/
def fnStructuresCard : Claim7 := { stood := { row := fnStructuresRow, standIns := [], harness := (true, "dbed855de7293b4bc6c214b69bb56a4d7884818e621d11f4c8736fc47df8ce99"), looks := false }, kinds := [], alts := [], laidByText := true, laidKinds := [.data, .data, .data], laidTests := true, laidLooks := .later }
def FnStructuresCardSaid : Prop := Claim7.holds Tryz.pinned (.plain (OpenSpec.ofChange fnStructuresSpec)) fnStructuresCard

/-- THE SECOND FORM's CARD OF 'laws.FnStructures'. -/
def fnStructuresUptoCard : Claim7 := { stood := { row := fnStructuresUptoRow, standIns := [], harness := (true, "dbed855de7293b4bc6c214b69bb56a4d7884818e621d11f4c8736fc47df8ce99"), looks := false }, kinds := [], alts := [], laidByText := true, laidKinds := [.data, .data, .data], laidTests := true, laidLooks := .later }
def FnStructuresUptoCardSaid : Prop := Claim7.holds Tryz.pinned (.plain (OpenSpec.upto fnStructuresSpec)) fnStructuresUptoCard
end Rows
end Go.Proofs.YtfelkhckpfjgjaaGreatDoor

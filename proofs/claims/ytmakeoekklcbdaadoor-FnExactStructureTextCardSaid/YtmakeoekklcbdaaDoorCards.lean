/-
  DERIVED. GIVEN WITH THE SEED: THE CARDS: each row of YtmakeoekklcbdaaDoorRows.lean that lists a variable, with what it lists TIED to the program's text (the seventh form; the later family's looks); each row that meets fmt, with fmt's text TOLD by the authors' own Lean function (tested against real Go, not proved from fmt's source: count such statements apart). THE CARD IS WHAT COUNTS. Prove the row's statement (the work); the ties are given (YtmakeoekklcbdaaDoorTie.lean); close each card by the builder's one call (the guide's Derived/Test/ToyasCard.lean, 'card_holds'). Laid BY PROGRAM, IN A SANDBOX (cutbox-door.mjs). By AI agents, Wed Nov 11 2026. No macro, syntax, notation, axiom, sorry.
-/
import Derived.Test.YtmakeoekklcbdaaDoorRows
import GoSem.ClaimSeven
namespace Go.Proofs.YtmakeoekklcbdaaDoor
namespace Rows

/-- THE TIED CARD OF 'laws.FnExactSetKey'. -/
def fnExactSetKeyCard : Claim7 := { stood := { row := fnExactSetKeyRow, standIns := [], harness := (true, "df61efd7aa9859462d452ee409d9d4a551ea7f82590222a8a79d131c877cb7cd"), looks := false }, kinds := [], alts := [], laidByText := true, laidKinds := [.data, .data, .data], laidTests := true, laidLooks := .later }
def FnExactSetKeyCardSaid : Prop := Claim7.holds Tryd.pinned (.plain (OpenSpec.ofChange fnExactSetKeySpec)) fnExactSetKeyCard

/-- THE TIED CARD OF 'laws.FnExactStructureText'. -/
def fnExactStructureTextCard : Claim7 := { stood := { row := fnExactStructureTextRow, standIns := [], harness := (true, "df61efd7aa9859462d452ee409d9d4a551ea7f82590222a8a79d131c877cb7cd"), looks := false }, kinds := [], alts := [], laidByText := true, laidKinds := [.data, .data, .data], laidTests := true, laidLooks := .later }
def FnExactStructureTextCardSaid : Prop := Claim7.holds Tryd.pinned (.plain (OpenSpec.ofChange fnExactStructureTextSpec)) fnExactStructureTextCard

/-- THE SECOND FORM's CARD OF 'laws.FnExactSetKey'. -/
def fnExactSetKeyUptoCard : Claim7 := { stood := { row := fnExactSetKeyUptoRow, standIns := [], harness := (true, "df61efd7aa9859462d452ee409d9d4a551ea7f82590222a8a79d131c877cb7cd"), looks := false }, kinds := [], alts := [], laidByText := true, laidKinds := [.data, .data, .data], laidTests := true, laidLooks := .later }
def FnExactSetKeyUptoCardSaid : Prop := Claim7.holds Tryd.pinned (.plain (OpenSpec.upto fnExactSetKeySpec)) fnExactSetKeyUptoCard

/-- THE SECOND FORM's CARD OF 'laws.FnExactStructureText'. -/
def fnExactStructureTextUptoCard : Claim7 := { stood := { row := fnExactStructureTextUptoRow, standIns := [], harness := (true, "df61efd7aa9859462d452ee409d9d4a551ea7f82590222a8a79d131c877cb7cd"), looks := false }, kinds := [], alts := [], laidByText := true, laidKinds := [.data, .data, .data], laidTests := true, laidLooks := .later }
def FnExactStructureTextUptoCardSaid : Prop := Claim7.holds Tryd.pinned (.plain (OpenSpec.upto fnExactStructureTextSpec)) fnExactStructureTextUptoCard
end Rows
end Go.Proofs.YtmakeoekklcbdaaDoor

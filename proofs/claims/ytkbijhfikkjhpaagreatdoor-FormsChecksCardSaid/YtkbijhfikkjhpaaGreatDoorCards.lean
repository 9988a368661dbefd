/-
  DERIVED. GIVEN WITH THE SEED: THE CARDS: each row of YtkbijhfikkjhpaaGreatDoorRows.lean that lists a variable, with what it lists TIED to the program's text (the seventh form; the later family's looks); each row that meets fmt, with fmt's text TOLD by the authors' own Lean function (tested against real Go, not proved from fmt's source: count such statements apart). THE CARD IS WHAT COUNTS. Prove the row's statement (the work); the ties are given (YtkbijhfikkjhpaaGreatDoorTie.lean); close each card by the builder's one call (the guide's Derived/Test/ToyasCard.lean, 'card_holds'). Laid BY PROGRAM, IN A SANDBOX (cutbox-door.mjs). By AI agents, Wed Nov 11 2026. No macro, syntax, notation, axiom, sorry.
-/
import Derived.Test.YtkbijhfikkjhpaaGreatDoorRows
import GoSem.ClaimSeven
namespace Go.Proofs.YtkbijhfikkjhpaaGreatDoor
namespace Rows

/-- THE TIED CARD OF 'gangwaylaw03.FormsChecks'. -/
def formsChecksCard : Claim7 := { stood := { row := formsChecksRow, standIns := [], harness := (true, "cc9fba8ffc0ff8c0ac4293fc6df66f21171fa9570b17923329715e67457b91cd"), looks := false }, kinds := [], alts := [], laidByText := true, laidKinds := [.data, .data, .data], laidTests := true, laidLooks := .later }
def FormsChecksCardSaid : Prop := Claim7.holds Tryz.pinned (.plain (OpenSpec.ofChange formsChecksSpec)) formsChecksCard

/-- THE SECOND FORM's CARD OF 'gangwaylaw03.FormsChecks'. -/
def formsChecksUptoCard : Claim7 := { stood := { row := formsChecksUptoRow, standIns := [], harness := (true, "cc9fba8ffc0ff8c0ac4293fc6df66f21171fa9570b17923329715e67457b91cd"), looks := false }, kinds := [], alts := [], laidByText := true, laidKinds := [.data, .data, .data], laidTests := true, laidLooks := .later }
def FormsChecksUptoCardSaid : Prop := Claim7.holds Tryz.pinned (.plain (OpenSpec.upto formsChecksSpec)) formsChecksUptoCard
end Rows
end Go.Proofs.YtkbijhfikkjhpaaGreatDoor

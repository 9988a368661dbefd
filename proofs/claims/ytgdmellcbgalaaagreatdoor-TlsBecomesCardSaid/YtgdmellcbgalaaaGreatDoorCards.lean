/-
  DERIVED. GIVEN WITH THE SEED: THE CARDS: each row of YtgdmellcbgalaaaGreatDoorRows.lean that lists a variable, with what it lists TIED to the program's text (the seventh form; the later family's looks); each row that meets fmt, with fmt's text TOLD by the authors' own Lean function (tested against real Go, not proved from fmt's source: count such statements apart). THE CARD IS WHAT COUNTS. Prove the row's statement (the work); the ties are given (YtgdmellcbgalaaaGreatDoorTie.lean); close each card by the builder's one call (the guide's Derived/Test/ToyasCard.lean, 'card_holds'). Laid BY PROGRAM, IN A SANDBOX (cutbox-door.mjs). By AI agents, Wed Nov 11 2026. No macro, syntax, notation, axiom, sorry.
-/
import Derived.Test.YtgdmellcbgalaaaGreatDoorRows
import GoSem.ClaimSeven
namespace Go.Proofs.YtgdmellcbgalaaaGreatDoor
namespace Rows

/-- THE TIED CARD OF 'gangwaylaw21.TlsBecomes'. -/
def tlsBecomesCard : Claim7 := { stood := { row := tlsBecomesRow, standIns := [], harness := (true, "ca7bf5d31897a2d3d737bcff08458877f907e1c595fa3fba9ae5b10ae91abadb"), looks := true }, kinds := [], alts := [], laidByText := true, laidKinds := [.data, .data, .data], laidTests := true, laidLooks := .later }
def TlsBecomesCardSaid : Prop := Claim7.holds Tryz.pinned (.plain (OpenSpec.ofChange tlsBecomesSpec)) tlsBecomesCard

/-- THE SECOND FORM's CARD OF 'gangwaylaw21.TlsBecomes'. -/
def tlsBecomesUptoCard : Claim7 := { stood := { row := tlsBecomesUptoRow, standIns := [], harness := (true, "ca7bf5d31897a2d3d737bcff08458877f907e1c595fa3fba9ae5b10ae91abadb"), looks := true }, kinds := [], alts := [], laidByText := true, laidKinds := [.data, .data, .data], laidTests := true, laidLooks := .later }
def TlsBecomesUptoCardSaid : Prop := Claim7.holds Tryz.pinned (.plain (OpenSpec.upto tlsBecomesSpec)) tlsBecomesUptoCard
end Rows
end Go.Proofs.YtgdmellcbgalaaaGreatDoor

/-
  DERIVED. GIVEN WITH THE SEED: THE CARDS: each row of YtaajhdkngiemlaaDoorRows.lean that lists a variable, with what it lists TIED to the program's text (the seventh form; the later family's looks); each row that meets fmt, with fmt's text TOLD by the authors' own Lean function (tested against real Go, not proved from fmt's source: count such statements apart). THE CARD IS WHAT COUNTS. Prove the row's statement (the work); the ties are given (YtaajhdkngiemlaaDoorTie.lean); close each card by the builder's one call (the guide's Derived/Test/ToyasCard.lean, 'card_holds'). Laid BY PROGRAM, IN A SANDBOX (cutbox-door.mjs). By AI agents, Wed Nov 11 2026. No macro, syntax, notation, axiom, sorry.
-/
import Derived.Test.YtaajhdkngiemlaaDoorRows
import GoSem.ClaimSeven
namespace Go.Proofs.YtaajhdkngiemlaaDoor
namespace Rows

/-- THE TIED CARD OF 'gangwaylaw03.FormsUses'. -/
def formsUsesCard : Claim7 := { stood := { row := formsUsesRow, standIns := [], harness := (true, "265712d426f9ff8f5a599541b077e69de650d06f84bc74b2eed2665edaebecbe"), looks := false }, kinds := [], alts := [], laidByText := true, laidKinds := [.data, .data, .data], laidTests := true, laidLooks := .later }
def FormsUsesCardSaid : Prop := Claim7.holds Tryd.pinned (.plain (OpenSpec.ofChange formsUsesSpec)) formsUsesCard

/-- THE TIED CARD OF 'gangwaylaw03.FormsStrict'. -/
def formsStrictCard : Claim7 := { stood := { row := formsStrictRow, standIns := [], harness := (true, "265712d426f9ff8f5a599541b077e69de650d06f84bc74b2eed2665edaebecbe"), looks := false }, kinds := [], alts := [], laidByText := true, laidKinds := [.data, .data, .data], laidTests := true, laidLooks := .later }
def FormsStrictCardSaid : Prop := Claim7.holds Tryd.pinned (.plain (OpenSpec.ofChange formsStrictSpec)) formsStrictCard

/-- THE TIED CARD OF 'gangwaylaw03.FormsNames'. -/
def formsNamesCard : Claim7 := { stood := { row := formsNamesRow, standIns := [], harness := (true, "265712d426f9ff8f5a599541b077e69de650d06f84bc74b2eed2665edaebecbe"), looks := false }, kinds := [], alts := [], laidByText := true, laidKinds := [.data, .data, .data], laidTests := true, laidLooks := .later }
def FormsNamesCardSaid : Prop := Claim7.holds Tryd.pinned (.plain (OpenSpec.ofChange formsNamesSpec)) formsNamesCard

/-- THE TIED CARD OF 'gangwaylaw03.FormsBack'. -/
def formsBackCard : Claim7 := { stood := { row := formsBackRow, standIns := [], harness := (true, "265712d426f9ff8f5a599541b077e69de650d06f84bc74b2eed2665edaebecbe"), looks := false }, kinds := [], alts := [], laidByText := true, laidKinds := [.data, .data, .data], laidTests := true, laidLooks := .later }
def FormsBackCardSaid : Prop := Claim7.holds Tryd.pinned (.plain (OpenSpec.ofChange formsBackSpec)) formsBackCard

/-- THE SECOND FORM's CARD OF 'gangwaylaw03.FormsUses'. -/
def formsUsesUptoCard : Claim7 := { stood := { row := formsUsesUptoRow, standIns := [], harness := (true, "265712d426f9ff8f5a599541b077e69de650d06f84bc74b2eed2665edaebecbe"), looks := false }, kinds := [], alts := [], laidByText := true, laidKinds := [.data, .data, .data], laidTests := true, laidLooks := .later }
def FormsUsesUptoCardSaid : Prop := Claim7.holds Tryd.pinned (.plain (OpenSpec.upto formsUsesSpec)) formsUsesUptoCard

/-- THE SECOND FORM's CARD OF 'gangwaylaw03.FormsStrict'. -/
def formsStrictUptoCard : Claim7 := { stood := { row := formsStrictUptoRow, standIns := [], harness := (true, "265712d426f9ff8f5a599541b077e69de650d06f84bc74b2eed2665edaebecbe"), looks := false }, kinds := [], alts := [], laidByText := true, laidKinds := [.data, .data, .data], laidTests := true, laidLooks := .later }
def FormsStrictUptoCardSaid : Prop := Claim7.holds Tryd.pinned (.plain (OpenSpec.upto formsStrictSpec)) formsStrictUptoCard

/-- THE SECOND FORM's CARD OF 'gangwaylaw03.FormsNames'. -/
def formsNamesUptoCard : Claim7 := { stood := { row := formsNamesUptoRow, standIns := [], harness := (true, "265712d426f9ff8f5a599541b077e69de650d06f84bc74b2eed2665edaebecbe"), looks := false }, kinds := [], alts := [], laidByText := true, laidKinds := [.data, .data, .data], laidTests := true, laidLooks := .later }
def FormsNamesUptoCardSaid : Prop := Claim7.holds Tryd.pinned (.plain (OpenSpec.upto formsNamesSpec)) formsNamesUptoCard

/-- THE SECOND FORM's CARD OF 'gangwaylaw03.FormsBack'. -/
def formsBackUptoCard : Claim7 := { stood := { row := formsBackUptoRow, standIns := [], harness := (true, "265712d426f9ff8f5a599541b077e69de650d06f84bc74b2eed2665edaebecbe"), looks := false }, kinds := [], alts := [], laidByText := true, laidKinds := [.data, .data, .data], laidTests := true, laidLooks := .later }
def FormsBackUptoCardSaid : Prop := Claim7.holds Tryd.pinned (.plain (OpenSpec.upto formsBackSpec)) formsBackUptoCard
end Rows
end Go.Proofs.YtaajhdkngiemlaaDoor

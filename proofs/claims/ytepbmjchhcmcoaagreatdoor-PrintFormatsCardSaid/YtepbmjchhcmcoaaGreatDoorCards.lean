/-
  DERIVED. GIVEN WITH THE SEED: THE CARDS: each row of YtepbmjchhcmcoaaGreatDoorRows.lean that lists a variable, with what it lists TIED to the program's text (the seventh form; the later family's looks); each row that meets fmt, with fmt's text TOLD by the authors' own Lean function (tested against real Go, not proved from fmt's source: count such statements apart). THE CARD IS WHAT COUNTS. Prove the row's statement (the work); the ties are given (YtepbmjchhcmcoaaGreatDoorTie.lean); close each card by the builder's one call (the guide's Derived/Test/ToyasCard.lean, 'card_holds'). Laid BY PROGRAM, IN A SANDBOX (cutbox-door.mjs). By AI agents, Wed Nov 11 2026. No macro, syntax, notation, axiom, sorry.
-/
import Derived.Test.YtepbmjchhcmcoaaGreatDoorRows
import GoSem.ClaimSeven
namespace Go.Proofs.YtepbmjchhcmcoaaGreatDoor
namespace Rows

/-- THE TIED CARD OF 'castingslaw09.PrintApart'. -/
def printApartCard : Claim7 := { stood := { row := printApartRow, standIns := [], harness := (true, "4c1a7c7ede52b2e19b4364fef9e3ca4a005a884d4bd1e33464a296ba05aef983"), looks := true }, kinds := [], alts := [], laidByText := true, laidKinds := [.widerDeep], laidTests := true, laidLooks := .later }
def PrintApartCardSaid : Prop := Claim7.holds Tryz.pinned (.plain (OpenSpec.ofChange printApartSpec)) printApartCard

/-- THE TIED CARD OF 'castingslaw09.PrintParts'. -/
def printPartsCard : Claim7 := { stood := { row := printPartsRow, standIns := [], harness := (true, "4c1a7c7ede52b2e19b4364fef9e3ca4a005a884d4bd1e33464a296ba05aef983"), looks := true }, kinds := [], alts := [], laidByText := true, laidKinds := [.widerDeep], laidTests := true, laidLooks := .later }
def PrintPartsCardSaid : Prop := Claim7.holds Tryz.pinned (.plain (OpenSpec.ofChange printPartsSpec)) printPartsCard

/-- THE TIED CARD OF 'castingslaw09.PrintFormats'. -/
def printFormatsCard : Claim7 := { stood := { row := printFormatsRow, standIns := [], harness := (true, "4c1a7c7ede52b2e19b4364fef9e3ca4a005a884d4bd1e33464a296ba05aef983"), looks := true }, kinds := [], alts := [], laidByText := true, laidKinds := [.handle, .widerDeep], laidTests := true, laidLooks := .later }
def PrintFormatsCardSaid : Prop := Claim7.holds Tryz.pinned (.plain (OpenSpec.ofChange printFormatsSpec)) printFormatsCard

/-- THE SECOND FORM's CARD OF 'castingslaw09.PrintApart'. -/
def printApartUptoCard : Claim7 := { stood := { row := printApartUptoRow, standIns := [], harness := (true, "4c1a7c7ede52b2e19b4364fef9e3ca4a005a884d4bd1e33464a296ba05aef983"), looks := true }, kinds := [], alts := [], laidByText := true, laidKinds := [.widerDeep], laidTests := true, laidLooks := .later }
def PrintApartUptoCardSaid : Prop := Claim7.holds Tryz.pinned (.plain (OpenSpec.upto printApartSpec)) printApartUptoCard

/-- THE SECOND FORM's CARD OF 'castingslaw09.PrintParts'. -/
def printPartsUptoCard : Claim7 := { stood := { row := printPartsUptoRow, standIns := [], harness := (true, "4c1a7c7ede52b2e19b4364fef9e3ca4a005a884d4bd1e33464a296ba05aef983"), looks := true }, kinds := [], alts := [], laidByText := true, laidKinds := [.widerDeep], laidTests := true, laidLooks := .later }
def PrintPartsUptoCardSaid : Prop := Claim7.holds Tryz.pinned (.plain (OpenSpec.upto printPartsSpec)) printPartsUptoCard

/-- THE SECOND FORM's CARD OF 'castingslaw09.PrintFormats'. -/
def printFormatsUptoCard : Claim7 := { stood := { row := printFormatsUptoRow, standIns := [], harness := (true, "4c1a7c7ede52b2e19b4364fef9e3ca4a005a884d4bd1e33464a296ba05aef983"), looks := true }, kinds := [], alts := [], laidByText := true, laidKinds := [.handle, .widerDeep], laidTests := true, laidLooks := .later }
def PrintFormatsUptoCardSaid : Prop := Claim7.holds Tryz.pinned (.plain (OpenSpec.upto printFormatsSpec)) printFormatsUptoCard
end Rows
end Go.Proofs.YtepbmjchhcmcoaaGreatDoor

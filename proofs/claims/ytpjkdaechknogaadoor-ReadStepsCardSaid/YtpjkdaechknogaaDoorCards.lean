/-
  DERIVED. GIVEN WITH THE SEED: THE CARDS: each row of YtpjkdaechknogaaDoorRows.lean that lists a variable, with what it lists TIED to the program's text (the seventh form; the later family's looks); each row that meets fmt, with fmt's text TOLD by the authors' own Lean function (tested against real Go, not proved from fmt's source: count such statements apart). THE CARD IS WHAT COUNTS. Prove the row's statement (the work); the ties are given (YtpjkdaechknogaaDoorTie.lean); close each card by the builder's one call (the guide's Derived/Test/ToyasCard.lean, 'card_holds'). Laid BY PROGRAM, IN A SANDBOX (cutbox-door.mjs). By AI agents, Wed Nov 11 2026. No macro, syntax, notation, axiom, sorry.
-/
import Derived.Test.YtpjkdaechknogaaDoorRows
import GoSem.ClaimSeven
namespace Go.Proofs.YtpjkdaechknogaaDoor
namespace Rows

/-- THE TIED CARD OF 'castingslaw07.ReadBack'. -/
def readBackCard : Claim7 := { stood := { row := readBackRow, standIns := [], harness := (true, "3633d927288a4fd60a553bab11b8b0c8bf43f926e6ca84acb5c02fd6b0636381"), looks := true }, kinds := [], alts := [], laidByText := true, laidKinds := [.handle, .widerDeep], laidTests := true, laidLooks := .later }
def ReadBackCardSaid : Prop := Claim7.holds Tryd.pinned (.plain (OpenSpec.ofChange readBackSpec)) readBackCard

/-- THE TIED CARD OF 'castingslaw07.ReadSpaces'. -/
def readSpacesCard : Claim7 := { stood := { row := readSpacesRow, standIns := [], harness := (true, "3633d927288a4fd60a553bab11b8b0c8bf43f926e6ca84acb5c02fd6b0636381"), looks := true }, kinds := [], alts := [], laidByText := true, laidKinds := [.handle, .widerDeep], laidTests := true, laidLooks := .later }
def ReadSpacesCardSaid : Prop := Claim7.holds Tryd.pinned (.plain (OpenSpec.ofChange readSpacesSpec)) readSpacesCard

/-- THE TIED CARD OF 'castingslaw07.ReadSteps'. -/
def readStepsCard : Claim7 := { stood := { row := readStepsRow, standIns := [], harness := (true, "3633d927288a4fd60a553bab11b8b0c8bf43f926e6ca84acb5c02fd6b0636381"), looks := true }, kinds := [], alts := [], laidByText := true, laidKinds := [.handle, .widerDeep], laidTests := true, laidLooks := .later }
def ReadStepsCardSaid : Prop := Claim7.holds Tryd.pinned (.plain (OpenSpec.ofChange readStepsSpec)) readStepsCard

/-- THE TIED CARD OF 'castingslaw07.ReadTypes'. -/
def readTypesCard : Claim7 := { stood := { row := readTypesRow, standIns := [], harness := (true, "3633d927288a4fd60a553bab11b8b0c8bf43f926e6ca84acb5c02fd6b0636381"), looks := true }, kinds := [], alts := [], laidByText := true, laidKinds := [.handle, .widerDeep], laidTests := true, laidLooks := .later }
def ReadTypesCardSaid : Prop := Claim7.holds Tryd.pinned (.plain (OpenSpec.ofChange readTypesSpec)) readTypesCard

/-- THE SECOND FORM's CARD OF 'castingslaw07.ReadBack'. -/
def readBackUptoCard : Claim7 := { stood := { row := readBackUptoRow, standIns := [], harness := (true, "3633d927288a4fd60a553bab11b8b0c8bf43f926e6ca84acb5c02fd6b0636381"), looks := true }, kinds := [], alts := [], laidByText := true, laidKinds := [.handle, .widerDeep], laidTests := true, laidLooks := .later }
def ReadBackUptoCardSaid : Prop := Claim7.holds Tryd.pinned (.plain (OpenSpec.upto readBackSpec)) readBackUptoCard

/-- THE SECOND FORM's CARD OF 'castingslaw07.ReadSpaces'. -/
def readSpacesUptoCard : Claim7 := { stood := { row := readSpacesUptoRow, standIns := [], harness := (true, "3633d927288a4fd60a553bab11b8b0c8bf43f926e6ca84acb5c02fd6b0636381"), looks := true }, kinds := [], alts := [], laidByText := true, laidKinds := [.handle, .widerDeep], laidTests := true, laidLooks := .later }
def ReadSpacesUptoCardSaid : Prop := Claim7.holds Tryd.pinned (.plain (OpenSpec.upto readSpacesSpec)) readSpacesUptoCard

/-- THE SECOND FORM's CARD OF 'castingslaw07.ReadSteps'. -/
def readStepsUptoCard : Claim7 := { stood := { row := readStepsUptoRow, standIns := [], harness := (true, "3633d927288a4fd60a553bab11b8b0c8bf43f926e6ca84acb5c02fd6b0636381"), looks := true }, kinds := [], alts := [], laidByText := true, laidKinds := [.handle, .widerDeep], laidTests := true, laidLooks := .later }
def ReadStepsUptoCardSaid : Prop := Claim7.holds Tryd.pinned (.plain (OpenSpec.upto readStepsSpec)) readStepsUptoCard

/-- THE SECOND FORM's CARD OF 'castingslaw07.ReadTypes'. -/
def readTypesUptoCard : Claim7 := { stood := { row := readTypesUptoRow, standIns := [], harness := (true, "3633d927288a4fd60a553bab11b8b0c8bf43f926e6ca84acb5c02fd6b0636381"), looks := true }, kinds := [], alts := [], laidByText := true, laidKinds := [.handle, .widerDeep], laidTests := true, laidLooks := .later }
def ReadTypesUptoCardSaid : Prop := Claim7.holds Tryd.pinned (.plain (OpenSpec.upto readTypesSpec)) readTypesUptoCard
end Rows
end Go.Proofs.YtpjkdaechknogaaDoor

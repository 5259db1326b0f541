/-
  DERIVED. GIVEN WITH THE SEED: THE CARDS: each row of YtpjkdaechknogaaGreatDoorRows.lean that lists a variable, with what it lists TIED to the program's text (the seventh form; the later family's looks); each row that meets fmt, with fmt's text TOLD by the authors' own Lean function (tested against real Go, not proved from fmt's source: count such statements apart). THE CARD IS WHAT COUNTS. Prove the row's statement (the work); the ties are given (YtpjkdaechknogaaGreatDoorTie.lean); close each card by the builder's one call (the guide's Derived/Test/ToyasCard.lean, 'card_holds'). Laid BY PROGRAM, IN A SANDBOX (cutbox-door.mjs). By AI agents, Wed Nov 11 2026. No macro, syntax, notation, axiom, sorry.
-/
import Derived.Test.YtpjkdaechknogaaGreatDoorRows
import GoSem.ClaimSeven
namespace Go.Proofs.YtpjkdaechknogaaGreatDoor
namespace Rows

/-- THE TIED CARD OF 'castingslaw07.ReadMatchesReference'. -/
def readMatchesReferenceCard : Claim7 := { stood := { row := readMatchesReferenceRow, standIns := [], harness := (true, "1ea695c56de2829286cd1e15b77c4e9d70f44356dfa5c27ef00320cb6e684d80"), looks := true }, kinds := [], alts := [], laidByText := true, laidKinds := [.handle, .widerDeep], laidTests := true, laidLooks := .later }
def ReadMatchesReferenceCardSaid : Prop := Claim7.holds Tryz.pinned (.plain (OpenSpec.ofChange readMatchesReferenceSpec)) readMatchesReferenceCard

/-- THE SECOND FORM's CARD OF 'castingslaw07.ReadMatchesReference'. -/
def readMatchesReferenceUptoCard : Claim7 := { stood := { row := readMatchesReferenceUptoRow, standIns := [], harness := (true, "1ea695c56de2829286cd1e15b77c4e9d70f44356dfa5c27ef00320cb6e684d80"), looks := true }, kinds := [], alts := [], laidByText := true, laidKinds := [.handle, .widerDeep], laidTests := true, laidLooks := .later }
def ReadMatchesReferenceUptoCardSaid : Prop := Claim7.holds Tryz.pinned (.plain (OpenSpec.upto readMatchesReferenceSpec)) readMatchesReferenceUptoCard
end Rows
end Go.Proofs.YtpjkdaechknogaaGreatDoor

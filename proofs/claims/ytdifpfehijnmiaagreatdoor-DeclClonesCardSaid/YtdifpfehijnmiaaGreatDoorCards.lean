/-
  DERIVED. GIVEN WITH THE SEED: THE CARDS: each row of YtdifpfehijnmiaaGreatDoorRows.lean that lists a variable, with what it lists TIED to the program's text (the seventh form; the later family's looks); each row that meets fmt, with fmt's text TOLD by the authors' own Lean function (tested against real Go, not proved from fmt's source: count such statements apart). THE CARD IS WHAT COUNTS. Prove the row's statement (the work); the ties are given (YtdifpfehijnmiaaGreatDoorTie.lean); close each card by the builder's one call (the guide's Derived/Test/ToyasCard.lean, 'card_holds'). Laid BY PROGRAM, IN A SANDBOX (cutbox-door.mjs). By AI agents, Wed Nov 11 2026. No macro, syntax, notation, axiom, sorry.
-/
import Derived.Test.YtdifpfehijnmiaaGreatDoorRows
import GoSem.ClaimSeven
namespace Go.Proofs.YtdifpfehijnmiaaGreatDoor
namespace Rows

/-- THE TIED CARD OF 'castingslaw06.DeclParts'. -/
def declPartsCard : Claim7 := { stood := { row := declPartsRow, standIns := [], harness := (true, "3782dd6d890b683a75b7a9facf6654c9eaf86720c83cac0c6512efa2de526b6d"), looks := false }, kinds := [], alts := [], laidByText := true, laidKinds := [.widerDeep], laidTests := true, laidLooks := .later }
def DeclPartsCardSaid : Prop := Claim7.holds Tryz.pinned (.plain (OpenSpec.ofChange declPartsSpec)) declPartsCard

/-- THE TIED CARD OF 'castingslaw06.DeclTypes'. -/
def declTypesCard : Claim7 := { stood := { row := declTypesRow, standIns := [], harness := (true, "3782dd6d890b683a75b7a9facf6654c9eaf86720c83cac0c6512efa2de526b6d"), looks := false }, kinds := [], alts := [], laidByText := true, laidKinds := [.widerDeep], laidTests := true, laidLooks := .later }
def DeclTypesCardSaid : Prop := Claim7.holds Tryz.pinned (.plain (OpenSpec.ofChange declTypesSpec)) declTypesCard

/-- THE TIED CARD OF 'castingslaw06.DeclPlain'. -/
def declPlainCard : Claim7 := { stood := { row := declPlainRow, standIns := [], harness := (true, "3782dd6d890b683a75b7a9facf6654c9eaf86720c83cac0c6512efa2de526b6d"), looks := false }, kinds := [], alts := [], laidByText := true, laidKinds := [.widerDeep], laidTests := true, laidLooks := .later }
def DeclPlainCardSaid : Prop := Claim7.holds Tryz.pinned (.plain (OpenSpec.ofChange declPlainSpec)) declPlainCard

/-- THE TIED CARD OF 'castingslaw06.DeclClones'. -/
def declClonesCard : Claim7 := { stood := { row := declClonesRow, standIns := [], harness := (true, "3782dd6d890b683a75b7a9facf6654c9eaf86720c83cac0c6512efa2de526b6d"), looks := false }, kinds := [], alts := [], laidByText := true, laidKinds := [.widerDeep], laidTests := true, laidLooks := .later }
def DeclClonesCardSaid : Prop := Claim7.holds Tryz.pinned (.plain (OpenSpec.ofChange declClonesSpec)) declClonesCard

/-- THE SECOND FORM's CARD OF 'castingslaw06.DeclParts'. -/
def declPartsUptoCard : Claim7 := { stood := { row := declPartsUptoRow, standIns := [], harness := (true, "3782dd6d890b683a75b7a9facf6654c9eaf86720c83cac0c6512efa2de526b6d"), looks := false }, kinds := [], alts := [], laidByText := true, laidKinds := [.widerDeep], laidTests := true, laidLooks := .later }
def DeclPartsUptoCardSaid : Prop := Claim7.holds Tryz.pinned (.plain (OpenSpec.upto declPartsSpec)) declPartsUptoCard

/-- THE SECOND FORM's CARD OF 'castingslaw06.DeclTypes'. -/
def declTypesUptoCard : Claim7 := { stood := { row := declTypesUptoRow, standIns := [], harness := (true, "3782dd6d890b683a75b7a9facf6654c9eaf86720c83cac0c6512efa2de526b6d"), looks := false }, kinds := [], alts := [], laidByText := true, laidKinds := [.widerDeep], laidTests := true, laidLooks := .later }
def DeclTypesUptoCardSaid : Prop := Claim7.holds Tryz.pinned (.plain (OpenSpec.upto declTypesSpec)) declTypesUptoCard

/-- THE SECOND FORM's CARD OF 'castingslaw06.DeclPlain'. -/
def declPlainUptoCard : Claim7 := { stood := { row := declPlainUptoRow, standIns := [], harness := (true, "3782dd6d890b683a75b7a9facf6654c9eaf86720c83cac0c6512efa2de526b6d"), looks := false }, kinds := [], alts := [], laidByText := true, laidKinds := [.widerDeep], laidTests := true, laidLooks := .later }
def DeclPlainUptoCardSaid : Prop := Claim7.holds Tryz.pinned (.plain (OpenSpec.upto declPlainSpec)) declPlainUptoCard

/-- THE SECOND FORM's CARD OF 'castingslaw06.DeclClones'. -/
def declClonesUptoCard : Claim7 := { stood := { row := declClonesUptoRow, standIns := [], harness := (true, "3782dd6d890b683a75b7a9facf6654c9eaf86720c83cac0c6512efa2de526b6d"), looks := false }, kinds := [], alts := [], laidByText := true, laidKinds := [.widerDeep], laidTests := true, laidLooks := .later }
def DeclClonesUptoCardSaid : Prop := Claim7.holds Tryz.pinned (.plain (OpenSpec.upto declClonesSpec)) declClonesUptoCard
end Rows
end Go.Proofs.YtdifpfehijnmiaaGreatDoor

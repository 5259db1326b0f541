/-
  DERIVED. GIVEN WITH THE SEED: THE CARDS: each row of YtjkabaejabibnaaDoorRows.lean that lists a variable, with what it lists TIED to the program's text (the seventh form; the later family's looks); each row that meets fmt, with fmt's text TOLD by the authors' own Lean function (tested against real Go, not proved from fmt's source: count such statements apart). THE CARD IS WHAT COUNTS. Prove the row's statement (the work); the ties are given (YtjkabaejabibnaaDoorTie.lean); close each card by the builder's one call (the guide's Derived/Test/ToyasCard.lean, 'card_holds'). Laid BY PROGRAM, IN A SANDBOX (cutbox-door.mjs). By AI agents, Wed Nov 11 2026. No macro, syntax, notation, axiom, sorry.
-/
import Derived.Test.YtjkabaejabibnaaDoorRows
import GoSem.ClaimSeven
namespace Go.Proofs.YtjkabaejabibnaaDoor
namespace Rows

/-- THE TIED CARD OF 'castingslaw05.ExprMatchesReference'. -/
def exprMatchesReferenceCard : Claim7 := { stood := { row := exprMatchesReferenceRow, standIns := [], harness := (true, "6161edd29f81d43e416b66b9238938f0c0bee83463c92838335053f7d02810a1"), looks := false }, kinds := [], alts := [], laidByText := true, laidKinds := [.widerDeep], laidTests := true, laidLooks := .later }
def ExprMatchesReferenceCardSaid : Prop := Claim7.holds Tryd.pinned (.plain (OpenSpec.ofChange exprMatchesReferenceSpec)) exprMatchesReferenceCard

/-- THE TIED CARD OF 'castingslaw05.ExprSubstitutes'. -/
def exprSubstitutesCard : Claim7 := { stood := { row := exprSubstitutesRow, standIns := [], harness := (true, "6161edd29f81d43e416b66b9238938f0c0bee83463c92838335053f7d02810a1"), looks := false }, kinds := [], alts := [], laidByText := true, laidKinds := [.widerDeep], laidTests := true, laidLooks := .later }
def ExprSubstitutesCardSaid : Prop := Claim7.holds Tryd.pinned (.plain (OpenSpec.ofChange exprSubstitutesSpec)) exprSubstitutesCard

/-- THE TIED CARD OF 'castingslaw05.ExprReplaces'. -/
def exprReplacesCard : Claim7 := { stood := { row := exprReplacesRow, standIns := [], harness := (true, "6161edd29f81d43e416b66b9238938f0c0bee83463c92838335053f7d02810a1"), looks := false }, kinds := [], alts := [], laidByText := true, laidKinds := [.widerDeep], laidTests := true, laidLooks := .later }
def ExprReplacesCardSaid : Prop := Claim7.holds Tryd.pinned (.plain (OpenSpec.ofChange exprReplacesSpec)) exprReplacesCard

/-- THE TIED CARD OF 'castingslaw05.ExprWalks'. -/
def exprWalksCard : Claim7 := { stood := { row := exprWalksRow, standIns := [], harness := (true, "6161edd29f81d43e416b66b9238938f0c0bee83463c92838335053f7d02810a1"), looks := false }, kinds := [], alts := [], laidByText := true, laidKinds := [.widerDeep], laidTests := true, laidLooks := .later }
def ExprWalksCardSaid : Prop := Claim7.holds Tryd.pinned (.plain (OpenSpec.ofChange exprWalksSpec)) exprWalksCard

/-- THE TIED CARD OF 'castingslaw05.ExprShares'. -/
def exprSharesCard : Claim7 := { stood := { row := exprSharesRow, standIns := [], harness := (true, "6161edd29f81d43e416b66b9238938f0c0bee83463c92838335053f7d02810a1"), looks := false }, kinds := [], alts := [], laidByText := true, laidKinds := [.widerDeep], laidTests := true, laidLooks := .later }
def ExprSharesCardSaid : Prop := Claim7.holds Tryd.pinned (.plain (OpenSpec.ofChange exprSharesSpec)) exprSharesCard

/-- THE SECOND FORM's CARD OF 'castingslaw05.ExprMatchesReference'. -/
def exprMatchesReferenceUptoCard : Claim7 := { stood := { row := exprMatchesReferenceUptoRow, standIns := [], harness := (true, "6161edd29f81d43e416b66b9238938f0c0bee83463c92838335053f7d02810a1"), looks := false }, kinds := [], alts := [], laidByText := true, laidKinds := [.widerDeep], laidTests := true, laidLooks := .later }
def ExprMatchesReferenceUptoCardSaid : Prop := Claim7.holds Tryd.pinned (.plain (OpenSpec.upto exprMatchesReferenceSpec)) exprMatchesReferenceUptoCard

/-- THE SECOND FORM's CARD OF 'castingslaw05.ExprSubstitutes'. -/
def exprSubstitutesUptoCard : Claim7 := { stood := { row := exprSubstitutesUptoRow, standIns := [], harness := (true, "6161edd29f81d43e416b66b9238938f0c0bee83463c92838335053f7d02810a1"), looks := false }, kinds := [], alts := [], laidByText := true, laidKinds := [.widerDeep], laidTests := true, laidLooks := .later }
def ExprSubstitutesUptoCardSaid : Prop := Claim7.holds Tryd.pinned (.plain (OpenSpec.upto exprSubstitutesSpec)) exprSubstitutesUptoCard

/-- THE SECOND FORM's CARD OF 'castingslaw05.ExprReplaces'. -/
def exprReplacesUptoCard : Claim7 := { stood := { row := exprReplacesUptoRow, standIns := [], harness := (true, "6161edd29f81d43e416b66b9238938f0c0bee83463c92838335053f7d02810a1"), looks := false }, kinds := [], alts := [], laidByText := true, laidKinds := [.widerDeep], laidTests := true, laidLooks := .later }
def ExprReplacesUptoCardSaid : Prop := Claim7.holds Tryd.pinned (.plain (OpenSpec.upto exprReplacesSpec)) exprReplacesUptoCard

/-- THE SECOND FORM's CARD OF 'castingslaw05.ExprWalks'. -/
def exprWalksUptoCard : Claim7 := { stood := { row := exprWalksUptoRow, standIns := [], harness := (true, "6161edd29f81d43e416b66b9238938f0c0bee83463c92838335053f7d02810a1"), looks := false }, kinds := [], alts := [], laidByText := true, laidKinds := [.widerDeep], laidTests := true, laidLooks := .later }
def ExprWalksUptoCardSaid : Prop := Claim7.holds Tryd.pinned (.plain (OpenSpec.upto exprWalksSpec)) exprWalksUptoCard

/-- THE SECOND FORM's CARD OF 'castingslaw05.ExprShares'. -/
def exprSharesUptoCard : Claim7 := { stood := { row := exprSharesUptoRow, standIns := [], harness := (true, "6161edd29f81d43e416b66b9238938f0c0bee83463c92838335053f7d02810a1"), looks := false }, kinds := [], alts := [], laidByText := true, laidKinds := [.widerDeep], laidTests := true, laidLooks := .later }
def ExprSharesUptoCardSaid : Prop := Claim7.holds Tryd.pinned (.plain (OpenSpec.upto exprSharesSpec)) exprSharesUptoCard
end Rows
end Go.Proofs.YtjkabaejabibnaaDoor

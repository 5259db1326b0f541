/-
  DERIVED. GIVEN WITH THE SEED: THE CARDS: each row of YtocmdbojefgpbaaGreatDoorRows.lean that lists a variable, with what it lists TIED to the program's text (the seventh form; the later family's looks); each row that meets fmt, with fmt's text TOLD by the authors' own Lean function (tested against real Go, not proved from fmt's source: count such statements apart). THE CARD IS WHAT COUNTS. Prove the row's statement (the work); the ties are given (YtocmdbojefgpbaaGreatDoorTie.lean); close each card by the builder's one call (the guide's Derived/Test/ToyasCard.lean, 'card_holds'). Laid BY PROGRAM, IN A SANDBOX (cutbox-door.mjs). By AI agents, Wed Nov 11 2026. No macro, syntax, notation, axiom, sorry.
-/
import Derived.Test.YtocmdbojefgpbaaGreatDoorRows
import GoSem.ClaimSeven
namespace Go.Proofs.YtocmdbojefgpbaaGreatDoor
namespace Rows

/-- THE TIED CARD OF 'castingslaw20.MangleMatchesReference'. -/
def mangleMatchesReferenceCard : Claim7 := { stood := { row := mangleMatchesReferenceRow, standIns := [], harness := (true, "dfea51d50c2c3392a18b46d55aeced06c48ecd687061a84884cc27c04a3cea56"), looks := true }, kinds := [], alts := [], laidByText := true, laidKinds := [.data, .data, .data, .data, .sentinel, .sentinel, .widerDeep, .pinned], laidTests := true, laidLooks := .later }
def MangleMatchesReferenceCardSaid : Prop := Claim7.holds Tryz.pinned (.plain (OpenSpec.ofChange mangleMatchesReferenceSpec)) mangleMatchesReferenceCard

/-- THE TIED CARD OF 'castingslaw20.MangleMethods'. -/
def mangleMethodsCard : Claim7 := { stood := { row := mangleMethodsRow, standIns := [], harness := (true, "dfea51d50c2c3392a18b46d55aeced06c48ecd687061a84884cc27c04a3cea56"), looks := true }, kinds := [], alts := [], laidByText := true, laidKinds := [.data, .data, .data, .data, .sentinel, .sentinel, .widerDeep, .pinned], laidTests := true, laidLooks := .later }
def MangleMethodsCardSaid : Prop := Claim7.holds Tryz.pinned (.plain (OpenSpec.ofChange mangleMethodsSpec)) mangleMethodsCard

/-- THE TIED CARD OF 'castingslaw20.MangleNames'. -/
def mangleNamesCard : Claim7 := { stood := { row := mangleNamesRow, standIns := [], harness := (true, "dfea51d50c2c3392a18b46d55aeced06c48ecd687061a84884cc27c04a3cea56"), looks := true }, kinds := [], alts := [], laidByText := true, laidKinds := [.data, .data, .data, .data, .sentinel, .sentinel, .widerDeep, .pinned], laidTests := true, laidLooks := .later }
def MangleNamesCardSaid : Prop := Claim7.holds Tryz.pinned (.plain (OpenSpec.ofChange mangleNamesSpec)) mangleNamesCard

/-- THE TIED CARD OF 'castingslaw20.MangleApart'. -/
def mangleApartCard : Claim7 := { stood := { row := mangleApartRow, standIns := [], harness := (true, "dfea51d50c2c3392a18b46d55aeced06c48ecd687061a84884cc27c04a3cea56"), looks := true }, kinds := [], alts := [], laidByText := true, laidKinds := [.data, .data, .data, .data, .sentinel, .sentinel, .widerDeep, .pinned], laidTests := true, laidLooks := .later }
def MangleApartCardSaid : Prop := Claim7.holds Tryz.pinned (.plain (OpenSpec.ofChange mangleApartSpec)) mangleApartCard

/-- THE SECOND FORM's CARD OF 'castingslaw20.MangleMatchesReference'. -/
def mangleMatchesReferenceUptoCard : Claim7 := { stood := { row := mangleMatchesReferenceUptoRow, standIns := [], harness := (true, "dfea51d50c2c3392a18b46d55aeced06c48ecd687061a84884cc27c04a3cea56"), looks := true }, kinds := [], alts := [], laidByText := true, laidKinds := [.data, .data, .data, .data, .sentinel, .sentinel, .widerDeep, .pinned], laidTests := true, laidLooks := .later }
def MangleMatchesReferenceUptoCardSaid : Prop := Claim7.holds Tryz.pinned (.plain (OpenSpec.upto mangleMatchesReferenceSpec)) mangleMatchesReferenceUptoCard

/-- THE SECOND FORM's CARD OF 'castingslaw20.MangleMethods'. -/
def mangleMethodsUptoCard : Claim7 := { stood := { row := mangleMethodsUptoRow, standIns := [], harness := (true, "dfea51d50c2c3392a18b46d55aeced06c48ecd687061a84884cc27c04a3cea56"), looks := true }, kinds := [], alts := [], laidByText := true, laidKinds := [.data, .data, .data, .data, .sentinel, .sentinel, .widerDeep, .pinned], laidTests := true, laidLooks := .later }
def MangleMethodsUptoCardSaid : Prop := Claim7.holds Tryz.pinned (.plain (OpenSpec.upto mangleMethodsSpec)) mangleMethodsUptoCard

/-- THE SECOND FORM's CARD OF 'castingslaw20.MangleNames'. -/
def mangleNamesUptoCard : Claim7 := { stood := { row := mangleNamesUptoRow, standIns := [], harness := (true, "dfea51d50c2c3392a18b46d55aeced06c48ecd687061a84884cc27c04a3cea56"), looks := true }, kinds := [], alts := [], laidByText := true, laidKinds := [.data, .data, .data, .data, .sentinel, .sentinel, .widerDeep, .pinned], laidTests := true, laidLooks := .later }
def MangleNamesUptoCardSaid : Prop := Claim7.holds Tryz.pinned (.plain (OpenSpec.upto mangleNamesSpec)) mangleNamesUptoCard

/-- THE SECOND FORM's CARD OF 'castingslaw20.MangleApart'. -/
def mangleApartUptoCard : Claim7 := { stood := { row := mangleApartUptoRow, standIns := [], harness := (true, "dfea51d50c2c3392a18b46d55aeced06c48ecd687061a84884cc27c04a3cea56"), looks := true }, kinds := [], alts := [], laidByText := true, laidKinds := [.data, .data, .data, .data, .sentinel, .sentinel, .widerDeep, .pinned], laidTests := true, laidLooks := .later }
def MangleApartUptoCardSaid : Prop := Claim7.holds Tryz.pinned (.plain (OpenSpec.upto mangleApartSpec)) mangleApartUptoCard
end Rows
end Go.Proofs.YtocmdbojefgpbaaGreatDoor

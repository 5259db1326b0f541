/-
  DERIVED. GIVEN WITH THE SEED: THE CARDS: each row of YtghmdnfdocdgfaaDoorRows.lean that lists a variable, with what it lists TIED to the program's text (the seventh form; the later family's looks); each row that meets fmt, with fmt's text TOLD by the authors' own Lean function (tested against real Go, not proved from fmt's source: count such statements apart). THE CARD IS WHAT COUNTS. Prove the row's statement (the work); the ties are given (YtghmdnfdocdgfaaDoorTie.lean); close each card by the builder's one call (the guide's Derived/Test/ToyasCard.lean, 'card_holds'). Laid BY PROGRAM, IN A SANDBOX (cutbox-door.mjs). By AI agents, Wed Nov 11 2026. No macro, syntax, notation, axiom, sorry.
-/
import Derived.Test.YtghmdnfdocdgfaaDoorRows
import GoSem.ClaimSeven
namespace Go.Proofs.YtghmdnfdocdgfaaDoor
namespace Rows

/-- THE TIED CARD OF 'castingslaw04.TypesMatchReference'. -/
def typesMatchReferenceCard : Claim7 := { stood := { row := typesMatchReferenceRow, standIns := [], harness := (true, "4b63965077cfe368be9b9bc79e4d1efcdc23bdb0da525aeddfc67647a23de6d9"), looks := false }, kinds := [], alts := [], laidByText := true, laidKinds := [.widerDeep], laidTests := true, laidLooks := .later }
def TypesMatchReferenceCardSaid : Prop := Claim7.holds Tryd.pinned (.plain (OpenSpec.ofChange typesMatchReferenceSpec)) typesMatchReferenceCard

/-- THE TIED CARD OF 'castingslaw04.TypesSubstitute'. -/
def typesSubstituteCard : Claim7 := { stood := { row := typesSubstituteRow, standIns := [], harness := (true, "4b63965077cfe368be9b9bc79e4d1efcdc23bdb0da525aeddfc67647a23de6d9"), looks := false }, kinds := [], alts := [], laidByText := true, laidKinds := [.widerDeep], laidTests := true, laidLooks := .later }
def TypesSubstituteCardSaid : Prop := Claim7.holds Tryd.pinned (.plain (OpenSpec.ofChange typesSubstituteSpec)) typesSubstituteCard

/-- THE TIED CARD OF 'castingslaw04.TypesNames'. -/
def typesNamesCard : Claim7 := { stood := { row := typesNamesRow, standIns := [], harness := (true, "4b63965077cfe368be9b9bc79e4d1efcdc23bdb0da525aeddfc67647a23de6d9"), looks := false }, kinds := [], alts := [], laidByText := true, laidKinds := [.widerDeep], laidTests := true, laidLooks := .later }
def TypesNamesCardSaid : Prop := Claim7.holds Tryd.pinned (.plain (OpenSpec.ofChange typesNamesSpec)) typesNamesCard

/-- THE TIED CARD OF 'castingslaw04.TypesShare'. -/
def typesShareCard : Claim7 := { stood := { row := typesShareRow, standIns := [], harness := (true, "4b63965077cfe368be9b9bc79e4d1efcdc23bdb0da525aeddfc67647a23de6d9"), looks := false }, kinds := [], alts := [], laidByText := true, laidKinds := [.widerDeep], laidTests := true, laidLooks := .later }
def TypesShareCardSaid : Prop := Claim7.holds Tryd.pinned (.plain (OpenSpec.ofChange typesShareSpec)) typesShareCard

/-- THE TIED CARD OF 'castingslaw04.TypesOrder'. -/
def typesOrderCard : Claim7 := { stood := { row := typesOrderRow, standIns := [], harness := (true, "4b63965077cfe368be9b9bc79e4d1efcdc23bdb0da525aeddfc67647a23de6d9"), looks := false }, kinds := [], alts := [], laidByText := true, laidKinds := [.widerDeep], laidTests := true, laidLooks := .later }
def TypesOrderCardSaid : Prop := Claim7.holds Tryd.pinned (.plain (OpenSpec.ofChange typesOrderSpec)) typesOrderCard

/-- THE TIED CARD OF 'castingslaw04.TypesIdentity'. -/
def typesIdentityCard : Claim7 := { stood := { row := typesIdentityRow, standIns := [], harness := (true, "4b63965077cfe368be9b9bc79e4d1efcdc23bdb0da525aeddfc67647a23de6d9"), looks := false }, kinds := [], alts := [], laidByText := true, laidKinds := [.widerDeep], laidTests := true, laidLooks := .later }
def TypesIdentityCardSaid : Prop := Claim7.holds Tryd.pinned (.plain (OpenSpec.ofChange typesIdentitySpec)) typesIdentityCard

/-- THE SECOND FORM's CARD OF 'castingslaw04.TypesMatchReference'. -/
def typesMatchReferenceUptoCard : Claim7 := { stood := { row := typesMatchReferenceUptoRow, standIns := [], harness := (true, "4b63965077cfe368be9b9bc79e4d1efcdc23bdb0da525aeddfc67647a23de6d9"), looks := false }, kinds := [], alts := [], laidByText := true, laidKinds := [.widerDeep], laidTests := true, laidLooks := .later }
def TypesMatchReferenceUptoCardSaid : Prop := Claim7.holds Tryd.pinned (.plain (OpenSpec.upto typesMatchReferenceSpec)) typesMatchReferenceUptoCard

/-- THE SECOND FORM's CARD OF 'castingslaw04.TypesSubstitute'. -/
def typesSubstituteUptoCard : Claim7 := { stood := { row := typesSubstituteUptoRow, standIns := [], harness := (true, "4b63965077cfe368be9b9bc79e4d1efcdc23bdb0da525aeddfc67647a23de6d9"), looks := false }, kinds := [], alts := [], laidByText := true, laidKinds := [.widerDeep], laidTests := true, laidLooks := .later }
def TypesSubstituteUptoCardSaid : Prop := Claim7.holds Tryd.pinned (.plain (OpenSpec.upto typesSubstituteSpec)) typesSubstituteUptoCard

/-- THE SECOND FORM's CARD OF 'castingslaw04.TypesNames'. -/
def typesNamesUptoCard : Claim7 := { stood := { row := typesNamesUptoRow, standIns := [], harness := (true, "4b63965077cfe368be9b9bc79e4d1efcdc23bdb0da525aeddfc67647a23de6d9"), looks := false }, kinds := [], alts := [], laidByText := true, laidKinds := [.widerDeep], laidTests := true, laidLooks := .later }
def TypesNamesUptoCardSaid : Prop := Claim7.holds Tryd.pinned (.plain (OpenSpec.upto typesNamesSpec)) typesNamesUptoCard

/-- THE SECOND FORM's CARD OF 'castingslaw04.TypesShare'. -/
def typesShareUptoCard : Claim7 := { stood := { row := typesShareUptoRow, standIns := [], harness := (true, "4b63965077cfe368be9b9bc79e4d1efcdc23bdb0da525aeddfc67647a23de6d9"), looks := false }, kinds := [], alts := [], laidByText := true, laidKinds := [.widerDeep], laidTests := true, laidLooks := .later }
def TypesShareUptoCardSaid : Prop := Claim7.holds Tryd.pinned (.plain (OpenSpec.upto typesShareSpec)) typesShareUptoCard

/-- THE SECOND FORM's CARD OF 'castingslaw04.TypesOrder'. -/
def typesOrderUptoCard : Claim7 := { stood := { row := typesOrderUptoRow, standIns := [], harness := (true, "4b63965077cfe368be9b9bc79e4d1efcdc23bdb0da525aeddfc67647a23de6d9"), looks := false }, kinds := [], alts := [], laidByText := true, laidKinds := [.widerDeep], laidTests := true, laidLooks := .later }
def TypesOrderUptoCardSaid : Prop := Claim7.holds Tryd.pinned (.plain (OpenSpec.upto typesOrderSpec)) typesOrderUptoCard

/-- THE SECOND FORM's CARD OF 'castingslaw04.TypesIdentity'. -/
def typesIdentityUptoCard : Claim7 := { stood := { row := typesIdentityUptoRow, standIns := [], harness := (true, "4b63965077cfe368be9b9bc79e4d1efcdc23bdb0da525aeddfc67647a23de6d9"), looks := false }, kinds := [], alts := [], laidByText := true, laidKinds := [.widerDeep], laidTests := true, laidLooks := .later }
def TypesIdentityUptoCardSaid : Prop := Claim7.holds Tryd.pinned (.plain (OpenSpec.upto typesIdentitySpec)) typesIdentityUptoCard
end Rows
end Go.Proofs.YtghmdnfdocdgfaaDoor

/-
  DERIVED. GIVEN WITH THE SEED: THE CARDS: each row of YtngpggbigjeehaaDoorRows.lean that lists a variable, with what it lists TIED to the program's text (the seventh form; the later family's looks); each row that meets fmt, with fmt's text TOLD by the authors' own Lean function (tested against real Go, not proved from fmt's source: count such statements apart). THE CARD IS WHAT COUNTS. Prove the row's statement (the work); the ties are given (YtngpggbigjeehaaDoorTie.lean); close each card by the builder's one call (the guide's Derived/Test/ToyasCard.lean, 'card_holds'). Laid BY PROGRAM, IN A SANDBOX (cutbox-door.mjs). By AI agents, Wed Nov 11 2026. No macro, syntax, notation, axiom, sorry.
-/
import Derived.Test.YtngpggbigjeehaaDoorRows
import GoSem.ClaimSeven
namespace Go.Proofs.YtngpggbigjeehaaDoor
namespace Rows

/-- THE TIED CARD OF 'castingslaw01.NameMatchesReference'. -/
def nameMatchesReferenceCard : Claim7 := { stood := { row := nameMatchesReferenceRow, standIns := [], harness := (true, "c1f85a63cf6ffb4582df7fb87878de00571cbfcfb6e67a5610d0cf17b092b50a"), looks := true }, kinds := [], alts := [], laidByText := true, laidKinds := [.data, .data, .data, .sentinel, .sentinel, .widerDeep], laidTests := true, laidLooks := .later }
def NameMatchesReferenceCardSaid : Prop := Claim7.holds Tryd.pinned (.plain (OpenSpec.ofChange nameMatchesReferenceSpec)) nameMatchesReferenceCard

/-- THE TIED CARD OF 'castingslaw01.NameLocals'. -/
def nameLocalsCard : Claim7 := { stood := { row := nameLocalsRow, standIns := [], harness := (true, "c1f85a63cf6ffb4582df7fb87878de00571cbfcfb6e67a5610d0cf17b092b50a"), looks := true }, kinds := [], alts := [], laidByText := true, laidKinds := [.data, .data, .data, .sentinel, .sentinel, .widerDeep], laidTests := true, laidLooks := .later }
def NameLocalsCardSaid : Prop := Claim7.holds Tryd.pinned (.plain (OpenSpec.ofChange nameLocalsSpec)) nameLocalsCard

/-- THE TIED CARD OF 'castingslaw01.NameIndexes'. -/
def nameIndexesCard : Claim7 := { stood := { row := nameIndexesRow, standIns := [], harness := (true, "c1f85a63cf6ffb4582df7fb87878de00571cbfcfb6e67a5610d0cf17b092b50a"), looks := true }, kinds := [], alts := [], laidByText := true, laidKinds := [.data, .data, .data, .sentinel, .sentinel, .widerDeep], laidTests := true, laidLooks := .later }
def NameIndexesCardSaid : Prop := Claim7.holds Tryd.pinned (.plain (OpenSpec.ofChange nameIndexesSpec)) nameIndexesCard

/-- THE TIED CARD OF 'castingslaw01.NameOrders'. -/
def nameOrdersCard : Claim7 := { stood := { row := nameOrdersRow, standIns := [], harness := (true, "c1f85a63cf6ffb4582df7fb87878de00571cbfcfb6e67a5610d0cf17b092b50a"), looks := true }, kinds := [], alts := [], laidByText := true, laidKinds := [.data, .data, .data, .sentinel, .sentinel, .widerDeep], laidTests := true, laidLooks := .later }
def NameOrdersCardSaid : Prop := Claim7.holds Tryd.pinned (.plain (OpenSpec.ofChange nameOrdersSpec)) nameOrdersCard

/-- THE SECOND FORM's CARD OF 'castingslaw01.NameMatchesReference'. -/
def nameMatchesReferenceUptoCard : Claim7 := { stood := { row := nameMatchesReferenceUptoRow, standIns := [], harness := (true, "c1f85a63cf6ffb4582df7fb87878de00571cbfcfb6e67a5610d0cf17b092b50a"), looks := true }, kinds := [], alts := [], laidByText := true, laidKinds := [.data, .data, .data, .sentinel, .sentinel, .widerDeep], laidTests := true, laidLooks := .later }
def NameMatchesReferenceUptoCardSaid : Prop := Claim7.holds Tryd.pinned (.plain (OpenSpec.upto nameMatchesReferenceSpec)) nameMatchesReferenceUptoCard

/-- THE SECOND FORM's CARD OF 'castingslaw01.NameLocals'. -/
def nameLocalsUptoCard : Claim7 := { stood := { row := nameLocalsUptoRow, standIns := [], harness := (true, "c1f85a63cf6ffb4582df7fb87878de00571cbfcfb6e67a5610d0cf17b092b50a"), looks := true }, kinds := [], alts := [], laidByText := true, laidKinds := [.data, .data, .data, .sentinel, .sentinel, .widerDeep], laidTests := true, laidLooks := .later }
def NameLocalsUptoCardSaid : Prop := Claim7.holds Tryd.pinned (.plain (OpenSpec.upto nameLocalsSpec)) nameLocalsUptoCard

/-- THE SECOND FORM's CARD OF 'castingslaw01.NameIndexes'. -/
def nameIndexesUptoCard : Claim7 := { stood := { row := nameIndexesUptoRow, standIns := [], harness := (true, "c1f85a63cf6ffb4582df7fb87878de00571cbfcfb6e67a5610d0cf17b092b50a"), looks := true }, kinds := [], alts := [], laidByText := true, laidKinds := [.data, .data, .data, .sentinel, .sentinel, .widerDeep], laidTests := true, laidLooks := .later }
def NameIndexesUptoCardSaid : Prop := Claim7.holds Tryd.pinned (.plain (OpenSpec.upto nameIndexesSpec)) nameIndexesUptoCard

/-- THE SECOND FORM's CARD OF 'castingslaw01.NameOrders'. -/
def nameOrdersUptoCard : Claim7 := { stood := { row := nameOrdersUptoRow, standIns := [], harness := (true, "c1f85a63cf6ffb4582df7fb87878de00571cbfcfb6e67a5610d0cf17b092b50a"), looks := true }, kinds := [], alts := [], laidByText := true, laidKinds := [.data, .data, .data, .sentinel, .sentinel, .widerDeep], laidTests := true, laidLooks := .later }
def NameOrdersUptoCardSaid : Prop := Claim7.holds Tryd.pinned (.plain (OpenSpec.upto nameOrdersSpec)) nameOrdersUptoCard
end Rows
end Go.Proofs.YtngpggbigjeehaaDoor

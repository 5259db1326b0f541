/-
  DERIVED. GIVEN WITH THE SEED: THE CARDS: each row of YtfgafcjebfjepaaGreatDoorRows.lean that lists a variable, with what it lists TIED to the program's text (the seventh form; the later family's looks); each row that meets fmt, with fmt's text TOLD by the authors' own Lean function (tested against real Go, not proved from fmt's source: count such statements apart). THE CARD IS WHAT COUNTS. Prove the row's statement (the work); the ties are given (YtfgafcjebfjepaaGreatDoorTie.lean); close each card by the builder's one call (the guide's Derived/Test/ToyasCard.lean, 'card_holds'). Laid BY PROGRAM, IN A SANDBOX (cutbox-door.mjs). By AI agents, Wed Nov 11 2026. No macro, syntax, notation, axiom, sorry.
-/
import Derived.Test.YtfgafcjebfjepaaGreatDoorRows
import GoSem.ClaimSeven
namespace Go.Proofs.YtfgafcjebfjepaaGreatDoor
namespace Rows

/-- THE TIED CARD OF 'castingslaw08.ParseTrees'. -/
def parseTreesCard : Claim7 := { stood := { row := parseTreesRow, standIns := [], harness := (true, "8438d36311d96193d246e756057d05d4153b38474c3bd30a466aa964f6668e7b"), looks := true }, kinds := [], alts := [], laidByText := true, laidKinds := [.handle, .widerDeep], laidTests := true, laidLooks := .later }
def ParseTreesCardSaid : Prop := Claim7.holds Tryz.pinned (.plain (OpenSpec.ofChange parseTreesSpec)) parseTreesCard

/-- THE TIED CARD OF 'castingslaw08.ParseConcat'. -/
def parseConcatCard : Claim7 := { stood := { row := parseConcatRow, standIns := [], harness := (true, "8438d36311d96193d246e756057d05d4153b38474c3bd30a466aa964f6668e7b"), looks := true }, kinds := [], alts := [], laidByText := true, laidKinds := [.handle, .widerDeep], laidTests := true, laidLooks := .later }
def ParseConcatCardSaid : Prop := Claim7.holds Tryz.pinned (.plain (OpenSpec.ofChange parseConcatSpec)) parseConcatCard

/-- THE TIED CARD OF 'castingslaw08.ParseBlanks'. -/
def parseBlanksCard : Claim7 := { stood := { row := parseBlanksRow, standIns := [], harness := (true, "8438d36311d96193d246e756057d05d4153b38474c3bd30a466aa964f6668e7b"), looks := true }, kinds := [], alts := [], laidByText := true, laidKinds := [.handle, .widerDeep], laidTests := true, laidLooks := .later }
def ParseBlanksCardSaid : Prop := Claim7.holds Tryz.pinned (.plain (OpenSpec.ofChange parseBlanksSpec)) parseBlanksCard

/-- THE TIED CARD OF 'castingslaw08.ParseDecls'. -/
def parseDeclsCard : Claim7 := { stood := { row := parseDeclsRow, standIns := [], harness := (true, "8438d36311d96193d246e756057d05d4153b38474c3bd30a466aa964f6668e7b"), looks := true }, kinds := [], alts := [], laidByText := true, laidKinds := [.handle, .widerDeep], laidTests := true, laidLooks := .later }
def ParseDeclsCardSaid : Prop := Claim7.holds Tryz.pinned (.plain (OpenSpec.ofChange parseDeclsSpec)) parseDeclsCard

/-- THE TIED CARD OF 'castingslaw08.ParseMatchesReference'. -/
def parseMatchesReferenceCard : Claim7 := { stood := { row := parseMatchesReferenceRow, standIns := [], harness := (true, "8438d36311d96193d246e756057d05d4153b38474c3bd30a466aa964f6668e7b"), looks := true }, kinds := [], alts := [], laidByText := true, laidKinds := [.handle, .widerDeep], laidTests := true, laidLooks := .later }
def ParseMatchesReferenceCardSaid : Prop := Claim7.holds Tryz.pinned (.plain (OpenSpec.ofChange parseMatchesReferenceSpec)) parseMatchesReferenceCard

/-- THE SECOND FORM's CARD OF 'castingslaw08.ParseTrees'. -/
def parseTreesUptoCard : Claim7 := { stood := { row := parseTreesUptoRow, standIns := [], harness := (true, "8438d36311d96193d246e756057d05d4153b38474c3bd30a466aa964f6668e7b"), looks := true }, kinds := [], alts := [], laidByText := true, laidKinds := [.handle, .widerDeep], laidTests := true, laidLooks := .later }
def ParseTreesUptoCardSaid : Prop := Claim7.holds Tryz.pinned (.plain (OpenSpec.upto parseTreesSpec)) parseTreesUptoCard

/-- THE SECOND FORM's CARD OF 'castingslaw08.ParseConcat'. -/
def parseConcatUptoCard : Claim7 := { stood := { row := parseConcatUptoRow, standIns := [], harness := (true, "8438d36311d96193d246e756057d05d4153b38474c3bd30a466aa964f6668e7b"), looks := true }, kinds := [], alts := [], laidByText := true, laidKinds := [.handle, .widerDeep], laidTests := true, laidLooks := .later }
def ParseConcatUptoCardSaid : Prop := Claim7.holds Tryz.pinned (.plain (OpenSpec.upto parseConcatSpec)) parseConcatUptoCard

/-- THE SECOND FORM's CARD OF 'castingslaw08.ParseBlanks'. -/
def parseBlanksUptoCard : Claim7 := { stood := { row := parseBlanksUptoRow, standIns := [], harness := (true, "8438d36311d96193d246e756057d05d4153b38474c3bd30a466aa964f6668e7b"), looks := true }, kinds := [], alts := [], laidByText := true, laidKinds := [.handle, .widerDeep], laidTests := true, laidLooks := .later }
def ParseBlanksUptoCardSaid : Prop := Claim7.holds Tryz.pinned (.plain (OpenSpec.upto parseBlanksSpec)) parseBlanksUptoCard

/-- THE SECOND FORM's CARD OF 'castingslaw08.ParseDecls'. -/
def parseDeclsUptoCard : Claim7 := { stood := { row := parseDeclsUptoRow, standIns := [], harness := (true, "8438d36311d96193d246e756057d05d4153b38474c3bd30a466aa964f6668e7b"), looks := true }, kinds := [], alts := [], laidByText := true, laidKinds := [.handle, .widerDeep], laidTests := true, laidLooks := .later }
def ParseDeclsUptoCardSaid : Prop := Claim7.holds Tryz.pinned (.plain (OpenSpec.upto parseDeclsSpec)) parseDeclsUptoCard

/-- THE SECOND FORM's CARD OF 'castingslaw08.ParseMatchesReference'. -/
def parseMatchesReferenceUptoCard : Claim7 := { stood := { row := parseMatchesReferenceUptoRow, standIns := [], harness := (true, "8438d36311d96193d246e756057d05d4153b38474c3bd30a466aa964f6668e7b"), looks := true }, kinds := [], alts := [], laidByText := true, laidKinds := [.handle, .widerDeep], laidTests := true, laidLooks := .later }
def ParseMatchesReferenceUptoCardSaid : Prop := Claim7.holds Tryz.pinned (.plain (OpenSpec.upto parseMatchesReferenceSpec)) parseMatchesReferenceUptoCard
end Rows
end Go.Proofs.YtfgafcjebfjepaaGreatDoor

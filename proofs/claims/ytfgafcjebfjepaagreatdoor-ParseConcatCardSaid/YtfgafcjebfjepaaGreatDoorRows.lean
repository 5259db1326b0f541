/-
  NARROWER THAN 'FOR EVERY INPUT', by the rows' own cells (each row's printed sentence says how): ParseTrees: laid · ParseConcat: laid · ParseBlanks: laid · ParseDecls: laid · ParseMatchesReference: laid.
  DERIVED. THE GIVEN ROWS OF THIS SEAT. 5 by the template 'for every input the law returns true; each argument reads behind the call as it read before'; 0 by the template 'total and deterministic' (their statements: YtfgafcjebfjepaaGreatDoorTotals.lean).
  GIVEN WITH THE SEED: the statements are not yours to turn. If you find one false, say at which input.
  Laid BY PROGRAM, IN A SANDBOX (cutbox-rows.mjs): the forced cells as the released guide's own fill.sh prints them over the translation 6637003b4e7a19a3… (all of the seat's roots in one cut). By AI agents, Wed Nov 11 2026. No macro, syntax, notation, axiom, sorry.
-/
import Derived.Test.YtfgafcjebfjepaaGreatDoorChecked
import GoSem.Claim
import GoSem.ClaimJoined
import GoSem.ClaimMapViews
import Derived.JoinedTies
import Derived.KernelRfl
namespace Go.Proofs.YtfgafcjebfjepaaGreatDoor
/- THE CELL 'sum', in the pinned program and in every row, IS THE sha256 OF THE DUMP (.gsa) THAT YtfgafcjebfjepaaGreatDoorProg.lean LOADS. Nothing in Lean hashes anything: it is a label: what it is worth is what the hold of that sum in a sandbox is worth. -/
noncomputable def Tryz.pinned : Pinned := { name := "ytfgafcjebfjepaagreatdoor", sum := "6637003b4e7a19a3133a5395a3358d52b3af0ddb3db697d86cc3b2f3095228b7", checked := Tryz.checked }
namespace Rows
def none {H : Type} : Left H := { results := [], args := [] }

/- WHAT THE LISTED PACKAGE-LEVEL VARIABLES READ AS WHEN THE CALL BEGINS. Each datum BY PROGRAM (the guide's laid-datum.mjs) off the statement by which the dump's own 'gosem.cut.vars' lays the variable. In a bare row this is a premise. The card (YtfgafcjebfjepaaGreatDoorCards.lean) ties it to the program's text. -/
def laid_errors_errorType {H : Type} : DataW H := .iface "internal/reflectlite.rtype" (.agg [.ptr (.lit (.string [101, 114, 114, 111, 114]))])
def laid_castings_name_reserved {H : Type} : DataW H := .agg [.lit (.string [112, 97, 99, 107, 97, 103, 101]), .lit (.string [109, 97, 105, 110]), .lit (.string [116, 121, 112, 101]), .lit (.string [115, 116, 114, 117, 99, 116]), .lit (.string [105, 110, 116, 101, 114, 102, 97, 99, 101]), .lit (.string [102, 117, 110, 99]), .lit (.string [114, 101, 116, 117, 114, 110])]

/-- 'castingslaw08.ParseTrees': WHATEVER THE INPUT: true; the input reads as it did. -/
def parseTreesSpec : ChangeSpec := { name := "parseTrees", fn := fun _ => fun
  | [d] => { results := [.lit (.bool true)], args := [d] }
  | _ => none }
def parseTreesRow : OpenClaim := { program := "ytfgafcjebfjepaagreatdoor", sum := "6637003b4e7a19a3133a5395a3358d52b3af0ddb3db697d86cc3b2f3095228b7", func := "castings/castingslaw08.ParseTrees", spec := "parseTrees", inPlace := ["internal/bytealg.IndexByteString", "internal/reflectlite.ValueOf", "(internal/reflectlite.Value).Type", "(internal/reflectlite.Value).IsNil", "internal/reflectlite.TypeOf", "(internal/reflectlite.Value).Elem", "(internal/reflectlite.Value).Set"], unfollowed := true, recurses := true, named := ["castings/name.reserved", "errors.errorType"], apart := false, laid := [("errors.errorType", laid_errors_errorType), ("castings/name.reserved", laid_castings_name_reserved)] }
def ParseTreesSaid : Prop := parseTreesRow.holds Tryz.pinned (OpenSpec.ofChange parseTreesSpec)

/-- ITS FALSE NEIGHBOUR: 'it returns false'. Refute it at one input. -/
def parseTreesWrong : ChangeSpec := { name := "parseTrees", fn := fun _ => fun
  | [d] => { results := [.lit (.bool false)], args := [d] }
  | _ => none }
def ParseTreesWrongFalsely : Prop := parseTreesRow.holds Tryz.pinned (OpenSpec.ofChange parseTreesWrong)

/-- 'castingslaw08.ParseConcat': WHATEVER THE INPUT: true; the input reads as it did. -/
def parseConcatSpec : ChangeSpec := { name := "parseConcat", fn := fun _ => fun
  | [d] => { results := [.lit (.bool true)], args := [d] }
  | _ => none }
def parseConcatRow : OpenClaim := { program := "ytfgafcjebfjepaagreatdoor", sum := "6637003b4e7a19a3133a5395a3358d52b3af0ddb3db697d86cc3b2f3095228b7", func := "castings/castingslaw08.ParseConcat", spec := "parseConcat", inPlace := ["internal/bytealg.IndexByteString", "internal/reflectlite.ValueOf", "(internal/reflectlite.Value).Type", "(internal/reflectlite.Value).IsNil", "internal/reflectlite.TypeOf", "(internal/reflectlite.Value).Elem", "(internal/reflectlite.Value).Set"], unfollowed := true, recurses := true, named := ["castings/name.reserved", "errors.errorType"], apart := false, laid := [("errors.errorType", laid_errors_errorType), ("castings/name.reserved", laid_castings_name_reserved)] }
def ParseConcatSaid : Prop := parseConcatRow.holds Tryz.pinned (OpenSpec.ofChange parseConcatSpec)

/-- ITS FALSE NEIGHBOUR: 'it returns false'. Refute it at one input. -/
def parseConcatWrong : ChangeSpec := { name := "parseConcat", fn := fun _ => fun
  | [d] => { results := [.lit (.bool false)], args := [d] }
  | _ => none }
def ParseConcatWrongFalsely : Prop := parseConcatRow.holds Tryz.pinned (OpenSpec.ofChange parseConcatWrong)

/-- 'castingslaw08.ParseBlanks': WHATEVER THE INPUT: true; the input reads as it did. -/
def parseBlanksSpec : ChangeSpec := { name := "parseBlanks", fn := fun _ => fun
  | [d] => { results := [.lit (.bool true)], args := [d] }
  | _ => none }
def parseBlanksRow : OpenClaim := { program := "ytfgafcjebfjepaagreatdoor", sum := "6637003b4e7a19a3133a5395a3358d52b3af0ddb3db697d86cc3b2f3095228b7", func := "castings/castingslaw08.ParseBlanks", spec := "parseBlanks", inPlace := ["internal/bytealg.IndexByteString", "internal/reflectlite.ValueOf", "(internal/reflectlite.Value).Type", "(internal/reflectlite.Value).IsNil", "internal/reflectlite.TypeOf", "(internal/reflectlite.Value).Elem", "(internal/reflectlite.Value).Set"], unfollowed := true, recurses := true, named := ["castings/name.reserved", "errors.errorType"], apart := false, laid := [("errors.errorType", laid_errors_errorType), ("castings/name.reserved", laid_castings_name_reserved)] }
def ParseBlanksSaid : Prop := parseBlanksRow.holds Tryz.pinned (OpenSpec.ofChange parseBlanksSpec)

/-- ITS FALSE NEIGHBOUR: 'it returns false'. Refute it at one input. -/
def parseBlanksWrong : ChangeSpec := { name := "parseBlanks", fn := fun _ => fun
  | [d] => { results := [.lit (.bool false)], args := [d] }
  | _ => none }
def ParseBlanksWrongFalsely : Prop := parseBlanksRow.holds Tryz.pinned (OpenSpec.ofChange parseBlanksWrong)

/-- 'castingslaw08.ParseDecls': WHATEVER THE INPUT: true; the input reads as it did. -/
def parseDeclsSpec : ChangeSpec := { name := "parseDecls", fn := fun _ => fun
  | [d] => { results := [.lit (.bool true)], args := [d] }
  | _ => none }
def parseDeclsRow : OpenClaim := { program := "ytfgafcjebfjepaagreatdoor", sum := "6637003b4e7a19a3133a5395a3358d52b3af0ddb3db697d86cc3b2f3095228b7", func := "castings/castingslaw08.ParseDecls", spec := "parseDecls", inPlace := ["internal/bytealg.IndexByteString", "internal/reflectlite.ValueOf", "(internal/reflectlite.Value).Type", "(internal/reflectlite.Value).IsNil", "internal/reflectlite.TypeOf", "(internal/reflectlite.Value).Elem", "(internal/reflectlite.Value).Set"], unfollowed := true, recurses := true, named := ["castings/name.reserved", "errors.errorType"], apart := false, laid := [("errors.errorType", laid_errors_errorType), ("castings/name.reserved", laid_castings_name_reserved)] }
def ParseDeclsSaid : Prop := parseDeclsRow.holds Tryz.pinned (OpenSpec.ofChange parseDeclsSpec)

/-- ITS FALSE NEIGHBOUR: 'it returns false'. Refute it at one input. -/
def parseDeclsWrong : ChangeSpec := { name := "parseDecls", fn := fun _ => fun
  | [d] => { results := [.lit (.bool false)], args := [d] }
  | _ => none }
def ParseDeclsWrongFalsely : Prop := parseDeclsRow.holds Tryz.pinned (OpenSpec.ofChange parseDeclsWrong)

/-- 'castingslaw08.ParseMatchesReference': WHATEVER THE INPUT: true; the input reads as it did. -/
def parseMatchesReferenceSpec : ChangeSpec := { name := "parseMatchesReference", fn := fun _ => fun
  | [d] => { results := [.lit (.bool true)], args := [d] }
  | _ => none }
def parseMatchesReferenceRow : OpenClaim := { program := "ytfgafcjebfjepaagreatdoor", sum := "6637003b4e7a19a3133a5395a3358d52b3af0ddb3db697d86cc3b2f3095228b7", func := "castings/castingslaw08.ParseMatchesReference", spec := "parseMatchesReference", inPlace := ["internal/bytealg.IndexByteString", "internal/reflectlite.ValueOf", "(internal/reflectlite.Value).Type", "(internal/reflectlite.Value).IsNil", "internal/reflectlite.TypeOf", "(internal/reflectlite.Value).Elem", "(internal/reflectlite.Value).Set"], unfollowed := true, recurses := true, named := ["castings/name.reserved", "errors.errorType"], apart := false, laid := [("errors.errorType", laid_errors_errorType), ("castings/name.reserved", laid_castings_name_reserved)] }
def ParseMatchesReferenceSaid : Prop := parseMatchesReferenceRow.holds Tryz.pinned (OpenSpec.ofChange parseMatchesReferenceSpec)

/-- ITS FALSE NEIGHBOUR: 'it returns false'. Refute it at one input. -/
def parseMatchesReferenceWrong : ChangeSpec := { name := "parseMatchesReference", fn := fun _ => fun
  | [d] => { results := [.lit (.bool false)], args := [d] }
  | _ => none }
def ParseMatchesReferenceWrongFalsely : Prop := parseMatchesReferenceRow.holds Tryz.pinned (OpenSpec.ofChange parseMatchesReferenceWrong)

/- THE SECOND FORM. 'bulk': how many values and letters a reading holds, each counted each time it is reached (what is shared counts as often as it is met; a slice's spare places count too). A statement '..UptoSaid' is the law's where the arguments, and the package variables that the reading takes, are together of bulk at most 1048576: NARROWER than '..Said'. Prove '..Said' where nothing that the law and all that it calls make is longer than what came in: it says more and counts as full. Else prove '..UptoSaid'. A law counts once. -/
mutual
def uptoBulk {H : Type} : DataW H → Nat
  | .lit (.string bytes) => bytes.length + 1
  | .lit _ => 1
  | .nil => 1
  | .ptr d => uptoBulk d + 1
  | .slice elems spare => uptoBulkAll elems + uptoBulkAll spare + 1
  | .agg parts => uptoBulkAll parts + 1
  | .iface _ d => uptoBulk d + 1
  | .map entries => uptoBulkEntries entries + 1
  | .held _ => 1
def uptoBulkAll {H : Type} : List (DataW H) → Nat
  | [] => 0
  | d :: r => uptoBulk d + uptoBulkAll r
def uptoBulkEntries {H : Type} : List (Lit × DataW H) → Nat
  | [] => 0
  | x :: r => uptoBulkEntry x + uptoBulkEntries r
def uptoBulkEntry {H : Type} : Lit × DataW H → Nat
  | (.string bytes, d) => bytes.length + uptoBulk d + 1
  | (_, d) => uptoBulk d + 1
 end
def uptoSmall : (H : Type) → List (DataW H) → Bool := fun _ ds => decide (uptoBulkAll ds ≤ 1048576)
def OpenSpec.upto (s : _root_.Go.ChangeSpec) : _root_.Go.OpenSpec := { _root_.Go.OpenSpec.ofChange s with cond := some uptoSmall }

/-- 'castingslaw08.ParseTrees', WHERE WHAT IT READS IS OF BULK AT MOST 1048576: true; the input reads as it did. -/
def parseTreesUptoRow : OpenClaim := { program := "ytfgafcjebfjepaagreatdoor", sum := "6637003b4e7a19a3133a5395a3358d52b3af0ddb3db697d86cc3b2f3095228b7", func := "castings/castingslaw08.ParseTrees", spec := "parseTrees", inPlace := ["internal/bytealg.IndexByteString", "internal/reflectlite.ValueOf", "(internal/reflectlite.Value).Type", "(internal/reflectlite.Value).IsNil", "internal/reflectlite.TypeOf", "(internal/reflectlite.Value).Elem", "(internal/reflectlite.Value).Set"], unfollowed := true, recurses := true, named := ["castings/name.reserved", "errors.errorType"], apart := false, laid := [("errors.errorType", laid_errors_errorType), ("castings/name.reserved", laid_castings_name_reserved)], narrowed := true }
def ParseTreesUptoSaid : Prop := parseTreesUptoRow.holds Tryz.pinned (OpenSpec.upto parseTreesSpec)

/-- 'castingslaw08.ParseConcat', WHERE WHAT IT READS IS OF BULK AT MOST 1048576: true; the input reads as it did. -/
def parseConcatUptoRow : OpenClaim := { program := "ytfgafcjebfjepaagreatdoor", sum := "6637003b4e7a19a3133a5395a3358d52b3af0ddb3db697d86cc3b2f3095228b7", func := "castings/castingslaw08.ParseConcat", spec := "parseConcat", inPlace := ["internal/bytealg.IndexByteString", "internal/reflectlite.ValueOf", "(internal/reflectlite.Value).Type", "(internal/reflectlite.Value).IsNil", "internal/reflectlite.TypeOf", "(internal/reflectlite.Value).Elem", "(internal/reflectlite.Value).Set"], unfollowed := true, recurses := true, named := ["castings/name.reserved", "errors.errorType"], apart := false, laid := [("errors.errorType", laid_errors_errorType), ("castings/name.reserved", laid_castings_name_reserved)], narrowed := true }
def ParseConcatUptoSaid : Prop := parseConcatUptoRow.holds Tryz.pinned (OpenSpec.upto parseConcatSpec)

/-- 'castingslaw08.ParseBlanks', WHERE WHAT IT READS IS OF BULK AT MOST 1048576: true; the input reads as it did. -/
def parseBlanksUptoRow : OpenClaim := { program := "ytfgafcjebfjepaagreatdoor", sum := "6637003b4e7a19a3133a5395a3358d52b3af0ddb3db697d86cc3b2f3095228b7", func := "castings/castingslaw08.ParseBlanks", spec := "parseBlanks", inPlace := ["internal/bytealg.IndexByteString", "internal/reflectlite.ValueOf", "(internal/reflectlite.Value).Type", "(internal/reflectlite.Value).IsNil", "internal/reflectlite.TypeOf", "(internal/reflectlite.Value).Elem", "(internal/reflectlite.Value).Set"], unfollowed := true, recurses := true, named := ["castings/name.reserved", "errors.errorType"], apart := false, laid := [("errors.errorType", laid_errors_errorType), ("castings/name.reserved", laid_castings_name_reserved)], narrowed := true }
def ParseBlanksUptoSaid : Prop := parseBlanksUptoRow.holds Tryz.pinned (OpenSpec.upto parseBlanksSpec)

/-- 'castingslaw08.ParseDecls', WHERE WHAT IT READS IS OF BULK AT MOST 1048576: true; the input reads as it did. -/
def parseDeclsUptoRow : OpenClaim := { program := "ytfgafcjebfjepaagreatdoor", sum := "6637003b4e7a19a3133a5395a3358d52b3af0ddb3db697d86cc3b2f3095228b7", func := "castings/castingslaw08.ParseDecls", spec := "parseDecls", inPlace := ["internal/bytealg.IndexByteString", "internal/reflectlite.ValueOf", "(internal/reflectlite.Value).Type", "(internal/reflectlite.Value).IsNil", "internal/reflectlite.TypeOf", "(internal/reflectlite.Value).Elem", "(internal/reflectlite.Value).Set"], unfollowed := true, recurses := true, named := ["castings/name.reserved", "errors.errorType"], apart := false, laid := [("errors.errorType", laid_errors_errorType), ("castings/name.reserved", laid_castings_name_reserved)], narrowed := true }
def ParseDeclsUptoSaid : Prop := parseDeclsUptoRow.holds Tryz.pinned (OpenSpec.upto parseDeclsSpec)

/-- 'castingslaw08.ParseMatchesReference', WHERE WHAT IT READS IS OF BULK AT MOST 1048576: true; the input reads as it did. -/
def parseMatchesReferenceUptoRow : OpenClaim := { program := "ytfgafcjebfjepaagreatdoor", sum := "6637003b4e7a19a3133a5395a3358d52b3af0ddb3db697d86cc3b2f3095228b7", func := "castings/castingslaw08.ParseMatchesReference", spec := "parseMatchesReference", inPlace := ["internal/bytealg.IndexByteString", "internal/reflectlite.ValueOf", "(internal/reflectlite.Value).Type", "(internal/reflectlite.Value).IsNil", "internal/reflectlite.TypeOf", "(internal/reflectlite.Value).Elem", "(internal/reflectlite.Value).Set"], unfollowed := true, recurses := true, named := ["castings/name.reserved", "errors.errorType"], apart := false, laid := [("errors.errorType", laid_errors_errorType), ("castings/name.reserved", laid_castings_name_reserved)], narrowed := true }
def ParseMatchesReferenceUptoSaid : Prop := parseMatchesReferenceUptoRow.holds Tryz.pinned (OpenSpec.upto parseMatchesReferenceSpec)

end Rows
end Go.Proofs.YtfgafcjebfjepaaGreatDoor

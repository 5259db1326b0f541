/-
  NARROWER THAN 'FOR EVERY INPUT', by the rows' own cells (each row's printed sentence says how): PrintApart: loops, laid · PrintParts: loops, laid · PrintFormats: laid.
  DERIVED. THE GIVEN ROWS OF THIS SEAT. 3 by the template 'for every input the law returns true; each argument reads behind the call as it read before'; 0 by the template 'total and deterministic' (their statements: YtepbmjchhcmcoaaGreatDoorTotals.lean).
  GIVEN WITH THE SEED: the statements are not yours to turn. If you find one false, say at which input.
  Laid BY PROGRAM, IN A SANDBOX (cutbox-rows.mjs): the forced cells as the released guide's own fill.sh prints them over the translation 2a2897d367ed4aa2… (all of the seat's roots in one cut). By AI agents, Wed Nov 11 2026. No macro, syntax, notation, axiom, sorry.
-/
import Derived.Test.YtepbmjchhcmcoaaGreatDoorChecked
import GoSem.Claim
import GoSem.ClaimJoined
import GoSem.ClaimMapViews
import Derived.JoinedTies
import Derived.KernelRfl
namespace Go.Proofs.YtepbmjchhcmcoaaGreatDoor
/- THE CELL 'sum', in the pinned program and in every row, IS THE sha256 OF THE DUMP (.gsa) THAT YtepbmjchhcmcoaaGreatDoorProg.lean LOADS. Nothing in Lean hashes anything: it is a label: what it is worth is what the hold of that sum in a sandbox is worth. -/
noncomputable def Tryz.pinned : Pinned := { name := "ytepbmjchhcmcoaagreatdoor", sum := "2a2897d367ed4aa21e8184bd7fc07b67202bc85dd7c2b70e2262f3a7c782fb6a", checked := Tryz.checked }
namespace Rows
def none {H : Type} : Left H := { results := [], args := [] }

/- WHAT THE LISTED PACKAGE-LEVEL VARIABLES READ AS WHEN THE CALL BEGINS. Each datum BY PROGRAM (the guide's laid-datum.mjs) off the statement by which the dump's own 'gosem.cut.vars' lays the variable. In a bare row this is a premise. The card (YtepbmjchhcmcoaaGreatDoorCards.lean) ties it to the program's text. -/
def laid_castings_name_reserved {H : Type} : DataW H := .agg [.lit (.string [112, 97, 99, 107, 97, 103, 101]), .lit (.string [109, 97, 105, 110]), .lit (.string [116, 121, 112, 101]), .lit (.string [115, 116, 114, 117, 99, 116]), .lit (.string [105, 110, 116, 101, 114, 102, 97, 99, 101]), .lit (.string [102, 117, 110, 99]), .lit (.string [114, 101, 116, 117, 114, 110])]
def laid_errors_errorType {H : Type} : DataW H := .iface "internal/reflectlite.rtype" (.agg [.ptr (.lit (.string [101, 114, 114, 111, 114]))])

/-- 'castingslaw09.PrintApart': WHATEVER THE INPUT: true; the input reads as it did. -/
def printApartSpec : ChangeSpec := { name := "printApart", fn := fun _ => fun
  | [d1, d2] => { results := [.lit (.bool true)], args := [d1, d2] }
  | _ => none }
def printApartRow : OpenClaim := { program := "ytepbmjchhcmcoaagreatdoor", sum := "2a2897d367ed4aa21e8184bd7fc07b67202bc85dd7c2b70e2262f3a7c782fb6a", func := "castings/castingslaw09.PrintApart", spec := "printApart", inPlace := ["internal/bytealg.IndexByteString", "internal/abi.NoEscape", "internal/bytealg.MakeNoZero"], unfollowed := true, recurses := true, named := ["castings/name.reserved"], loops := true, apart := false, laid := [("castings/name.reserved", laid_castings_name_reserved)] }
def PrintApartSaid : Prop := printApartRow.holds Tryz.pinned (OpenSpec.ofChange printApartSpec)

/-- ITS FALSE NEIGHBOUR: 'it returns false'. Refute it at one input. -/
def printApartWrong : ChangeSpec := { name := "printApart", fn := fun _ => fun
  | [d1, d2] => { results := [.lit (.bool false)], args := [d1, d2] }
  | _ => none }
def PrintApartWrongFalsely : Prop := printApartRow.holds Tryz.pinned (OpenSpec.ofChange printApartWrong)

/-- 'castingslaw09.PrintParts': WHATEVER THE INPUT: true; the input reads as it did. -/
def printPartsSpec : ChangeSpec := { name := "printParts", fn := fun _ => fun
  | [d] => { results := [.lit (.bool true)], args := [d] }
  | _ => none }
def printPartsRow : OpenClaim := { program := "ytepbmjchhcmcoaagreatdoor", sum := "2a2897d367ed4aa21e8184bd7fc07b67202bc85dd7c2b70e2262f3a7c782fb6a", func := "castings/castingslaw09.PrintParts", spec := "printParts", inPlace := ["internal/bytealg.IndexByteString", "internal/abi.NoEscape", "internal/bytealg.MakeNoZero"], unfollowed := true, recurses := true, named := ["castings/name.reserved"], loops := true, apart := false, laid := [("castings/name.reserved", laid_castings_name_reserved)] }
def PrintPartsSaid : Prop := printPartsRow.holds Tryz.pinned (OpenSpec.ofChange printPartsSpec)

/-- ITS FALSE NEIGHBOUR: 'it returns false'. Refute it at one input. -/
def printPartsWrong : ChangeSpec := { name := "printParts", fn := fun _ => fun
  | [d] => { results := [.lit (.bool false)], args := [d] }
  | _ => none }
def PrintPartsWrongFalsely : Prop := printPartsRow.holds Tryz.pinned (OpenSpec.ofChange printPartsWrong)

/-- 'castingslaw09.PrintFormats': WHATEVER THE INPUT: true; the input reads as it did. -/
def printFormatsSpec : ChangeSpec := { name := "printFormats", fn := fun _ => fun
  | [d] => { results := [.lit (.bool true)], args := [d] }
  | _ => none }
def printFormatsRow : OpenClaim := { program := "ytepbmjchhcmcoaagreatdoor", sum := "2a2897d367ed4aa21e8184bd7fc07b67202bc85dd7c2b70e2262f3a7c782fb6a", func := "castings/castingslaw09.PrintFormats", spec := "printFormats", inPlace := ["internal/bytealg.IndexByteString", "internal/abi.NoEscape", "internal/bytealg.MakeNoZero", "internal/reflectlite.ValueOf", "(internal/reflectlite.Value).Type", "(internal/reflectlite.Value).IsNil", "internal/reflectlite.TypeOf", "(internal/reflectlite.Value).Elem", "(internal/reflectlite.Value).Set"], unfollowed := true, recurses := true, named := ["castings/name.reserved", "errors.errorType"], apart := false, laid := [("errors.errorType", laid_errors_errorType), ("castings/name.reserved", laid_castings_name_reserved)] }
def PrintFormatsSaid : Prop := printFormatsRow.holds Tryz.pinned (OpenSpec.ofChange printFormatsSpec)

/-- ITS FALSE NEIGHBOUR: 'it returns false'. Refute it at one input. -/
def printFormatsWrong : ChangeSpec := { name := "printFormats", fn := fun _ => fun
  | [d] => { results := [.lit (.bool false)], args := [d] }
  | _ => none }
def PrintFormatsWrongFalsely : Prop := printFormatsRow.holds Tryz.pinned (OpenSpec.ofChange printFormatsWrong)

/- THE SECOND FORM. 'bulk': how many values and letters a reading holds, each counted each time it is reached (what is shared counts as often as it is met; a slice's spare places count too). A statement '..UptoSaid' is the law's where the arguments, and the package variables that the reading takes, are together of bulk at most 1048576: NARROWER than '..Said'. Prove '..Said' where nothing that the law and all that it calls make is longer than what came in: it says more and counts as full. Else prove '..UptoSaid'. A law counts once. -/
mutual
def uptoBulk {H : Type} : DataW H → Nat
  | .lit (.string bytes) => bytes.length + 1
  | .lit _ => 1
  | .nil => 1
  | .ptr d => uptoBulk d + 1
  | .slice elems spare => uptoBulkAll elems + uptoBulkAll spare + 1
  | .agg parts => uptoBulkAll parts + 1
  | .iface _ d => uptoBulk d + 1
  | .map entries => uptoBulkEntries entries + 1
  | .held _ => 1
def uptoBulkAll {H : Type} : List (DataW H) → Nat
  | [] => 0
  | d :: r => uptoBulk d + uptoBulkAll r
def uptoBulkEntries {H : Type} : List (Lit × DataW H) → Nat
  | [] => 0
  | x :: r => uptoBulkEntry x + uptoBulkEntries r
def uptoBulkEntry {H : Type} : Lit × DataW H → Nat
  | (.string bytes, d) => bytes.length + uptoBulk d + 1
  | (_, d) => uptoBulk d + 1
 end
def uptoSmall : (H : Type) → List (DataW H) → Bool := fun _ ds => decide (uptoBulkAll ds ≤ 1048576)
def OpenSpec.upto (s : _root_.Go.ChangeSpec) : _root_.Go.OpenSpec := { _root_.Go.OpenSpec.ofChange s with cond := some uptoSmall }

/-- 'castingslaw09.PrintApart', WHERE WHAT IT READS IS OF BULK AT MOST 1048576: true; the input reads as it did. -/
def printApartUptoRow : OpenClaim := { program := "ytepbmjchhcmcoaagreatdoor", sum := "2a2897d367ed4aa21e8184bd7fc07b67202bc85dd7c2b70e2262f3a7c782fb6a", func := "castings/castingslaw09.PrintApart", spec := "printApart", inPlace := ["internal/bytealg.IndexByteString", "internal/abi.NoEscape", "internal/bytealg.MakeNoZero"], unfollowed := true, recurses := true, named := ["castings/name.reserved"], loops := true, apart := false, laid := [("castings/name.reserved", laid_castings_name_reserved)], narrowed := true }
def PrintApartUptoSaid : Prop := printApartUptoRow.holds Tryz.pinned (OpenSpec.upto printApartSpec)

/-- 'castingslaw09.PrintParts', WHERE WHAT IT READS IS OF BULK AT MOST 1048576: true; the input reads as it did. -/
def printPartsUptoRow : OpenClaim := { program := "ytepbmjchhcmcoaagreatdoor", sum := "2a2897d367ed4aa21e8184bd7fc07b67202bc85dd7c2b70e2262f3a7c782fb6a", func := "castings/castingslaw09.PrintParts", spec := "printParts", inPlace := ["internal/bytealg.IndexByteString", "internal/abi.NoEscape", "internal/bytealg.MakeNoZero"], unfollowed := true, recurses := true, named := ["castings/name.reserved"], loops := true, apart := false, laid := [("castings/name.reserved", laid_castings_name_reserved)], narrowed := true }
def PrintPartsUptoSaid : Prop := printPartsUptoRow.holds Tryz.pinned (OpenSpec.upto printPartsSpec)

/-- 'castingslaw09.PrintFormats', WHERE WHAT IT READS IS OF BULK AT MOST 1048576: true; the input reads as it did. -/
def printFormatsUptoRow : OpenClaim := { program := "ytepbmjchhcmcoaagreatdoor", sum := "2a2897d367ed4aa21e8184bd7fc07b67202bc85dd7c2b70e2262f3a7c782fb6a", func := "castings/castingslaw09.PrintFormats", spec := "printFormats", inPlace := ["internal/bytealg.IndexByteString", "internal/abi.NoEscape", "internal/bytealg.MakeNoZero", "internal/reflectlite.ValueOf", "(internal/reflectlite.Value).Type", "(internal/reflectlite.Value).IsNil", "internal/reflectlite.TypeOf", "(internal/reflectlite.Value).Elem", "(internal/reflectlite.Value).Set"], unfollowed := true, recurses := true, named := ["castings/name.reserved", "errors.errorType"], apart := false, laid := [("errors.errorType", laid_errors_errorType), ("castings/name.reserved", laid_castings_name_reserved)], narrowed := true }
def PrintFormatsUptoSaid : Prop := printFormatsUptoRow.holds Tryz.pinned (OpenSpec.upto printFormatsSpec)

end Rows
end Go.Proofs.YtepbmjchhcmcoaaGreatDoor

/-
  NARROWER THAN 'FOR EVERY INPUT', by the rows' own cells (each row's printed sentence says how): ReadBack: loops, laid · ReadSpaces: loops, laid · ReadSteps: laid · ReadTypes: laid.
  DERIVED. THE GIVEN ROWS OF THIS SEAT. 4 by the template 'for every input the law returns true; each argument reads behind the call as it read before'; 0 by the template 'total and deterministic' (their statements: YtpjkdaechknogaaDoorTotals.lean).
  GIVEN WITH THE SEED: the statements are not yours to turn. If you find one false, say at which input.
  Laid BY PROGRAM, IN A SANDBOX (cutbox-rows.mjs): the forced cells as the released guide's own fill.sh prints them over the translation 0d0f9d6969b7544b… (all of the seat's roots in one cut). By AI agents, Wed Nov 11 2026. No macro, syntax, notation, axiom, sorry.
-/
import Derived.Test.YtpjkdaechknogaaDoorChecked
import GoSem.Claim
import GoSem.ClaimJoined
import GoSem.ClaimMapViews
import Derived.JoinedTies
import Derived.KernelRfl
namespace Go.Proofs.YtpjkdaechknogaaDoor
/- THE CELL 'sum', in the pinned program and in every row, IS THE sha256 OF THE DUMP (.gsa) THAT YtpjkdaechknogaaDoorProg.lean LOADS. Nothing in Lean hashes anything: it is a label: what it is worth is what the hold of that sum in a sandbox is worth. -/
noncomputable def Tryd.pinned : Pinned := { name := "ytpjkdaechknogaadoor", sum := "0d0f9d6969b7544b00ebb02a791c7f6c082397eff6aaf029f705f34ae337f380", checked := Tryd.checked }
namespace Rows
def none {H : Type} : Left H := { results := [], args := [] }

/- WHAT THE LISTED PACKAGE-LEVEL VARIABLES READ AS WHEN THE CALL BEGINS. Each datum BY PROGRAM (the guide's laid-datum.mjs) off the statement by which the dump's own 'gosem.cut.vars' lays the variable. In a bare row this is a premise. The card (YtpjkdaechknogaaDoorCards.lean) ties it to the program's text. -/
def laid_errors_errorType {H : Type} : DataW H := .iface "internal/reflectlite.rtype" (.agg [.ptr (.lit (.string [101, 114, 114, 111, 114]))])
def laid_castings_name_reserved {H : Type} : DataW H := .agg [.lit (.string [112, 97, 99, 107, 97, 103, 101]), .lit (.string [109, 97, 105, 110]), .lit (.string [116, 121, 112, 101]), .lit (.string [115, 116, 114, 117, 99, 116]), .lit (.string [105, 110, 116, 101, 114, 102, 97, 99, 101]), .lit (.string [102, 117, 110, 99]), .lit (.string [114, 101, 116, 117, 114, 110])]

/-- 'castingslaw07.ReadBack': WHATEVER THE INPUT: true; the input reads as it did. -/
def readBackSpec : ChangeSpec := { name := "readBack", fn := fun _ => fun
  | [d1, d2] => { results := [.lit (.bool true)], args := [d1, d2] }
  | _ => none }
def readBackRow : OpenClaim := { program := "ytpjkdaechknogaadoor", sum := "0d0f9d6969b7544b00ebb02a791c7f6c082397eff6aaf029f705f34ae337f380", func := "castings/castingslaw07.ReadBack", spec := "readBack", inPlace := ["internal/bytealg.IndexByteString", "internal/reflectlite.ValueOf", "(internal/reflectlite.Value).Type", "(internal/reflectlite.Value).IsNil", "internal/reflectlite.TypeOf", "(internal/reflectlite.Value).Elem", "(internal/reflectlite.Value).Set"], unfollowed := true, recurses := true, named := ["castings/name.reserved", "errors.errorType"], loops := true, apart := false, laid := [("errors.errorType", laid_errors_errorType), ("castings/name.reserved", laid_castings_name_reserved)] }
def ReadBackSaid : Prop := readBackRow.holds Tryd.pinned (OpenSpec.ofChange readBackSpec)

/-- ITS FALSE NEIGHBOUR: 'it returns false'. Refute it at one input. -/
def readBackWrong : ChangeSpec := { name := "readBack", fn := fun _ => fun
  | [d1, d2] => { results := [.lit (.bool false)], args := [d1, d2] }
  | _ => none }
def ReadBackWrongFalsely : Prop := readBackRow.holds Tryd.pinned (OpenSpec.ofChange readBackWrong)

/-- 'castingslaw07.ReadSpaces': WHATEVER THE INPUT: true; the input reads as it did. -/
def readSpacesSpec : ChangeSpec := { name := "readSpaces", fn := fun _ => fun
  | [d1, d2] => { results := [.lit (.bool true)], args := [d1, d2] }
  | _ => none }
def readSpacesRow : OpenClaim := { program := "ytpjkdaechknogaadoor", sum := "0d0f9d6969b7544b00ebb02a791c7f6c082397eff6aaf029f705f34ae337f380", func := "castings/castingslaw07.ReadSpaces", spec := "readSpaces", inPlace := ["internal/bytealg.IndexByteString", "internal/reflectlite.ValueOf", "(internal/reflectlite.Value).Type", "(internal/reflectlite.Value).IsNil", "internal/reflectlite.TypeOf", "(internal/reflectlite.Value).Elem", "(internal/reflectlite.Value).Set"], unfollowed := true, recurses := true, named := ["castings/name.reserved", "errors.errorType"], loops := true, apart := false, laid := [("errors.errorType", laid_errors_errorType), ("castings/name.reserved", laid_castings_name_reserved)] }
def ReadSpacesSaid : Prop := readSpacesRow.holds Tryd.pinned (OpenSpec.ofChange readSpacesSpec)

/-- ITS FALSE NEIGHBOUR: 'it returns false'. Refute it at one input. -/
def readSpacesWrong : ChangeSpec := { name := "readSpaces", fn := fun _ => fun
  | [d1, d2] => { results := [.lit (.bool false)], args := [d1, d2] }
  | _ => none }
def ReadSpacesWrongFalsely : Prop := readSpacesRow.holds Tryd.pinned (OpenSpec.ofChange readSpacesWrong)

/-- 'castingslaw07.ReadSteps': WHATEVER THE INPUT: true; the input reads as it did. -/
def readStepsSpec : ChangeSpec := { name := "readSteps", fn := fun _ => fun
  | [d1, d2] => { results := [.lit (.bool true)], args := [d1, d2] }
  | _ => none }
def readStepsRow : OpenClaim := { program := "ytpjkdaechknogaadoor", sum := "0d0f9d6969b7544b00ebb02a791c7f6c082397eff6aaf029f705f34ae337f380", func := "castings/castingslaw07.ReadSteps", spec := "readSteps", inPlace := ["internal/bytealg.IndexByteString", "internal/reflectlite.ValueOf", "(internal/reflectlite.Value).Type", "(internal/reflectlite.Value).IsNil", "internal/reflectlite.TypeOf", "(internal/reflectlite.Value).Elem", "(internal/reflectlite.Value).Set"], unfollowed := true, recurses := true, named := ["castings/name.reserved", "errors.errorType"], apart := false, laid := [("errors.errorType", laid_errors_errorType), ("castings/name.reserved", laid_castings_name_reserved)] }
def ReadStepsSaid : Prop := readStepsRow.holds Tryd.pinned (OpenSpec.ofChange readStepsSpec)

/-- ITS FALSE NEIGHBOUR: 'it returns false'. Refute it at one input. -/
def readStepsWrong : ChangeSpec := { name := "readSteps", fn := fun _ => fun
  | [d1, d2] => { results := [.lit (.bool false)], args := [d1, d2] }
  | _ => none }
def ReadStepsWrongFalsely : Prop := readStepsRow.holds Tryd.pinned (OpenSpec.ofChange readStepsWrong)

/-- 'castingslaw07.ReadTypes': WHATEVER THE INPUT: true; the input reads as it did. -/
def readTypesSpec : ChangeSpec := { name := "readTypes", fn := fun _ => fun
  | [d] => { results := [.lit (.bool true)], args := [d] }
  | _ => none }
def readTypesRow : OpenClaim := { program := "ytpjkdaechknogaadoor", sum := "0d0f9d6969b7544b00ebb02a791c7f6c082397eff6aaf029f705f34ae337f380", func := "castings/castingslaw07.ReadTypes", spec := "readTypes", inPlace := ["internal/bytealg.IndexByteString", "internal/reflectlite.ValueOf", "(internal/reflectlite.Value).Type", "(internal/reflectlite.Value).IsNil", "internal/reflectlite.TypeOf", "(internal/reflectlite.Value).Elem", "(internal/reflectlite.Value).Set"], unfollowed := true, recurses := true, named := ["castings/name.reserved", "errors.errorType"], apart := false, laid := [("errors.errorType", laid_errors_errorType), ("castings/name.reserved", laid_castings_name_reserved)] }
def ReadTypesSaid : Prop := readTypesRow.holds Tryd.pinned (OpenSpec.ofChange readTypesSpec)

/-- ITS FALSE NEIGHBOUR: 'it returns false'. Refute it at one input. -/
def readTypesWrong : ChangeSpec := { name := "readTypes", fn := fun _ => fun
  | [d] => { results := [.lit (.bool false)], args := [d] }
  | _ => none }
def ReadTypesWrongFalsely : Prop := readTypesRow.holds Tryd.pinned (OpenSpec.ofChange readTypesWrong)

/- THE SECOND FORM. 'bulk': how many values and letters a reading holds, each counted each time it is reached (what is shared counts as often as it is met; a slice's spare places count too). A statement '..UptoSaid' is the law's where the arguments, and the package variables that the reading takes, are together of bulk at most 1048576: NARROWER than '..Said'. Prove '..Said' where nothing that the law and all that it calls make is longer than what came in: it says more and counts as full. Else prove '..UptoSaid'. A law counts once. -/
mutual
def uptoBulk {H : Type} : DataW H → Nat
  | .lit (.string bytes) => bytes.length + 1
  | .lit _ => 1
  | .nil => 1
  | .ptr d => uptoBulk d + 1
  | .slice elems spare => uptoBulkAll elems + uptoBulkAll spare + 1
  | .agg parts => uptoBulkAll parts + 1
  | .iface _ d => uptoBulk d + 1
  | .map entries => uptoBulkEntries entries + 1
  | .held _ => 1
def uptoBulkAll {H : Type} : List (DataW H) → Nat
  | [] => 0
  | d :: r => uptoBulk d + uptoBulkAll r
def uptoBulkEntries {H : Type} : List (Lit × DataW H) → Nat
  | [] => 0
  | x :: r => uptoBulkEntry x + uptoBulkEntries r
def uptoBulkEntry {H : Type} : Lit × DataW H → Nat
  | (.string bytes, d) => bytes.length + uptoBulk d + 1
  | (_, d) => uptoBulk d + 1
 end
def uptoSmall : (H : Type) → List (DataW H) → Bool := fun _ ds => decide (uptoBulkAll ds ≤ 1048576)
def OpenSpec.upto (s : _root_.Go.ChangeSpec) : _root_.Go.OpenSpec := { _root_.Go.OpenSpec.ofChange s with cond := some uptoSmall }

/-- 'castingslaw07.ReadBack', WHERE WHAT IT READS IS OF BULK AT MOST 1048576: true; the input reads as it did. -/
def readBackUptoRow : OpenClaim := { program := "ytpjkdaechknogaadoor", sum := "0d0f9d6969b7544b00ebb02a791c7f6c082397eff6aaf029f705f34ae337f380", func := "castings/castingslaw07.ReadBack", spec := "readBack", inPlace := ["internal/bytealg.IndexByteString", "internal/reflectlite.ValueOf", "(internal/reflectlite.Value).Type", "(internal/reflectlite.Value).IsNil", "internal/reflectlite.TypeOf", "(internal/reflectlite.Value).Elem", "(internal/reflectlite.Value).Set"], unfollowed := true, recurses := true, named := ["castings/name.reserved", "errors.errorType"], loops := true, apart := false, laid := [("errors.errorType", laid_errors_errorType), ("castings/name.reserved", laid_castings_name_reserved)], narrowed := true }
def ReadBackUptoSaid : Prop := readBackUptoRow.holds Tryd.pinned (OpenSpec.upto readBackSpec)

/-- 'castingslaw07.ReadSpaces', WHERE WHAT IT READS IS OF BULK AT MOST 1048576: true; the input reads as it did. -/
def readSpacesUptoRow : OpenClaim := { program := "ytpjkdaechknogaadoor", sum := "0d0f9d6969b7544b00ebb02a791c7f6c082397eff6aaf029f705f34ae337f380", func := "castings/castingslaw07.ReadSpaces", spec := "readSpaces", inPlace := ["internal/bytealg.IndexByteString", "internal/reflectlite.ValueOf", "(internal/reflectlite.Value).Type", "(internal/reflectlite.Value).IsNil", "internal/reflectlite.TypeOf", "(internal/reflectlite.Value).Elem", "(internal/reflectlite.Value).Set"], unfollowed := true, recurses := true, named := ["castings/name.reserved", "errors.errorType"], loops := true, apart := false, laid := [("errors.errorType", laid_errors_errorType), ("castings/name.reserved", laid_castings_name_reserved)], narrowed := true }
def ReadSpacesUptoSaid : Prop := readSpacesUptoRow.holds Tryd.pinned (OpenSpec.upto readSpacesSpec)

/-- 'castingslaw07.ReadSteps', WHERE WHAT IT READS IS OF BULK AT MOST 1048576: true; the input reads as it did. -/
def readStepsUptoRow : OpenClaim := { program := "ytpjkdaechknogaadoor", sum := "0d0f9d6969b7544b00ebb02a791c7f6c082397eff6aaf029f705f34ae337f380", func := "castings/castingslaw07.ReadSteps", spec := "readSteps", inPlace := ["internal/bytealg.IndexByteString", "internal/reflectlite.ValueOf", "(internal/reflectlite.Value).Type", "(internal/reflectlite.Value).IsNil", "internal/reflectlite.TypeOf", "(internal/reflectlite.Value).Elem", "(internal/reflectlite.Value).Set"], unfollowed := true, recurses := true, named := ["castings/name.reserved", "errors.errorType"], apart := false, laid := [("errors.errorType", laid_errors_errorType), ("castings/name.reserved", laid_castings_name_reserved)], narrowed := true }
def ReadStepsUptoSaid : Prop := readStepsUptoRow.holds Tryd.pinned (OpenSpec.upto readStepsSpec)

/-- 'castingslaw07.ReadTypes', WHERE WHAT IT READS IS OF BULK AT MOST 1048576: true; the input reads as it did. -/
def readTypesUptoRow : OpenClaim := { program := "ytpjkdaechknogaadoor", sum := "0d0f9d6969b7544b00ebb02a791c7f6c082397eff6aaf029f705f34ae337f380", func := "castings/castingslaw07.ReadTypes", spec := "readTypes", inPlace := ["internal/bytealg.IndexByteString", "internal/reflectlite.ValueOf", "(internal/reflectlite.Value).Type", "(internal/reflectlite.Value).IsNil", "internal/reflectlite.TypeOf", "(internal/reflectlite.Value).Elem", "(internal/reflectlite.Value).Set"], unfollowed := true, recurses := true, named := ["castings/name.reserved", "errors.errorType"], apart := false, laid := [("errors.errorType", laid_errors_errorType), ("castings/name.reserved", laid_castings_name_reserved)], narrowed := true }
def ReadTypesUptoSaid : Prop := readTypesUptoRow.holds Tryd.pinned (OpenSpec.upto readTypesSpec)

end Rows
end Go.Proofs.YtpjkdaechknogaaDoor

/-
  NARROWER THAN 'FOR EVERY INPUT', by the rows' own cells (each row's printed sentence says how): ExprMatchesReference: loops, laid · ExprSubstitutes: loops, laid · ExprReplaces: loops, laid · ExprWalks: loops, laid · ExprShares: loops, laid.
  DERIVED. THE GIVEN ROWS OF THIS SEAT. 5 by the template 'for every input the law returns true; each argument reads behind the call as it read before'; 0 by the template 'total and deterministic' (their statements: YtjkabaejabibnaaDoorTotals.lean).
  GIVEN WITH THE SEED: the statements are not yours to turn. If you find one false, say at which input.
  Laid BY PROGRAM, IN A SANDBOX (cutbox-rows.mjs): the forced cells as the released guide's own fill.sh prints them over the translation bf60575146397d76… (all of the seat's roots in one cut). By AI agents, Wed Nov 11 2026. No macro, syntax, notation, axiom, sorry.
-/
import Derived.Test.YtjkabaejabibnaaDoorChecked
import GoSem.Claim
import GoSem.ClaimJoined
import GoSem.ClaimMapViews
import Derived.JoinedTies
import Derived.KernelRfl
namespace Go.Proofs.YtjkabaejabibnaaDoor
/- THE CELL 'sum', in the pinned program and in every row, IS THE sha256 OF THE DUMP (.gsa) THAT YtjkabaejabibnaaDoorProg.lean LOADS. Nothing in Lean hashes anything: it is a label: what it is worth is what the hold of that sum in a sandbox is worth. -/
noncomputable def Tryd.pinned : Pinned := { name := "ytjkabaejabibnaadoor", sum := "bf60575146397d76b3229783c5ed9b8659c933d28e7cd927e0329fbc2ca42807", checked := Tryd.checked }
namespace Rows
def none {H : Type} : Left H := { results := [], args := [] }

/- WHAT THE LISTED PACKAGE-LEVEL VARIABLES READ AS WHEN THE CALL BEGINS. Each datum BY PROGRAM (the guide's laid-datum.mjs) off the statement by which the dump's own 'gosem.cut.vars' lays the variable. In a bare row this is a premise. The card (YtjkabaejabibnaaDoorCards.lean) ties it to the program's text. -/
def laid_castings_name_reserved {H : Type} : DataW H := .agg [.lit (.string [112, 97, 99, 107, 97, 103, 101]), .lit (.string [109, 97, 105, 110]), .lit (.string [116, 121, 112, 101]), .lit (.string [115, 116, 114, 117, 99, 116]), .lit (.string [105, 110, 116, 101, 114, 102, 97, 99, 101]), .lit (.string [102, 117, 110, 99]), .lit (.string [114, 101, 116, 117, 114, 110])]

/-- 'castingslaw05.ExprMatchesReference': WHATEVER THE INPUT: true; the input reads as it did. -/
def exprMatchesReferenceSpec : ChangeSpec := { name := "exprMatchesReference", fn := fun _ => fun
  | [d1, d2] => { results := [.lit (.bool true)], args := [d1, d2] }
  | _ => none }
def exprMatchesReferenceRow : OpenClaim := { program := "ytjkabaejabibnaadoor", sum := "bf60575146397d76b3229783c5ed9b8659c933d28e7cd927e0329fbc2ca42807", func := "castings/castingslaw05.ExprMatchesReference", spec := "exprMatchesReference", inPlace := ["internal/abi.NoEscape", "internal/bytealg.MakeNoZero"], unfollowed := true, recurses := true, named := ["castings/name.reserved"], loops := true, apart := false, laid := [("castings/name.reserved", laid_castings_name_reserved)] }
def ExprMatchesReferenceSaid : Prop := exprMatchesReferenceRow.holds Tryd.pinned (OpenSpec.ofChange exprMatchesReferenceSpec)

/-- ITS FALSE NEIGHBOUR: 'it returns false'. Refute it at one input. -/
def exprMatchesReferenceWrong : ChangeSpec := { name := "exprMatchesReference", fn := fun _ => fun
  | [d1, d2] => { results := [.lit (.bool false)], args := [d1, d2] }
  | _ => none }
def ExprMatchesReferenceWrongFalsely : Prop := exprMatchesReferenceRow.holds Tryd.pinned (OpenSpec.ofChange exprMatchesReferenceWrong)

/-- 'castingslaw05.ExprSubstitutes': WHATEVER THE INPUT: true; the input reads as it did. -/
def exprSubstitutesSpec : ChangeSpec := { name := "exprSubstitutes", fn := fun _ => fun
  | [d1, d2, d3] => { results := [.lit (.bool true)], args := [d1, d2, d3] }
  | _ => none }
def exprSubstitutesRow : OpenClaim := { program := "ytjkabaejabibnaadoor", sum := "bf60575146397d76b3229783c5ed9b8659c933d28e7cd927e0329fbc2ca42807", func := "castings/castingslaw05.ExprSubstitutes", spec := "exprSubstitutes", inPlace := ["internal/abi.NoEscape", "internal/bytealg.MakeNoZero"], unfollowed := true, recurses := true, named := ["castings/name.reserved"], loops := true, apart := false, laid := [("castings/name.reserved", laid_castings_name_reserved)] }
def ExprSubstitutesSaid : Prop := exprSubstitutesRow.holds Tryd.pinned (OpenSpec.ofChange exprSubstitutesSpec)

/-- ITS FALSE NEIGHBOUR: 'it returns false'. Refute it at one input. -/
def exprSubstitutesWrong : ChangeSpec := { name := "exprSubstitutes", fn := fun _ => fun
  | [d1, d2, d3] => { results := [.lit (.bool false)], args := [d1, d2, d3] }
  | _ => none }
def ExprSubstitutesWrongFalsely : Prop := exprSubstitutesRow.holds Tryd.pinned (OpenSpec.ofChange exprSubstitutesWrong)

/-- 'castingslaw05.ExprReplaces': WHATEVER THE INPUT: true; the input reads as it did. -/
def exprReplacesSpec : ChangeSpec := { name := "exprReplaces", fn := fun _ => fun
  | [d1, d2, d3] => { results := [.lit (.bool true)], args := [d1, d2, d3] }
  | _ => none }
def exprReplacesRow : OpenClaim := { program := "ytjkabaejabibnaadoor", sum := "bf60575146397d76b3229783c5ed9b8659c933d28e7cd927e0329fbc2ca42807", func := "castings/castingslaw05.ExprReplaces", spec := "exprReplaces", inPlace := ["internal/abi.NoEscape", "internal/bytealg.MakeNoZero"], unfollowed := true, recurses := true, named := ["castings/name.reserved"], loops := true, apart := false, laid := [("castings/name.reserved", laid_castings_name_reserved)] }
def ExprReplacesSaid : Prop := exprReplacesRow.holds Tryd.pinned (OpenSpec.ofChange exprReplacesSpec)

/-- ITS FALSE NEIGHBOUR: 'it returns false'. Refute it at one input. -/
def exprReplacesWrong : ChangeSpec := { name := "exprReplaces", fn := fun _ => fun
  | [d1, d2, d3] => { results := [.lit (.bool false)], args := [d1, d2, d3] }
  | _ => none }
def ExprReplacesWrongFalsely : Prop := exprReplacesRow.holds Tryd.pinned (OpenSpec.ofChange exprReplacesWrong)

/-- 'castingslaw05.ExprWalks': WHATEVER THE INPUT: true; the input reads as it did. -/
def exprWalksSpec : ChangeSpec := { name := "exprWalks", fn := fun _ => fun
  | [d1, d2] => { results := [.lit (.bool true)], args := [d1, d2] }
  | _ => none }
def exprWalksRow : OpenClaim := { program := "ytjkabaejabibnaadoor", sum := "bf60575146397d76b3229783c5ed9b8659c933d28e7cd927e0329fbc2ca42807", func := "castings/castingslaw05.ExprWalks", spec := "exprWalks", inPlace := ["internal/abi.NoEscape", "internal/bytealg.MakeNoZero"], unfollowed := true, recurses := true, named := ["castings/name.reserved"], loops := true, apart := false, laid := [("castings/name.reserved", laid_castings_name_reserved)] }
def ExprWalksSaid : Prop := exprWalksRow.holds Tryd.pinned (OpenSpec.ofChange exprWalksSpec)

/-- ITS FALSE NEIGHBOUR: 'it returns false'. Refute it at one input. -/
def exprWalksWrong : ChangeSpec := { name := "exprWalks", fn := fun _ => fun
  | [d1, d2] => { results := [.lit (.bool false)], args := [d1, d2] }
  | _ => none }
def ExprWalksWrongFalsely : Prop := exprWalksRow.holds Tryd.pinned (OpenSpec.ofChange exprWalksWrong)

/-- 'castingslaw05.ExprShares': WHATEVER THE INPUT: true; the input reads as it did. -/
def exprSharesSpec : ChangeSpec := { name := "exprShares", fn := fun _ => fun
  | [d1, d2] => { results := [.lit (.bool true)], args := [d1, d2] }
  | _ => none }
def exprSharesRow : OpenClaim := { program := "ytjkabaejabibnaadoor", sum := "bf60575146397d76b3229783c5ed9b8659c933d28e7cd927e0329fbc2ca42807", func := "castings/castingslaw05.ExprShares", spec := "exprShares", inPlace := ["internal/abi.NoEscape", "internal/bytealg.MakeNoZero"], unfollowed := true, recurses := true, named := ["castings/name.reserved"], loops := true, apart := false, laid := [("castings/name.reserved", laid_castings_name_reserved)] }
def ExprSharesSaid : Prop := exprSharesRow.holds Tryd.pinned (OpenSpec.ofChange exprSharesSpec)

/-- ITS FALSE NEIGHBOUR: 'it returns false'. Refute it at one input. -/
def exprSharesWrong : ChangeSpec := { name := "exprShares", fn := fun _ => fun
  | [d1, d2] => { results := [.lit (.bool false)], args := [d1, d2] }
  | _ => none }
def ExprSharesWrongFalsely : Prop := exprSharesRow.holds Tryd.pinned (OpenSpec.ofChange exprSharesWrong)

/- THE SECOND FORM. 'bulk': how many values and letters a reading holds, each counted each time it is reached (what is shared counts as often as it is met; a slice's spare places count too). A statement '..UptoSaid' is the law's where the arguments, and the package variables that the reading takes, are together of bulk at most 1048576: NARROWER than '..Said'. Prove '..Said' where nothing that the law and all that it calls make is longer than what came in: it says more and counts as full. Else prove '..UptoSaid'. A law counts once. -/
mutual
def uptoBulk {H : Type} : DataW H → Nat
  | .lit (.string bytes) => bytes.length + 1
  | .lit _ => 1
  | .nil => 1
  | .ptr d => uptoBulk d + 1
  | .slice elems spare => uptoBulkAll elems + uptoBulkAll spare + 1
  | .agg parts => uptoBulkAll parts + 1
  | .iface _ d => uptoBulk d + 1
  | .map entries => uptoBulkEntries entries + 1
  | .held _ => 1
def uptoBulkAll {H : Type} : List (DataW H) → Nat
  | [] => 0
  | d :: r => uptoBulk d + uptoBulkAll r
def uptoBulkEntries {H : Type} : List (Lit × DataW H) → Nat
  | [] => 0
  | x :: r => uptoBulkEntry x + uptoBulkEntries r
def uptoBulkEntry {H : Type} : Lit × DataW H → Nat
  | (.string bytes, d) => bytes.length + uptoBulk d + 1
  | (_, d) => uptoBulk d + 1
 end
def uptoSmall : (H : Type) → List (DataW H) → Bool := fun _ ds => decide (uptoBulkAll ds ≤ 1048576)
def OpenSpec.upto (s : _root_.Go.ChangeSpec) : _root_.Go.OpenSpec := { _root_.Go.OpenSpec.ofChange s with cond := some uptoSmall }

/-- 'castingslaw05.ExprMatchesReference', WHERE WHAT IT READS IS OF BULK AT MOST 1048576: true; the input reads as it did. -/
def exprMatchesReferenceUptoRow : OpenClaim := { program := "ytjkabaejabibnaadoor", sum := "bf60575146397d76b3229783c5ed9b8659c933d28e7cd927e0329fbc2ca42807", func := "castings/castingslaw05.ExprMatchesReference", spec := "exprMatchesReference", inPlace := ["internal/abi.NoEscape", "internal/bytealg.MakeNoZero"], unfollowed := true, recurses := true, named := ["castings/name.reserved"], loops := true, apart := false, laid := [("castings/name.reserved", laid_castings_name_reserved)], narrowed := true }
def ExprMatchesReferenceUptoSaid : Prop := exprMatchesReferenceUptoRow.holds Tryd.pinned (OpenSpec.upto exprMatchesReferenceSpec)

/-- 'castingslaw05.ExprSubstitutes', WHERE WHAT IT READS IS OF BULK AT MOST 1048576: true; the input reads as it did. -/
def exprSubstitutesUptoRow : OpenClaim := { program := "ytjkabaejabibnaadoor", sum := "bf60575146397d76b3229783c5ed9b8659c933d28e7cd927e0329fbc2ca42807", func := "castings/castingslaw05.ExprSubstitutes", spec := "exprSubstitutes", inPlace := ["internal/abi.NoEscape", "internal/bytealg.MakeNoZero"], unfollowed := true, recurses := true, named := ["castings/name.reserved"], loops := true, apart := false, laid := [("castings/name.reserved", laid_castings_name_reserved)], narrowed := true }
def ExprSubstitutesUptoSaid : Prop := exprSubstitutesUptoRow.holds Tryd.pinned (OpenSpec.upto exprSubstitutesSpec)

/-- 'castingslaw05.ExprReplaces', WHERE WHAT IT READS IS OF BULK AT MOST 1048576: true; the input reads as it did. -/
def exprReplacesUptoRow : OpenClaim := { program := "ytjkabaejabibnaadoor", sum := "bf60575146397d76b3229783c5ed9b8659c933d28e7cd927e0329fbc2ca42807", func := "castings/castingslaw05.ExprReplaces", spec := "exprReplaces", inPlace := ["internal/abi.NoEscape", "internal/bytealg.MakeNoZero"], unfollowed := true, recurses := true, named := ["castings/name.reserved"], loops := true, apart := false, laid := [("castings/name.reserved", laid_castings_name_reserved)], narrowed := true }
def ExprReplacesUptoSaid : Prop := exprReplacesUptoRow.holds Tryd.pinned (OpenSpec.upto exprReplacesSpec)

/-- 'castingslaw05.ExprWalks', WHERE WHAT IT READS IS OF BULK AT MOST 1048576: true; the input reads as it did. -/
def exprWalksUptoRow : OpenClaim := { program := "ytjkabaejabibnaadoor", sum := "bf60575146397d76b3229783c5ed9b8659c933d28e7cd927e0329fbc2ca42807", func := "castings/castingslaw05.ExprWalks", spec := "exprWalks", inPlace := ["internal/abi.NoEscape", "internal/bytealg.MakeNoZero"], unfollowed := true, recurses := true, named := ["castings/name.reserved"], loops := true, apart := false, laid := [("castings/name.reserved", laid_castings_name_reserved)], narrowed := true }
def ExprWalksUptoSaid : Prop := exprWalksUptoRow.holds Tryd.pinned (OpenSpec.upto exprWalksSpec)

/-- 'castingslaw05.ExprShares', WHERE WHAT IT READS IS OF BULK AT MOST 1048576: true; the input reads as it did. -/
def exprSharesUptoRow : OpenClaim := { program := "ytjkabaejabibnaadoor", sum := "bf60575146397d76b3229783c5ed9b8659c933d28e7cd927e0329fbc2ca42807", func := "castings/castingslaw05.ExprShares", spec := "exprShares", inPlace := ["internal/abi.NoEscape", "internal/bytealg.MakeNoZero"], unfollowed := true, recurses := true, named := ["castings/name.reserved"], loops := true, apart := false, laid := [("castings/name.reserved", laid_castings_name_reserved)], narrowed := true }
def ExprSharesUptoSaid : Prop := exprSharesUptoRow.holds Tryd.pinned (OpenSpec.upto exprSharesSpec)

end Rows
end Go.Proofs.YtjkabaejabibnaaDoor

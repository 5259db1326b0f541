/-
  NARROWER THAN 'FOR EVERY INPUT', by the rows' own cells (each row's printed sentence says how): DeclParts: loops, laid · DeclTypes: loops, laid · DeclPlain: loops, laid · DeclClones: loops, laid.
  DERIVED. THE GIVEN ROWS OF THIS SEAT. 4 by the template 'for every input the law returns true; each argument reads behind the call as it read before'; 0 by the template 'total and deterministic' (their statements: YtdifpfehijnmiaaGreatDoorTotals.lean).
  GIVEN WITH THE SEED: the statements are not yours to turn. If you find one false, say at which input.
  Laid BY PROGRAM, IN A SANDBOX (cutbox-rows.mjs): the forced cells as the released guide's own fill.sh prints them over the translation dbcf533e5f2f6a1d… (all of the seat's roots in one cut). By AI agents, Wed Nov 11 2026. No macro, syntax, notation, axiom, sorry.
-/
import Derived.Test.YtdifpfehijnmiaaGreatDoorChecked
import GoSem.Claim
import GoSem.ClaimJoined
import GoSem.ClaimMapViews
import Derived.JoinedTies
import Derived.KernelRfl
namespace Go.Proofs.YtdifpfehijnmiaaGreatDoor
/- THE CELL 'sum', in the pinned program and in every row, IS THE sha256 OF THE DUMP (.gsa) THAT YtdifpfehijnmiaaGreatDoorProg.lean LOADS. Nothing in Lean hashes anything: it is a label: what it is worth is what the hold of that sum in a sandbox is worth. -/
noncomputable def Tryz.pinned : Pinned := { name := "ytdifpfehijnmiaagreatdoor", sum := "dbcf533e5f2f6a1df8b3abaf2b4f59409a128fb03582f637a956e8d9220705c2", checked := Tryz.checked }
namespace Rows
def none {H : Type} : Left H := { results := [], args := [] }

/- WHAT THE LISTED PACKAGE-LEVEL VARIABLES READ AS WHEN THE CALL BEGINS. Each datum BY PROGRAM (the guide's laid-datum.mjs) off the statement by which the dump's own 'gosem.cut.vars' lays the variable. In a bare row this is a premise. The card (YtdifpfehijnmiaaGreatDoorCards.lean) ties it to the program's text. -/
def laid_castings_name_reserved {H : Type} : DataW H := .agg [.lit (.string [112, 97, 99, 107, 97, 103, 101]), .lit (.string [109, 97, 105, 110]), .lit (.string [116, 121, 112, 101]), .lit (.string [115, 116, 114, 117, 99, 116]), .lit (.string [105, 110, 116, 101, 114, 102, 97, 99, 101]), .lit (.string [102, 117, 110, 99]), .lit (.string [114, 101, 116, 117, 114, 110])]

/-- 'castingslaw06.DeclParts': WHATEVER THE INPUT: true; the input reads as it did. -/
def declPartsSpec : ChangeSpec := { name := "declParts", fn := fun _ => fun
  | [d1, d2] => { results := [.lit (.bool true)], args := [d1, d2] }
  | _ => none }
def declPartsRow : OpenClaim := { program := "ytdifpfehijnmiaagreatdoor", sum := "dbcf533e5f2f6a1df8b3abaf2b4f59409a128fb03582f637a956e8d9220705c2", func := "castings/castingslaw06.DeclParts", spec := "declParts", unfollowed := true, recurses := true, named := ["castings/name.reserved"], loops := true, apart := false, laid := [("castings/name.reserved", laid_castings_name_reserved)] }
def DeclPartsSaid : Prop := declPartsRow.holds Tryz.pinned (OpenSpec.ofChange declPartsSpec)

/-- ITS FALSE NEIGHBOUR: 'it returns false'. Refute it at one input. -/
def declPartsWrong : ChangeSpec := { name := "declParts", fn := fun _ => fun
  | [d1, d2] => { results := [.lit (.bool false)], args := [d1, d2] }
  | _ => none }
def DeclPartsWrongFalsely : Prop := declPartsRow.holds Tryz.pinned (OpenSpec.ofChange declPartsWrong)

/-- 'castingslaw06.DeclTypes': WHATEVER THE INPUT: true; the input reads as it did. -/
def declTypesSpec : ChangeSpec := { name := "declTypes", fn := fun _ => fun
  | [d] => { results := [.lit (.bool true)], args := [d] }
  | _ => none }
def declTypesRow : OpenClaim := { program := "ytdifpfehijnmiaagreatdoor", sum := "dbcf533e5f2f6a1df8b3abaf2b4f59409a128fb03582f637a956e8d9220705c2", func := "castings/castingslaw06.DeclTypes", spec := "declTypes", unfollowed := true, recurses := true, named := ["castings/name.reserved"], loops := true, apart := false, laid := [("castings/name.reserved", laid_castings_name_reserved)] }
def DeclTypesSaid : Prop := declTypesRow.holds Tryz.pinned (OpenSpec.ofChange declTypesSpec)

/-- ITS FALSE NEIGHBOUR: 'it returns false'. Refute it at one input. -/
def declTypesWrong : ChangeSpec := { name := "declTypes", fn := fun _ => fun
  | [d] => { results := [.lit (.bool false)], args := [d] }
  | _ => none }
def DeclTypesWrongFalsely : Prop := declTypesRow.holds Tryz.pinned (OpenSpec.ofChange declTypesWrong)

/-- 'castingslaw06.DeclPlain': WHATEVER THE INPUT: true; the input reads as it did. -/
def declPlainSpec : ChangeSpec := { name := "declPlain", fn := fun _ => fun
  | [d] => { results := [.lit (.bool true)], args := [d] }
  | _ => none }
def declPlainRow : OpenClaim := { program := "ytdifpfehijnmiaagreatdoor", sum := "dbcf533e5f2f6a1df8b3abaf2b4f59409a128fb03582f637a956e8d9220705c2", func := "castings/castingslaw06.DeclPlain", spec := "declPlain", unfollowed := true, recurses := true, named := ["castings/name.reserved"], loops := true, apart := false, laid := [("castings/name.reserved", laid_castings_name_reserved)] }
def DeclPlainSaid : Prop := declPlainRow.holds Tryz.pinned (OpenSpec.ofChange declPlainSpec)

/-- ITS FALSE NEIGHBOUR: 'it returns false'. Refute it at one input. -/
def declPlainWrong : ChangeSpec := { name := "declPlain", fn := fun _ => fun
  | [d] => { results := [.lit (.bool false)], args := [d] }
  | _ => none }
def DeclPlainWrongFalsely : Prop := declPlainRow.holds Tryz.pinned (OpenSpec.ofChange declPlainWrong)

/-- 'castingslaw06.DeclClones': WHATEVER THE INPUT: true; the input reads as it did. -/
def declClonesSpec : ChangeSpec := { name := "declClones", fn := fun _ => fun
  | [d] => { results := [.lit (.bool true)], args := [d] }
  | _ => none }
def declClonesRow : OpenClaim := { program := "ytdifpfehijnmiaagreatdoor", sum := "dbcf533e5f2f6a1df8b3abaf2b4f59409a128fb03582f637a956e8d9220705c2", func := "castings/castingslaw06.DeclClones", spec := "declClones", unfollowed := true, recurses := true, named := ["castings/name.reserved"], loops := true, apart := false, laid := [("castings/name.reserved", laid_castings_name_reserved)] }
def DeclClonesSaid : Prop := declClonesRow.holds Tryz.pinned (OpenSpec.ofChange declClonesSpec)

/-- ITS FALSE NEIGHBOUR: 'it returns false'. Refute it at one input. -/
def declClonesWrong : ChangeSpec := { name := "declClones", fn := fun _ => fun
  | [d] => { results := [.lit (.bool false)], args := [d] }
  | _ => none }
def DeclClonesWrongFalsely : Prop := declClonesRow.holds Tryz.pinned (OpenSpec.ofChange declClonesWrong)

/- THE SECOND FORM. 'bulk': how many values and letters a reading holds, each counted each time it is reached (what is shared counts as often as it is met; a slice's spare places count too). A statement '..UptoSaid' is the law's where the arguments, and the package variables that the reading takes, are together of bulk at most 1048576: NARROWER than '..Said'. Prove '..Said' where nothing that the law and all that it calls make is longer than what came in: it says more and counts as full. Else prove '..UptoSaid'. A law counts once. -/
mutual
def uptoBulk {H : Type} : DataW H → Nat
  | .lit (.string bytes) => bytes.length + 1
  | .lit _ => 1
  | .nil => 1
  | .ptr d => uptoBulk d + 1
  | .slice elems spare => uptoBulkAll elems + uptoBulkAll spare + 1
  | .agg parts => uptoBulkAll parts + 1
  | .iface _ d => uptoBulk d + 1
  | .map entries => uptoBulkEntries entries + 1
  | .held _ => 1
def uptoBulkAll {H : Type} : List (DataW H) → Nat
  | [] => 0
  | d :: r => uptoBulk d + uptoBulkAll r
def uptoBulkEntries {H : Type} : List (Lit × DataW H) → Nat
  | [] => 0
  | x :: r => uptoBulkEntry x + uptoBulkEntries r
def uptoBulkEntry {H : Type} : Lit × DataW H → Nat
  | (.string bytes, d) => bytes.length + uptoBulk d + 1
  | (_, d) => uptoBulk d + 1
 end
def uptoSmall : (H : Type) → List (DataW H) → Bool := fun _ ds => decide (uptoBulkAll ds ≤ 1048576)
def OpenSpec.upto (s : _root_.Go.ChangeSpec) : _root_.Go.OpenSpec := { _root_.Go.OpenSpec.ofChange s with cond := some uptoSmall }

/-- 'castingslaw06.DeclParts', WHERE WHAT IT READS IS OF BULK AT MOST 1048576: true; the input reads as it did. -/
def declPartsUptoRow : OpenClaim := { program := "ytdifpfehijnmiaagreatdoor", sum := "dbcf533e5f2f6a1df8b3abaf2b4f59409a128fb03582f637a956e8d9220705c2", func := "castings/castingslaw06.DeclParts", spec := "declParts", unfollowed := true, recurses := true, named := ["castings/name.reserved"], loops := true, apart := false, laid := [("castings/name.reserved", laid_castings_name_reserved)], narrowed := true }
def DeclPartsUptoSaid : Prop := declPartsUptoRow.holds Tryz.pinned (OpenSpec.upto declPartsSpec)

/-- 'castingslaw06.DeclTypes', WHERE WHAT IT READS IS OF BULK AT MOST 1048576: true; the input reads as it did. -/
def declTypesUptoRow : OpenClaim := { program := "ytdifpfehijnmiaagreatdoor", sum := "dbcf533e5f2f6a1df8b3abaf2b4f59409a128fb03582f637a956e8d9220705c2", func := "castings/castingslaw06.DeclTypes", spec := "declTypes", unfollowed := true, recurses := true, named := ["castings/name.reserved"], loops := true, apart := false, laid := [("castings/name.reserved", laid_castings_name_reserved)], narrowed := true }
def DeclTypesUptoSaid : Prop := declTypesUptoRow.holds Tryz.pinned (OpenSpec.upto declTypesSpec)

/-- 'castingslaw06.DeclPlain', WHERE WHAT IT READS IS OF BULK AT MOST 1048576: true; the input reads as it did. -/
def declPlainUptoRow : OpenClaim := { program := "ytdifpfehijnmiaagreatdoor", sum := "dbcf533e5f2f6a1df8b3abaf2b4f59409a128fb03582f637a956e8d9220705c2", func := "castings/castingslaw06.DeclPlain", spec := "declPlain", unfollowed := true, recurses := true, named := ["castings/name.reserved"], loops := true, apart := false, laid := [("castings/name.reserved", laid_castings_name_reserved)], narrowed := true }
def DeclPlainUptoSaid : Prop := declPlainUptoRow.holds Tryz.pinned (OpenSpec.upto declPlainSpec)

/-- 'castingslaw06.DeclClones', WHERE WHAT IT READS IS OF BULK AT MOST 1048576: true; the input reads as it did. -/
def declClonesUptoRow : OpenClaim := { program := "ytdifpfehijnmiaagreatdoor", sum := "dbcf533e5f2f6a1df8b3abaf2b4f59409a128fb03582f637a956e8d9220705c2", func := "castings/castingslaw06.DeclClones", spec := "declClones", unfollowed := true, recurses := true, named := ["castings/name.reserved"], loops := true, apart := false, laid := [("castings/name.reserved", laid_castings_name_reserved)], narrowed := true }
def DeclClonesUptoSaid : Prop := declClonesUptoRow.holds Tryz.pinned (OpenSpec.upto declClonesSpec)

end Rows
end Go.Proofs.YtdifpfehijnmiaaGreatDoor

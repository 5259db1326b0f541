/-
  NARROWER THAN 'FOR EVERY INPUT', by the rows' own cells (each row's printed sentence says how): TypesMatchReference: loops, laid · TypesSubstitute: loops, laid · TypesNames: loops, laid · TypesShare: loops, laid · TypesOrder: loops, laid · TypesIdentity: loops, laid.
  DERIVED. THE GIVEN ROWS OF THIS SEAT. 6 by the template 'for every input the law returns true; each argument reads behind the call as it read before'; 0 by the template 'total and deterministic' (their statements: YtghmdnfdocdgfaaDoorTotals.lean).
  GIVEN WITH THE SEED: the statements are not yours to turn. If you find one false, say at which input.
  Laid BY PROGRAM, IN A SANDBOX (cutbox-rows.mjs): the forced cells as the released guide's own fill.sh prints them over the translation 1c66bff3f0745d76… (all of the seat's roots in one cut). By AI agents, Wed Nov 11 2026. No macro, syntax, notation, axiom, sorry.
-/
import Derived.Test.YtghmdnfdocdgfaaDoorChecked
import GoSem.Claim
import GoSem.ClaimJoined
import GoSem.ClaimMapViews
import Derived.JoinedTies
import Derived.KernelRfl
namespace Go.Proofs.YtghmdnfdocdgfaaDoor
/- THE CELL 'sum', in the pinned program and in every row, IS THE sha256 OF THE DUMP (.gsa) THAT YtghmdnfdocdgfaaDoorProg.lean LOADS. Nothing in Lean hashes anything: it is a label: what it is worth is what the hold of that sum in a sandbox is worth. -/
noncomputable def Tryd.pinned : Pinned := { name := "ytghmdnfdocdgfaadoor", sum := "1c66bff3f0745d761f854af1b7b401101232dfc3271d64bdd5f6ff4b80d7578e", checked := Tryd.checked }
namespace Rows
def none {H : Type} : Left H := { results := [], args := [] }

/- WHAT THE LISTED PACKAGE-LEVEL VARIABLES READ AS WHEN THE CALL BEGINS. Each datum BY PROGRAM (the guide's laid-datum.mjs) off the statement by which the dump's own 'gosem.cut.vars' lays the variable. In a bare row this is a premise. The card (YtghmdnfdocdgfaaDoorCards.lean) ties it to the program's text. -/
def laid_castings_name_reserved {H : Type} : DataW H := .agg [.lit (.string [112, 97, 99, 107, 97, 103, 101]), .lit (.string [109, 97, 105, 110]), .lit (.string [116, 121, 112, 101]), .lit (.string [115, 116, 114, 117, 99, 116]), .lit (.string [105, 110, 116, 101, 114, 102, 97, 99, 101]), .lit (.string [102, 117, 110, 99]), .lit (.string [114, 101, 116, 117, 114, 110])]

/-- 'castingslaw04.TypesMatchReference': WHATEVER THE INPUT: true; the input reads as it did. -/
def typesMatchReferenceSpec : ChangeSpec := { name := "typesMatchReference", fn := fun _ => fun
  | [d1, d2] => { results := [.lit (.bool true)], args := [d1, d2] }
  | _ => none }
def typesMatchReferenceRow : OpenClaim := { program := "ytghmdnfdocdgfaadoor", sum := "1c66bff3f0745d761f854af1b7b401101232dfc3271d64bdd5f6ff4b80d7578e", func := "castings/castingslaw04.TypesMatchReference", spec := "typesMatchReference", inPlace := ["internal/abi.NoEscape", "internal/bytealg.MakeNoZero"], unfollowed := true, recurses := true, named := ["castings/name.reserved"], loops := true, apart := false, laid := [("castings/name.reserved", laid_castings_name_reserved)] }
def TypesMatchReferenceSaid : Prop := typesMatchReferenceRow.holds Tryd.pinned (OpenSpec.ofChange typesMatchReferenceSpec)

/-- ITS FALSE NEIGHBOUR: 'it returns false'. Refute it at one input. -/
def typesMatchReferenceWrong : ChangeSpec := { name := "typesMatchReference", fn := fun _ => fun
  | [d1, d2] => { results := [.lit (.bool false)], args := [d1, d2] }
  | _ => none }
def TypesMatchReferenceWrongFalsely : Prop := typesMatchReferenceRow.holds Tryd.pinned (OpenSpec.ofChange typesMatchReferenceWrong)

/-- 'castingslaw04.TypesSubstitute': WHATEVER THE INPUT: true; the input reads as it did. -/
def typesSubstituteSpec : ChangeSpec := { name := "typesSubstitute", fn := fun _ => fun
  | [d1, d2, d3] => { results := [.lit (.bool true)], args := [d1, d2, d3] }
  | _ => none }
def typesSubstituteRow : OpenClaim := { program := "ytghmdnfdocdgfaadoor", sum := "1c66bff3f0745d761f854af1b7b401101232dfc3271d64bdd5f6ff4b80d7578e", func := "castings/castingslaw04.TypesSubstitute", spec := "typesSubstitute", inPlace := ["internal/abi.NoEscape", "internal/bytealg.MakeNoZero"], unfollowed := true, recurses := true, named := ["castings/name.reserved"], loops := true, apart := false, laid := [("castings/name.reserved", laid_castings_name_reserved)] }
def TypesSubstituteSaid : Prop := typesSubstituteRow.holds Tryd.pinned (OpenSpec.ofChange typesSubstituteSpec)

/-- ITS FALSE NEIGHBOUR: 'it returns false'. Refute it at one input. -/
def typesSubstituteWrong : ChangeSpec := { name := "typesSubstitute", fn := fun _ => fun
  | [d1, d2, d3] => { results := [.lit (.bool false)], args := [d1, d2, d3] }
  | _ => none }
def TypesSubstituteWrongFalsely : Prop := typesSubstituteRow.holds Tryd.pinned (OpenSpec.ofChange typesSubstituteWrong)

/-- 'castingslaw04.TypesNames': WHATEVER THE INPUT: true; the input reads as it did. -/
def typesNamesSpec : ChangeSpec := { name := "typesNames", fn := fun _ => fun
  | [d1, d2] => { results := [.lit (.bool true)], args := [d1, d2] }
  | _ => none }
def typesNamesRow : OpenClaim := { program := "ytghmdnfdocdgfaadoor", sum := "1c66bff3f0745d761f854af1b7b401101232dfc3271d64bdd5f6ff4b80d7578e", func := "castings/castingslaw04.TypesNames", spec := "typesNames", inPlace := ["internal/abi.NoEscape", "internal/bytealg.MakeNoZero"], unfollowed := true, recurses := true, named := ["castings/name.reserved"], loops := true, apart := false, laid := [("castings/name.reserved", laid_castings_name_reserved)] }
def TypesNamesSaid : Prop := typesNamesRow.holds Tryd.pinned (OpenSpec.ofChange typesNamesSpec)

/-- ITS FALSE NEIGHBOUR: 'it returns false'. Refute it at one input. -/
def typesNamesWrong : ChangeSpec := { name := "typesNames", fn := fun _ => fun
  | [d1, d2] => { results := [.lit (.bool false)], args := [d1, d2] }
  | _ => none }
def TypesNamesWrongFalsely : Prop := typesNamesRow.holds Tryd.pinned (OpenSpec.ofChange typesNamesWrong)

/-- 'castingslaw04.TypesShare': WHATEVER THE INPUT: true; the input reads as it did. -/
def typesShareSpec : ChangeSpec := { name := "typesShare", fn := fun _ => fun
  | [d1, d2] => { results := [.lit (.bool true)], args := [d1, d2] }
  | _ => none }
def typesShareRow : OpenClaim := { program := "ytghmdnfdocdgfaadoor", sum := "1c66bff3f0745d761f854af1b7b401101232dfc3271d64bdd5f6ff4b80d7578e", func := "castings/castingslaw04.TypesShare", spec := "typesShare", inPlace := ["internal/abi.NoEscape", "internal/bytealg.MakeNoZero"], unfollowed := true, recurses := true, named := ["castings/name.reserved"], loops := true, apart := false, laid := [("castings/name.reserved", laid_castings_name_reserved)] }
def TypesShareSaid : Prop := typesShareRow.holds Tryd.pinned (OpenSpec.ofChange typesShareSpec)

/-- ITS FALSE NEIGHBOUR: 'it returns false'. Refute it at one input. -/
def typesShareWrong : ChangeSpec := { name := "typesShare", fn := fun _ => fun
  | [d1, d2] => { results := [.lit (.bool false)], args := [d1, d2] }
  | _ => none }
def TypesShareWrongFalsely : Prop := typesShareRow.holds Tryd.pinned (OpenSpec.ofChange typesShareWrong)

/-- 'castingslaw04.TypesOrder': WHATEVER THE INPUT: true; the input reads as it did. -/
def typesOrderSpec : ChangeSpec := { name := "typesOrder", fn := fun _ => fun
  | [d1, d2, d3] => { results := [.lit (.bool true)], args := [d1, d2, d3] }
  | _ => none }
def typesOrderRow : OpenClaim := { program := "ytghmdnfdocdgfaadoor", sum := "1c66bff3f0745d761f854af1b7b401101232dfc3271d64bdd5f6ff4b80d7578e", func := "castings/castingslaw04.TypesOrder", spec := "typesOrder", inPlace := ["internal/abi.NoEscape", "internal/bytealg.MakeNoZero"], unfollowed := true, recurses := true, named := ["castings/name.reserved"], loops := true, apart := false, laid := [("castings/name.reserved", laid_castings_name_reserved)] }
def TypesOrderSaid : Prop := typesOrderRow.holds Tryd.pinned (OpenSpec.ofChange typesOrderSpec)

/-- ITS FALSE NEIGHBOUR: 'it returns false'. Refute it at one input. -/
def typesOrderWrong : ChangeSpec := { name := "typesOrder", fn := fun _ => fun
  | [d1, d2, d3] => { results := [.lit (.bool false)], args := [d1, d2, d3] }
  | _ => none }
def TypesOrderWrongFalsely : Prop := typesOrderRow.holds Tryd.pinned (OpenSpec.ofChange typesOrderWrong)

/-- 'castingslaw04.TypesIdentity': WHATEVER THE INPUT: true; the input reads as it did. -/
def typesIdentitySpec : ChangeSpec := { name := "typesIdentity", fn := fun _ => fun
  | [d] => { results := [.lit (.bool true)], args := [d] }
  | _ => none }
def typesIdentityRow : OpenClaim := { program := "ytghmdnfdocdgfaadoor", sum := "1c66bff3f0745d761f854af1b7b401101232dfc3271d64bdd5f6ff4b80d7578e", func := "castings/castingslaw04.TypesIdentity", spec := "typesIdentity", inPlace := ["internal/abi.NoEscape", "internal/bytealg.MakeNoZero"], unfollowed := true, recurses := true, named := ["castings/name.reserved"], loops := true, apart := false, laid := [("castings/name.reserved", laid_castings_name_reserved)] }
def TypesIdentitySaid : Prop := typesIdentityRow.holds Tryd.pinned (OpenSpec.ofChange typesIdentitySpec)

/-- ITS FALSE NEIGHBOUR: 'it returns false'. Refute it at one input. -/
def typesIdentityWrong : ChangeSpec := { name := "typesIdentity", fn := fun _ => fun
  | [d] => { results := [.lit (.bool false)], args := [d] }
  | _ => none }
def TypesIdentityWrongFalsely : Prop := typesIdentityRow.holds Tryd.pinned (OpenSpec.ofChange typesIdentityWrong)

/- THE SECOND FORM. 'bulk': how many values and letters a reading holds, each counted each time it is reached (what is shared counts as often as it is met; a slice's spare places count too). A statement '..UptoSaid' is the law's where the arguments, and the package variables that the reading takes, are together of bulk at most 1048576: NARROWER than '..Said'. Prove '..Said' where nothing that the law and all that it calls make is longer than what came in: it says more and counts as full. Else prove '..UptoSaid'. A law counts once. -/
mutual
def uptoBulk {H : Type} : DataW H → Nat
  | .lit (.string bytes) => bytes.length + 1
  | .lit _ => 1
  | .nil => 1
  | .ptr d => uptoBulk d + 1
  | .slice elems spare => uptoBulkAll elems + uptoBulkAll spare + 1
  | .agg parts => uptoBulkAll parts + 1
  | .iface _ d => uptoBulk d + 1
  | .map entries => uptoBulkEntries entries + 1
  | .held _ => 1
def uptoBulkAll {H : Type} : List (DataW H) → Nat
  | [] => 0
  | d :: r => uptoBulk d + uptoBulkAll r
def uptoBulkEntries {H : Type} : List (Lit × DataW H) → Nat
  | [] => 0
  | x :: r => uptoBulkEntry x + uptoBulkEntries r
def uptoBulkEntry {H : Type} : Lit × DataW H → Nat
  | (.string bytes, d) => bytes.length + uptoBulk d + 1
  | (_, d) => uptoBulk d + 1
 end
def uptoSmall : (H : Type) → List (DataW H) → Bool := fun _ ds => decide (uptoBulkAll ds ≤ 1048576)
def OpenSpec.upto (s : _root_.Go.ChangeSpec) : _root_.Go.OpenSpec := { _root_.Go.OpenSpec.ofChange s with cond := some uptoSmall }

/-- 'castingslaw04.TypesMatchReference', WHERE WHAT IT READS IS OF BULK AT MOST 1048576: true; the input reads as it did. -/
def typesMatchReferenceUptoRow : OpenClaim := { program := "ytghmdnfdocdgfaadoor", sum := "1c66bff3f0745d761f854af1b7b401101232dfc3271d64bdd5f6ff4b80d7578e", func := "castings/castingslaw04.TypesMatchReference", spec := "typesMatchReference", inPlace := ["internal/abi.NoEscape", "internal/bytealg.MakeNoZero"], unfollowed := true, recurses := true, named := ["castings/name.reserved"], loops := true, apart := false, laid := [("castings/name.reserved", laid_castings_name_reserved)], narrowed := true }
def TypesMatchReferenceUptoSaid : Prop := typesMatchReferenceUptoRow.holds Tryd.pinned (OpenSpec.upto typesMatchReferenceSpec)

/-- 'castingslaw04.TypesSubstitute', WHERE WHAT IT READS IS OF BULK AT MOST 1048576: true; the input reads as it did. -/
def typesSubstituteUptoRow : OpenClaim := { program := "ytghmdnfdocdgfaadoor", sum := "1c66bff3f0745d761f854af1b7b401101232dfc3271d64bdd5f6ff4b80d7578e", func := "castings/castingslaw04.TypesSubstitute", spec := "typesSubstitute", inPlace := ["internal/abi.NoEscape", "internal/bytealg.MakeNoZero"], unfollowed := true, recurses := true, named := ["castings/name.reserved"], loops := true, apart := false, laid := [("castings/name.reserved", laid_castings_name_reserved)], narrowed := true }
def TypesSubstituteUptoSaid : Prop := typesSubstituteUptoRow.holds Tryd.pinned (OpenSpec.upto typesSubstituteSpec)

/-- 'castingslaw04.TypesNames', WHERE WHAT IT READS IS OF BULK AT MOST 1048576: true; the input reads as it did. -/
def typesNamesUptoRow : OpenClaim := { program := "ytghmdnfdocdgfaadoor", sum := "1c66bff3f0745d761f854af1b7b401101232dfc3271d64bdd5f6ff4b80d7578e", func := "castings/castingslaw04.TypesNames", spec := "typesNames", inPlace := ["internal/abi.NoEscape", "internal/bytealg.MakeNoZero"], unfollowed := true, recurses := true, named := ["castings/name.reserved"], loops := true, apart := false, laid := [("castings/name.reserved", laid_castings_name_reserved)], narrowed := true }
def TypesNamesUptoSaid : Prop := typesNamesUptoRow.holds Tryd.pinned (OpenSpec.upto typesNamesSpec)

/-- 'castingslaw04.TypesShare', WHERE WHAT IT READS IS OF BULK AT MOST 1048576: true; the input reads as it did. -/
def typesShareUptoRow : OpenClaim := { program := "ytghmdnfdocdgfaadoor", sum := "1c66bff3f0745d761f854af1b7b401101232dfc3271d64bdd5f6ff4b80d7578e", func := "castings/castingslaw04.TypesShare", spec := "typesShare", inPlace := ["internal/abi.NoEscape", "internal/bytealg.MakeNoZero"], unfollowed := true, recurses := true, named := ["castings/name.reserved"], loops := true, apart := false, laid := [("castings/name.reserved", laid_castings_name_reserved)], narrowed := true }
def TypesShareUptoSaid : Prop := typesShareUptoRow.holds Tryd.pinned (OpenSpec.upto typesShareSpec)

/-- 'castingslaw04.TypesOrder', WHERE WHAT IT READS IS OF BULK AT MOST 1048576: true; the input reads as it did. -/
def typesOrderUptoRow : OpenClaim := { program := "ytghmdnfdocdgfaadoor", sum := "1c66bff3f0745d761f854af1b7b401101232dfc3271d64bdd5f6ff4b80d7578e", func := "castings/castingslaw04.TypesOrder", spec := "typesOrder", inPlace := ["internal/abi.NoEscape", "internal/bytealg.MakeNoZero"], unfollowed := true, recurses := true, named := ["castings/name.reserved"], loops := true, apart := false, laid := [("castings/name.reserved", laid_castings_name_reserved)], narrowed := true }
def TypesOrderUptoSaid : Prop := typesOrderUptoRow.holds Tryd.pinned (OpenSpec.upto typesOrderSpec)

/-- 'castingslaw04.TypesIdentity', WHERE WHAT IT READS IS OF BULK AT MOST 1048576: true; the input reads as it did. -/
def typesIdentityUptoRow : OpenClaim := { program := "ytghmdnfdocdgfaadoor", sum := "1c66bff3f0745d761f854af1b7b401101232dfc3271d64bdd5f6ff4b80d7578e", func := "castings/castingslaw04.TypesIdentity", spec := "typesIdentity", inPlace := ["internal/abi.NoEscape", "internal/bytealg.MakeNoZero"], unfollowed := true, recurses := true, named := ["castings/name.reserved"], loops := true, apart := false, laid := [("castings/name.reserved", laid_castings_name_reserved)], narrowed := true }
def TypesIdentityUptoSaid : Prop := typesIdentityUptoRow.holds Tryd.pinned (OpenSpec.upto typesIdentitySpec)

end Rows
end Go.Proofs.YtghmdnfdocdgfaaDoor

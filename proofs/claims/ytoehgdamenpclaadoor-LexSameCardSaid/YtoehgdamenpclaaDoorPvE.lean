/- The operations, over values without memory. -/
import Derived.Test.YtoehgdamenpclaaDoorPvD
namespace Go.Pv
open Go

def aggO (P : Program) (t : Nat) : Option Bool :=
  (P.underlying t).map fun d => match d with | .struct _ | .array _ _ => true | _ => false
/-- The element's type of a slice type. -/
def elemT (P : Program) (t : Nat) : Option Nat :=
  match P.underlying t with
  | some (.slice e) => if (P.info? e).isSome then some e else none
  | _ => none
def Rows (sz : Nat) (l : List (List AV)) : Prop := ∀ r ∈ l, r.length = sz ∧ r.all AV.one = true
def foff (P : Program) (t f : Nat) : Option Nat :=
  match P.underlying t with
  | some (.struct fs) => (fs[f]?).bind fun x => if esz P x.type = 0 then none else some x.offset
  | _ => none
def ftyp (P : Program) (t f : Nat) : Nat :=
  match P.underlying t with
  | some (.struct fs) => ((fs[f]?).map (·.type)).getD 0
  | _ => 0
def ikind (P : Program) (t : Nat) : Option IntKind :=
  match P.underlying t with
  | some (.int k) => some k
  | _ => none
def ebytes (P : Program) (e : Nat) : Nat := ((P.info? e).map (·.bytes)).getD 0

def cvA (v : Value) : AV := match cv v with | .v x _ => x | _ => .tup []
/-- The zero value's cells. -/
def azero (P : Program) (t : Nat) : Option (List AV) :=
  ((P.info? t).bind (·.zero)).bind fun z => if z.cells.toList.all (fun v => match cv v with | .v _ _ => true | _ => false) && z.cells.size == esz P t then some (z.cells.toList.map cvA) else none
def nilPos (P : Program) (t : Nat) : List Nat :=
  match (P.info? t).bind (·.zero) with
  | some z => (List.range z.cells.size).filter fun j => match z.cells[j]? with | some (.slice none 0 0) => true | _ => false
  | none => []

inductive OR where
  | stuck
  | val (c : Prop) (x : TV)
  | eff (c : Prop) (σ : AS)
  | call (f : FuncId) (args : List AV)
  | callB (f : FuncId) (args : List AV) (ks : List Nat)      -- a function with boxes
  | yld (l : Nat) (x : AV)

def TV.av : TV → Option AV
  | .v x _ => some x
  | .bld l _ => some (.agg l)
  | _ => none

theorem av_rep {gh : Gh} {h : Array Obj} {v : Value} {x : TV} {y : AV} (r : TRep gh h v x) (e : x.av = some y) : Rep gh.lim h v y := by
  cases x with
  | un => cases e
  | v z g => injection e with e; subst e; exact r.1
  | bld l ns => injection e with e; subst e; exact r.1
  | lp k o => cases e
  | it s p => cases e
  | cl f ks => cases e

def inR (k : IntKind) (n : Int) : Prop := k.wrap n = n

def strOp (op : BinOp) (a b : List UInt8) : OR :=
  match op with
  | .add => .val (a.length + b.length ≤ 9223372036854775807) (.v (.str (a ++ b)) none)
  | .eql => .val True (.v (.bool (a == b)) none)
  | .neq => .val True (.v (.bool (!(a == b))) none)
  | .lss => .val True (.v (.bool (Op.bytesLess a b)) none)
  | .gtr => .val True (.v (.bool (!(Op.bytesLess a b || a == b))) none)
  | _ => .stuck

def intOp (op : BinOp) (k : IntKind) (a b : Int) : OR :=
  match op with
  | .add => .val (inR k (a + b)) (.v (.int k (a + b)) none)
  | .sub => .val (inR k (a - b)) (.v (.int k (a - b)) none)
  | .mul => .val (inR k (a * b)) (.v (.int k (a * b)) none)
  | .quo => .val (b ≠ 0 ∧ inR k (a.tdiv b)) (.v (.int k (a.tdiv b)) none)
  | .rem => .val (b ≠ 0) (.v (.int k (a.tmod b)) none)
  | .eql => .val True (.v (.bool (a == b)) none)
  | .neq => .val True (.v (.bool (a != b)) none)
  | .lss => .val True (.v (.bool (decide (a < b))) none)
  | .leq => .val True (.v (.bool (decide (a ≤ b))) none)
  | .gtr => .val True (.v (.bool (decide (b < a))) none)
  | .geq => .val True (.v (.bool (decide (b ≤ a))) none)
  | _ => .stuck

def binR (op : BinOp) : Option AV → Option AV → OR
  | some (.int k a), some (.int k' b) => if k = k' then intOp op k a b else .stuck
  | some (.str a), some (.str b) => strOp op a b
  | _, _ => .stuck

def boolT (P : Program) (t : Nat) : Bool := P.underlying t matches some .bool
def funcT (P : Program) (t : Nat) : Bool := P.underlying t matches some (.func _ _ _)
def ifaceT (P : Program) (t : Nat) : Bool := P.underlying t matches some (.interface _)
def isC : Operand → Bool | .const _ => true | _ => false
def strB (P : Program) (t : Nat) : Bool := P.underlying t matches some .string
/-- A struct of plain fields, one cell each: the fields' types. -/
def flatFs (P : Program) : List Field → Nat → Option (List Nat)
  | [], _ => some []
  | f :: r, i => if f.name != "_" && f.offset == i && (boolT P f.type || strB P f.type || (ikind P f.type).isSome) then (flatFs P r (i + 1)).map (f.type :: ·) else none
def flatS (P : Program) (t : Nat) : Option (List Nat) :=
  match P.underlying t with
  | some (.struct fs) => if P.stoodInHeld t || P.eqGuardType P.depth t then none else flatFs P fs.toList 0
  | _ => none
def eqK (P : Program) (t : Nat) : AV → AV → Option Bool
  | .bool a, .bool b => if boolT P t then some (a == b) else none
  | .int k a, .int k' b => if k = k' ∧ (ikind P t).isSome = true then some (a == b) else none
  | .str a, .str b => if strB P t then some (a == b) else none
  | _, _ => none
def eqCells (P : Program) : List Nat → List AV → List AV → Option Bool
  | [], [], [] => some true
  | t :: ts, x :: xs, y :: ys => match eqK P t x y, eqCells P ts xs ys with
    | some b, some c => some (b && c)
    | _, _ => none
  | _, _, _ => none
/-- Equality that asks the type; k: one operand is a literal. -/
def eqV (P : Program) (t : Nat) (k : Bool) : AV → AV → Option Bool
  | .bool a, .bool b => if boolT P t then some (a == b) else none
  | .nilFunc, .nilFunc => if funcT P t then some true else none
  | .func _ _, .nilFunc => if funcT P t then some false else none
  | .yld _, .nilFunc => if funcT P t then some false else none
  | .nilIface, .nilIface => if ifaceT P t && k then some true else none
  | .iface _ _, .nilIface => if ifaceT P t then some false else none
  | .nilIface, .iface _ _ => if ifaceT P t then some false else none
  | .agg a, .agg b => (flatS P t).bind fun ts => eqCells P ts a b
  | _, _ => none
def eqR (P : Program) (op : BinOp) (t : Nat) (k : Bool) : Option AV → Option AV → OR
  | some x, some y =>
    match eqV P t k x y, op with
    | some b, .eql => .val True (.v (.bool b) none)
    | some b, .neq => .val True (.v (.bool (!b)) none)
    | _, _ => .stuck
  | _, _ => .stuck
def arrT (P : Program) (t : Nat) : Option (Nat × Nat) :=
  match P.underlying t with
  | some (.array n e) => if (P.info? e).isSome then some (n, e) else none
  | _ => none

def pickR : Option AV → Option AV → Option AV → OR
  | some (.bool c), some x, some y => .val True (.v (if c then x else y) none)
  | _, _, _ => .stuck

def unR (op : UnOp) : Option AV → OR
  | some (.bool b) => match op with | .not => .val True (.v (.bool (!b)) none) | _ => .stuck
  | some (.int k n) => match op with | .neg => .val (inR k (0 - n)) (.v (.int k (0 - n)) none) | _ => .stuck
  | _ => .stuck

def flat : AV → List AV
  | .agg l => l
  | x => [x]

def avs (e : Operand → TV) : List Operand → Option (List AV)
  | [] => some []
  | x :: r => match (e x).av, avs e r with
    | some y, some l => some (y :: l)
    | _, _ => none

/-- Fill a struct's cells: parts by field. -/
def fillA (P : Program) (t : Nat) (e : Operand → TV) : List (Nat × Operand) → List AV → Option (List AV × Prop)
  | [], cells => some (cells, True)
  | (i, x) :: r, cells =>
    match foff P t i, (e x).av with
    | some o, some y => (fillA P t e r (splice cells o (flat y))).map fun p => (p.1, ((flat y).length = esz P (ftyp P t i) ∧ o + (flat y).length ≤ cells.length) ∧ p.2)
    | _, _ => none

/-- Which cells of a struct that is built are still the zero's. -/
def nilsLeft (P : Program) (t : Nat) : List (Nat × Operand) → List Nat → List Nat
  | [], ns => ns
  | (i, _) :: r, ns => nilsLeft P t r (ns.filter fun j => match foff P t i with | some o => !(decide (o ≤ j) && decide (j < o + esz P (ftyp P t i))) | none => false)

def loadR (P : Program) (t : Nat) (cells : List AV) : OR :=
  match aggO P t with
  | some true => .val (esz P t ≤ cells.length) (.v (.agg (cells.take (esz P t))) none)
  | some false => match cells[0]? with
    | some x => .val True (.v x none)
    | none => .stuck
  | none => .stuck

def sub16 (l : List (List AV)) (lo hi : Int) : List (List AV) := (l.take hi.toNat).drop lo.toNat

def sliceR (P : Program) (t : Nat) (x : Option AV) (lo hi : Option (Option AV)) : OR :=
  match x with
  | some (.str s) =>
    if (P.underlying t matches some .string) then
      match lo, hi with
      | none, none => .val True (.v (.str s) none)
      | none, some (some (.int _ h)) => .val (0 ≤ h ∧ h ≤ s.length) (.v (.str (s.take h.toNat)) none)
      | some (some (.int _ l)), none => .val (0 ≤ l ∧ l ≤ s.length) (.v (.str (s.drop l.toNat)) none)
      | some (some (.int _ l)), some (some (.int _ h)) => .val (0 ≤ l ∧ l ≤ h ∧ h ≤ s.length) (.v (.str ((s.take h.toNat).drop l.toNat)) none)
      | _, _ => .stuck
    else .stuck
  | some (.slice s) =>
    match elemT P t with
    | some e =>
      match lo, hi with
      | none, none => .val (Rows (esz P e) s) (.v (.slice s) none)
      | none, some (some (.int _ h)) => .val ((0 ≤ h ∧ h ≤ s.length) ∧ Rows (esz P e) s) (.v (.slice (s.take h.toNat)) none)
      | some (some (.int _ l)), none => .val ((0 ≤ l ∧ l ≤ s.length) ∧ Rows (esz P e) s) (.v (.slice (s.drop l.toNat)) none)
      | some (some (.int _ l)), some (some (.int _ h)) => .val ((0 ≤ l ∧ l ≤ h ∧ h ≤ s.length) ∧ Rows (esz P e) s) (.v (.slice ((s.take h.toNat).drop l.toNat)) none)
      | _, _ => .stuck
    | none => .stuck
  | some (.ro l) =>
    match arrT P t, lo, hi with
    | some (n, e), none, none => if esz P e = 1 then .val (n ≤ l.length) (.v (.slice ((l.take n).map fun x => [x])) none) else .stuck
    | _, _, _ => .stuck
  | _ => .stuck

def lenR (P : Program) (t : Nat) : Option AV → OR
  | some (.str s) => if (P.underlying t matches some .string) then .val True (.v (.int .i64 s.length) none) else .stuck
  | some (.slice l) => if (elemT P t).isSome then .val True (.v (.int .i64 l.length) none) else .stuck
  | _ => .stuck

def mxR (isMax : Bool) : Option AV → Option AV → OR
  | some (.int k x), some (.int _ y) => .val True (.v (.int k (if isMax then (if y > x then y else x) else (if y < x then y else x))) none)
  | _, _ => .stuck

def AS.usesB (σ : AS) (g : Nat) : Bool :=
  σ.tm.any (fun p => match p.2 with | .v _ (some q) => q.1 == g | _ => false) || σ.tb.any (fun q => q.2.2.1 == g)

theorem AS.not_uses {σ : AS} {g : Nat} (h : σ.usesB g = false) (e : Nat) : ¬ σ.uses g e := by
  simp only [AS.usesB, Bool.or_eq_false_iff, List.any_eq_false] at h
  rintro (⟨t, x, hx⟩ | ⟨k, j, hx⟩)
  · have mem : ∀ (l : List (Nat × TV)), look t l = some (.v x (some (g, e))) → (t, TV.v x (some (g, e))) ∈ l := by
      intro l
      induction l with
      | nil => intro h; cases h
      | cons p r ih =>
        intro h
        obtain ⟨j, y⟩ := p
        simp only [look] at h
        split at h
        · rename_i he; subst he; injection h with h; subst h; exact List.mem_cons_self ..
        · exact List.mem_cons_of_mem _ (ih h)
    have := h.1 _ (mem σ.tm hx)
    simp at this
  · have := h.2 _ hx
    simp at this

def gid (k j : Nat) : Nat := 100000 + 1000 * k + j

def AS.openB (σ : AS) (k : Nat) (hint : List (Nat × Nat)) : List Nat → AS
  | [] => σ
  | j :: r => match look (gid k j) hint with
    | some e => if σ.usesB (gid k j) then AS.openB σ k hint r else AS.openB { σ with tb := (k, j, gid k j, e) :: σ.tb } k hint r
    | none => AS.openB σ k hint r

end Go.Pv

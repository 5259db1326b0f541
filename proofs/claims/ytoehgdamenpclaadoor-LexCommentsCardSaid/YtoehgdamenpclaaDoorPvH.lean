/- One operation: what it does to the abstract state (opR), and that it does so. -/
import Derived.Test.YtoehgdamenpclaaDoorPvG
namespace Go.Pv
open Go

def row (l : List (List AV)) (i : Nat) : List AV := (l[i]?).getD []

def tagAt (tb : List (Nat × Nat × Nat × Nat)) (k j : Nat) : Option (Nat × Nat) :=
  match tb with
  | [] => none
  | q :: r => if q.1 = k ∧ q.2.1 = j then some q.2.2 else tagAt r k j

def retag (g : Option (Nat × Nat)) : OR → OR
  | .val c (.v x none) => .val c (.v x g)
  | r => r

def isNil : Value → Bool
  | .slice none 0 0 => true
  | _ => false

def assignR (gl : Gl) (σ : AS) (d : Option Nat) (x : Operand) : OR :=
  match x with
  | .const v =>
    if isNil v then
      match d with
      | some d =>
        match look d σ.hint with
        | some el => if σ.usesB d then .val True (.v (.slice []) none) else .eff True (σ.put (some d) (.v (.slice []) (some (d, el))))
        | none => .val True (.v (.slice []) none)
      | none => .val True (.v (.slice []) none)
    else .val True (cv v)
  | x => .val True (ev gl σ x)

def fieldAddrR (o : Option Nat) : TV → OR
  | .lp k off => match o with | some i => .val True (.lp k (off + i)) | none => .stuck
  | .v (.ro l) _ => match o with | some i => .val True (.v (.ro (l.drop i)) none) | none => .stuck
  | .v (.gp b off) _ => match o with | some i => .val True (.v (.gp b (off + i)) none) | none => .stuck
  | _ => .stuck

def indexAddrR (P : Program) (t : Nat) : Option AV → Option AV → OR
  | some (.slice l), some (.int _ n) =>
    match elemT P t with
    | some e => .val ((0 ≤ n ∧ n < l.length) ∧ (row l n.toNat).length = esz P e) (.v (.ro (row l n.toNat)) none)
    | none => .stuck
  | _, _ => .stuck

def loadOpR (P : Program) (σ : AS) (t : Nat) : TV → OR
  | .v (.ro l) _ => loadR P t l
  | .lp k off => match look k σ.bx with
    | some cells => match aggO P t with
      | some true => loadR P t (cells.drop off)
      | some false => retag (tagAt σ.tb k off) (loadR P t (cells.drop off))
      | none => .stuck
    | none => .stuck
  | .v (.gp b off) _ => match look b σ.sh with
    | some cells => loadR P t (cells.drop off)
    | none => .stuck
  | _ => .stuck

def indexR (P : Program) (t : Nat) : Option AV → Option AV → OR
  | some (.str l), some (.int _ n) => if (P.underlying t matches some .string) then .val (0 ≤ n ∧ n < l.length) (.v (.int .u8 (((l[n.toNat]?).getD 0).toNat : Int)) none) else .stuck
  | _, _ => .stuck

def nilCheckR : TV → OR
  | .lp k off => .val True (.lp k off)
  | .v (.ro l) g => .val True (.v (.ro l) g)
  | .v (.gp b o) g => .val True (.v (.gp b o) g)
  | _ => .stuck

def strT (P : Program) (t : Nat) : Bool := P.underlying t matches some .string
def bytesT (P : Program) (t : Nat) : Bool :=
  match P.underlying t with
  | some (.slice e) => (P.underlying e matches some (.int .u8))
  | _ => false
/-- Bytes, one in each row. -/
def rowNums : List (List AV) → Option (List Int)
  | [] => some []
  | [.int .u8 n] :: r => (rowNums r).map (n :: ·)
  | _ => none
theorem rowNums_spec : ∀ {rows : List (List AV)} {l : List Int}, rowNums rows = some l → rows = l.map fun n => [.int .u8 n]
  | [], l, h => by simp only [rowNums, Option.some.injEq] at h; subst h; rfl
  | r :: rows, l, h => by
    unfold rowNums at h
    split at h
    · cases h
      rename_i he
      cases he
    · rename_i n r' he
      cases he
      cases hq : rowNums rows with
      | none => rw [hq] at h; cases h
      | some m => rw [hq] at h; simp only [Option.map_some, Option.some.injEq] at h; subst h; rw [rowNums_spec hq]; rfl
    · cases h

def convertR (P : Program) (src dst : Nat) : Option AV → OR
  | some (.int _ n) => match P.underlying src, ikind P dst with
    | some _, some k => .val True (.v (.int k (k.wrap n)) none)
    | _, _ => .stuck
  | some (.slice rows) => if bytesT P src && strT P dst then
      match rowNums rows with
      | some l => .val True (.v (.str (l.map fun n => UInt8.ofNat n.toNat)) none)
      | none => .stuck
    else .stuck
  | some (.str s) => if strT P dst && (P.underlying src).isSome then .val True (.v (.str s) none) else .stuck
  | _ => .stuck

def buildR (P : Program) (t : Nat) (e : Operand → TV) (parts : List (Nat × Operand)) : OR :=
  if knownF P t then
    match azero P t with
    | some z => match fillA P t e parts z with
      | some q => .val q.2 (.bld q.1 (nilsLeft P t parts (nilPos P t)))
      | none => .stuck
    | none => .stuck
  else .stuck

def makeFuncR (fn : Fn) (first : Array Operand) (caps : Option (List AV)) : OR :=
  match fn, caps with
  | .func f, some l => if first.size = 0 then .val True (.v (.func f l) none) else .stuck
  | _, _ => .stuck

/-- The boxes that operands point to. -/
def lps (e : Operand → TV) : List Operand → Option (List Nat)
  | [] => some []
  | x :: r => match e x, lps e r with
    | .lp k 0, some l => some (k :: l)
    | _, _ => none
def makeClR (fn : Fn) (first : Array Operand) (caps : Option (List Nat)) : OR :=
  match fn, caps with
  | .func f, some l => if first.size = 0 then .val True (.cl f l) else .stuck
  | _, _ => .stuck

def makeIfaceR (P : Program) (t : Nat) : Option AV → OR
  | some x => if P.concrete t then .val True (.v (.iface t x) none) else .stuck
  | none => .stuck

def extractR (i : Nat) : Option AV → OR
  | some (.tup l) => match l[i]? with
    | some x => .val True (.v x none)
    | none => .stuck
  | _ => .stuck

/-- No function with the box k. -/
def noCl (k : Nat) : List (Nat × TV) → Bool
  | [] => true
  | (_, .cl _ ks) :: r => !ks.contains k && noCl k r
  | (_, .un) :: r | (_, .v _ _) :: r | (_, .bld _ _) :: r | (_, .it _ _) :: r | (_, .lp _ _) :: r => noCl k r
theorem noCl_spec {k : Nat} : ∀ {tm : List (Nat × TV)}, noCl k tm = true → ∀ t f ks, look t tm = some (.cl f ks) → k ∉ ks
  | [], _, t, f, ks, h => by cases h
  | (j, x) :: r, hl, t, f, ks, h => by
    simp only [look] at h
    cases x <;> simp only [noCl, Bool.and_eq_true] at hl
    case cl f' ks' =>
      split at h
      · injection h with h; injection h with h1 h2; subst h2
        intro hk
        have := hl.1
        simp [hk] at this
      · exact noCl_spec hl.2 t f ks h
    all_goals
      split at h
      · injection h with h; cases h
      · exact noCl_spec hl t f ks h

def noClP (k : Nat) (tm : List (Nat × TV)) : Prop := ∀ t f ks, look t tm = some (.cl f ks) → k ∉ ks
theorem noClP_of {k : Nat} {tm : List (Nat × TV)} (h : noCl k tm = true) : noClP k tm := noCl_spec h

def boxR (σ : AS) (d : Option Nat) : TV → OR
  | .bld l ns => match d with
    | some k => match look k σ.bx with
      | none => .eff (noClP k σ.tm ∧ l.all AV.one = true) (AS.openB ({ σ with bx := (k, l) :: σ.bx }.put (some k) (.lp k 0)) k σ.hint ns)
      | some _ => .stuck
    | none => .stuck
  | .v x _ => match d with
    | some k => match look k σ.bx with
      | none => .eff (noClP k σ.tm ∧ (flat x).all AV.one = true) ({ σ with bx := (k, flat x) :: σ.bx }.put (some k) (.lp k 0))
      | some _ => .stuck
    | none => .stuck
  | _ => .stuck

def allocR (P : Program) (σ : AS) (d : Option Nat) (t : Nat) : OR :=
  match azero P t, d with
  | some z, some k => match look k σ.bx with
    | none => .eff (noClP k σ.tm) (AS.openB ({ σ with bx := (k, z) :: σ.bx }.put (some k) (.lp k 0)) k σ.hint (nilPos P t))
    | some _ => .stuck
  | _, _ => .stuck

def tagOf : TV → Option (Nat × Nat)
  | .v _ g => g
  | _ => none
def nsOf : TV → List Nat
  | .bld _ ns => ns
  | _ => []

def storeR (P : Program) (σ : AS) (t : Nat) (a x : TV) : OR :=
  match x.av with
  | none => .stuck
  | some y =>
    match a with
    | .lp k off => match look k σ.bx with
      | some cells => .eff ((flat y).length = esz P t ∧ off + (flat y).length ≤ cells.length ∧ (flat y).all AV.one = true)
          (AS.openB { σ with bx := (k, splice cells off (flat y)) :: σ.bx, tb := tbOf k off (tagOf x) ++ clr σ.tb k off (esz P t) } k σ.hint ((nsOf x).map (off + ·)))
      | none => .stuck
    | .v (.gp b off) _ => match look b σ.sh with
      | some cells => .eff ((flat y).length = esz P t ∧ off + (flat y).length ≤ cells.length ∧ (flat y).all AV.one = true) { σ with sh := (b, splice cells off (flat y)) :: σ.sh }
      | none => .stuck
    | _ => .stuck

/-- The rows of a slice literal whose elements are all given, in order. -/
def rowsOf (e : Operand → TV) : Nat → List (Nat × Operand) → Option (List (List AV))
  | _, [] => some []
  | i, (j, x) :: r => if i = j then
      match (e x).av, rowsOf e (i + 1) r with
      | some y, some l => some (flat y :: l)
      | _, _ => none
    else none

def buildSliceR (P : Program) (σ : AS) (d : Option Nat) (t len : Nat) (rows : Option (List (List AV))) : OR :=
  match elemT P t, rows with
  | some e, some l => if len * esz P e ≤ 16777216 ∧ l.length = len ∧ (azero P e).isSome = true ∧ esz P e ≠ 0 then
      match d with
      | some k => match look k σ.hint with
        | some el => if σ.usesB k = false ∧ el = e then .eff (Rows (esz P e) l) (σ.put (some k) (.v (.slice l) (some (k, e)))) else .val (Rows (esz P e) l) (.v (.slice l) none)
        | none => .val (Rows (esz P e) l) (.v (.slice l) none)
      | none => .stuck
    else .stuck
  | _, _ => .stuck

def appOk (P : Program) (e : Nat) : Bool :=
  match P.info? e with
  | some i => match i.zero with
    | some z => z.cells.size == i.size && i.bytes != 0
    | none => false
  | none => false

def appendR (P : Program) (σ : AS) (d : Option Nat) (t : Nat) (s : TV) (x : Option AV) : OR :=
  match s, x, elemT P t with
  | .v (.slice l) (some (g, el)), some (.slice ys), some e =>
    if el = e ∧ appOk P e = true then
      .eff ((Rows (esz P e) l ∧ Rows (esz P e) ys) ∧ (l.length + ys.length) * ebytes P e ≤ 140737488355328) ((σ.purge g).put d (.v (.slice (l ++ ys)) (some (g, e))))
    else .stuck
  | _, _, _ => .stuck

def callR (P : Program) (gl : Gl) (σ : AS) (d : Option Nat) (c : Call) : OR :=
  match c.callee with
  | .value f => match ev gl σ f, avs (ev gl σ) c.args.toList with
    | .v (.func g caps) _, some l => .call g (l ++ caps)
    | .v (.yld l) _, some [x] => .yld l x
    | .cl g ks, some l => .callB g l ks
    | _, _ => .stuck
  | .builtin b =>
    match b, c.args.toList, c.argTypes.toList with
    | .len, [x], [t] => lenR P t (ev gl σ x).av
    | .max, [x, y], _ => mxR true (ev gl σ x).av (ev gl σ y).av
    | .min, [x, y], _ => mxR false (ev gl σ x).av (ev gl σ y).av
    | .append, [s, x], [t, t'] => if t = t' then appendR P σ d t (ev gl σ s) (ev gl σ x).av else .stuck
    | _, _, _ => .stuck
  | .invoke _ _ => .stuck

def orR : OR → OR → OR
  | .stuck, r => r
  | r, _ => r

/-- A box that nobody will write. -/
def froz (σ : AS) (d : Option Nat) : Bool :=
  match d with
  | some k => (look (200000 + k) σ.hint).isSome
  | none => false

def frozR : TV → OR
  | .v y _ => .val True (.v (.ro (flat y)) none)
  | _ => .stuck

def rangeR (P : Program) (σ : AS) (d : Option Nat) (t : Nat) (x : Option AV) : OR :=
  match P.underlying t, d, x with
  | some .string, some k, some (.str s) => .eff True { σ with tm := (k, .it s 0) :: σ.tm }
  | _, _, _ => .stuck

def dec (s : List UInt8) (p : Nat) : Nat × Nat := Utf8.decode ⟨s.toArray⟩ p

def nextR (σ : AS) (d : Option Nat) (x : Operand) (str : Bool) : OR :=
  match x, str with
  | .tmp t, true => match look t σ.tm with
    | some (.it s p) => if p < s.length
      then .eff (¬ t ∈ σ.fx) ({ σ with tm := (t, .it s (p + (dec s p).2)) :: σ.tm }.put d (.v (.tup [.bool true, .int .i64 p, .int .i32 (dec s p).1]) none))
      else .eff True (σ.put d (.v (.tup [.bool false]) none))
    | _ => .stuck
  | _, _ => .stuck

/-- A field of a struct's value. -/
def fieldR (P : Program) (t i : Nat) : Option AV → OR
  | some (.agg l) => match foff P t i with
    | some off => loadR P (ftyp P t i) (l.drop off)
    | none => .stuck
  | _ => .stuck

def opR (P : Program) (gl : Gl) (σ : AS) (o : Oper) : OR :=
  match o.op with
  | .move x => .val True (ev gl σ x)
  | .assign x => assignR gl σ o.dst x
  | .pick c a b => pickR (ev gl σ c).av (ev gl σ a).av (ev gl σ b).av
  | .binOp op t x y _ => orR (binR op (ev gl σ x).av (ev gl σ y).av) (eqR P op t (isC x || isC y) (ev gl σ x).av (ev gl σ y).av)
  | .unOp op _ x => unR op (ev gl σ x).av
  | .fieldAddr t x f => fieldAddrR (foff P t f) (ev gl σ x)
  | .indexAddr t x i => indexAddrR P t (ev gl σ x).av (ev gl σ i).av
  | .load t x => loadOpR P σ t (ev gl σ x)
  | .index t x i => indexR P t (ev gl σ x).av (ev gl σ i).av
  | .slice t x lo hi none => sliceR P t (ev gl σ x).av (lo.map fun y => (ev gl σ y).av) (hi.map fun y => (ev gl σ y).av)
  | .nilCheck x => nilCheckR (ev gl σ x)
  | .convert src dst x => convertR P src dst (ev gl σ x).av
  | .build t parts => buildR P t (ev gl σ) parts.toList
  | .makeFunc fn first caps => orR (makeFuncR fn first (avs (ev gl σ) caps.toList)) (makeClR fn first (lps (ev gl σ) caps.toList))
  | .makeInterface t x => makeIfaceR P t (ev gl σ x).av
  | .extract x i => extractR i (ev gl σ x).av
  | .box _ x => if froz σ o.dst then frozR (ev gl σ x) else boxR σ o.dst (ev gl σ x)
  | .alloc t => allocR P σ o.dst t
  | .store t a x => storeR P σ t (ev gl σ a) (ev gl σ x)
  | .buildSlice t len parts => buildSliceR P σ o.dst t len (rowsOf (ev gl σ) 0 parts.toList)
  | .call c => callR P gl σ o.dst c
  | .range t x => rangeR P σ o.dst t (ev gl σ x).av
  | .next x str => nextR σ o.dst x str
  | .field t x i => fieldR P t i (ev gl σ x).av
  | _ => .stuck

/-- What one operation that hands back a value owes. -/
def ValOk (cx : Cx) (σ : AS) (a : Act) (w : World) (o : Oper) (x : TV) : Prop :=
  ∃ v w' gh', (execOp a.eval o).run cx.P w = .ok (.value v) w' ∧ RR cx gh' σ a w' ∧ TRep gh' w'.heap v x ∧ (∀ k off, x = .lp k off → (look k σ.bx).isSome = true) ∧ ∀ y g e, x = .v y (some (g, e)) → σ.uses g e

def EffOk (cx : Cx) (a : Act) (w : World) (o : Oper) (σ' : AS) : Prop :=
  (∃ v w', (execOp a.eval o).run cx.P w = .ok (.value v) w' ∧ R cx σ' (a.put o.dst v) w') ∨
  (∃ w', (execOp a.eval o).run cx.P w = .ok .skip w' ∧ R cx σ' (a.put o.dst undef) w')

theorem ValOk.of_yl {cx : Cx} {gh : Gh} {σ : AS} {a : Act} {w : World} {o : Oper} {x : TV} {s : Sem Value} (r : RR cx gh σ a w) (he : execOp a.eval o = (do pure (.value (← s)))) (h : Yl cx.P gh w s x)
    (h1 : ∀ k off, x = .lp k off → (look k σ.bx).isSome = true) (h2 : ∀ y g e, x = .v y (some (g, e)) → σ.uses g e) : ValOk cx σ a w o x := by
  obtain ⟨v, hv, hr⟩ := h
  exact ⟨v, w, gh, by rw [he]; simp [hv], r, hr, h1, h2⟩

/-- Results that bear no tag and are no pointers into boxes. -/
def TV.plain : TV → Prop
  | .v _ none | .un | .bld _ _ | .cl _ _ => True
  | _ => False

theorem TV.plain_lp {x : TV} (h : x.plain) (k off : Nat) : x ≠ .lp k off := fun e => by subst e; exact h
theorem TV.plain_v {x : TV} (h : x.plain) (y : AV) (p : Nat × Nat) : x ≠ .v y (some p) := fun e => by subst e; exact h

theorem ValOk.of_plain {cx : Cx} {gh : Gh} {σ : AS} {a : Act} {w : World} {o : Oper} {x : TV} {s : Sem Value} (r : RR cx gh σ a w) (he : execOp a.eval o = (do pure (.value (← s)))) (h : Yl cx.P gh w s x) (hp : TV.plain x) : ValOk cx σ a w o x :=
  .of_yl r he h (fun k off e => absurd e (TV.plain_lp hp k off)) (fun y g e h => absurd h (TV.plain_v hp y (g, e)))

end Go.Pv

import Derived.Test.YtghmdnfdocdgfaaDoorPvD
set_option linter.all false
section
/- The operations, over values without memory. -/
namespace Go.Pv
open Go

def aggO (P : Program) (t : Nat) : Option Bool :=
  (P.underlying t).map fun d => match d with | .struct _ | .array _ _ => true | _ => false
def elemT (P : Program) (t : Nat) : Option Nat :=
  match P.underlying t with
  | some (.slice e) => if (P.info? e).isSome then some e else none
  | _ => none
def Rows (sz : Nat) (l : List (List AV)) : Prop := ∀ r ∈ l, r.length = sz ∧ r.all AV.one = true
def foff (P : Program) (t f : Nat) : Option Nat :=
  match P.underlying t with
  | some (.struct fs) => (fs[f]?).bind fun x => if esz P x.type = 0 then none else some x.offset
  | _ => none
def ftyp (P : Program) (t f : Nat) : Nat :=
  match P.underlying t with
  | some (.struct fs) => ((fs[f]?).map (·.type)).getD 0
  | _ => 0
def ikind (P : Program) (t : Nat) : Option IntKind :=
  match P.underlying t with
  | some (.int k) => some k
  | _ => none
def ebytes (P : Program) (e : Nat) : Nat := ((P.info? e).map (·.bytes)).getD 0

def cvA (v : Value) : AV := match cv v with | .v x _ => x | _ => .tup []
def azero (P : Program) (t : Nat) : Option (List AV) :=
  ((P.info? t).bind (·.zero)).bind fun z => if z.cells.toList.all (fun v => match cv v with | .v _ _ => true | _ => false) && z.cells.size == esz P t then some (z.cells.toList.map cvA) else none
def nilPos (P : Program) (t : Nat) : List Nat :=
  match (P.info? t).bind (·.zero) with
  | some z => (List.range z.cells.size).filter fun j => match z.cells[j]? with | some (.slice none 0 0) => true | _ => false
  | none => []

inductive OR where
  | stuck
  | val (c : Prop) (x : TV)
  | eff (c : Prop) (σ : AS)
  | call (f : FuncId) (args : List AV)
  | callB (f : FuncId) (args : List AV) (ks : List Nat)      -- a function with boxes
  | yld (l : Nat) (x : AV)

def TV.av : TV → Option AV
  | .v x _ => some x
  | .bld l _ => some (.agg l)
  | _ => none

theorem av_rep {gh : Gh} {h : Array Obj} {v : Value} {x : TV} {y : AV} (r : TRep gh h v x) (e : x.av = some y) : Rep gh.lim h v y := by
  cases x with
  | un => cases e
  | v z g => injection e with e; subst e; exact r.1
  | bld l ns => injection e with e; subst e; exact r.1
  | lp k o => cases e
  | it k9 => cases e
  | cl f ks => cases e

def inR (k : IntKind) (n : Int) : Prop := k.wrap n = n

def strOp (op : BinOp) (a b : List UInt8) : OR :=
  match op with
  | .add => .val (a.length + b.length ≤ 9223372036854775807) (.v (.str (a ++ b)) none)
  | .eql => .val True (.v (.bool (a == b)) none)
  | .neq => .val True (.v (.bool (!(a == b))) none)
  | .lss => .val True (.v (.bool (Op.bytesLess a b)) none)
  | .gtr => .val True (.v (.bool (!(Op.bytesLess a b || a == b))) none)
  | _ => .stuck

def intOp (op : BinOp) (k : IntKind) (a b : Int) : OR :=
  match op with
  | .add => .val (inR k (a + b)) (.v (.int k (a + b)) none)
  | .sub => .val (inR k (a - b)) (.v (.int k (a - b)) none)
  | .mul => .val (inR k (a * b)) (.v (.int k (a * b)) none)
  | .quo => .val (b ≠ 0 ∧ inR k (a.tdiv b)) (.v (.int k (a.tdiv b)) none)
  | .rem => .val (b ≠ 0) (.v (.int k (a.tmod b)) none)
  | .eql => .val True (.v (.bool (a == b)) none)
  | .neq => .val True (.v (.bool (a != b)) none)
  | .lss => .val True (.v (.bool (decide (a < b))) none)
  | .leq => .val True (.v (.bool (decide (a ≤ b))) none)
  | .gtr => .val True (.v (.bool (decide (b < a))) none)
  | .geq => .val True (.v (.bool (decide (b ≤ a))) none)
  | _ => .stuck

def binR (op : BinOp) : Option AV → Option AV → OR
  | some (.int k a), some (.int k' b) => if k = k' then intOp op k a b else .stuck
  | some (.str a), some (.str b) => strOp op a b
  | _, _ => .stuck

def boolT (P : Program) (t : Nat) : Bool := P.underlying t matches some .bool
def funcT (P : Program) (t : Nat) : Bool := P.underlying t matches some (.func _ _ _)
def ptrT (P : Program) (t : Nat) : Bool := P.underlying t matches some (.pointer _)
def ifaceT (P : Program) (t : Nat) : Bool := P.underlying t matches some (.interface _)
def isC : Operand → Bool | .const _ => true | _ => false
def strB (P : Program) (t : Nat) : Bool := P.underlying t matches some .string
def flatFs (P : Program) : List Field → Nat → Option (List Nat)
  | [], _ => some []
  | f :: r, i => if f.name != "_" && f.offset == i && (boolT P f.type || strB P f.type || (ikind P f.type).isSome) then (flatFs P r (i + 1)).map (f.type :: ·) else none
def flatS (P : Program) (t : Nat) : Option (List Nat) :=
  match P.underlying t with
  | some (.struct fs) => if P.stoodInHeld t || P.eqGuardType P.depth t then none else flatFs P fs.toList 0
  | _ => none
def eqK (P : Program) (t : Nat) : AV → AV → Option Bool
  | .bool a, .bool b => if boolT P t then some (a == b) else none
  | .int k a, .int k' b => if k = k' ∧ (ikind P t).isSome = true then some (a == b) else none
  | .str a, .str b => if strB P t then some (a == b) else none
  | _, _ => none
def eqCells (P : Program) : List Nat → List AV → List AV → Option Bool
  | [], [], [] => some true
  | t :: ts, x :: xs, y :: ys => match eqK P t x y, eqCells P ts xs ys with
    | some b, some c => some (b && c)
    | _, _ => none
  | _, _, _ => none
def eqV (P : Program) (t : Nat) (k : Bool) : AV → AV → Option Bool
  | .bool a, .bool b => if boolT P t then some (a == b) else none
  | .nilFunc, .nilFunc => if funcT P t then some true else none
  | .func _ _, .nilFunc => if funcT P t then some false else none
  | .yld _, .nilFunc => if funcT P t then some false else none
  | .nilIface, .nilIface => if ifaceT P t && k then some true else none
  | .iface _ _, .nilIface => if ifaceT P t then some false else none
  | .nilIface, .iface _ _ => if ifaceT P t then some false else none
  | .agg a, .agg b => (flatS P t).bind fun ts => eqCells P ts a b
  | .gp _ _, .nilPtr => if ptrT P t then some false else none
  | _, _ => none
def eqR (P : Program) (op : BinOp) (t : Nat) (k : Bool) : Option AV → Option AV → OR
  | some x, some y =>
    match eqV P t k x y, op with
    | some b, .eql => .val True (.v (.bool b) none)
    | some b, .neq => .val True (.v (.bool (!b)) none)
    | _, _ => .stuck
  | _, _ => .stuck
def isNilS : Operand → Bool | .const (.slice none 0 0) => true | _ => false
def nilSR (P : Program) (op : BinOp) (t : Nat) (k : Bool) : Option AV → OR
  | some (.slice l) => if k = true ∧ (elemT P t).isSome = true then
      match op, l with
      | .eql, [] => .val True (.v .anyB none)
      | .neq, [] => .val True (.v .anyB none)
      | .eql, _ :: _ => .val True (.v (.bool false) none)
      | .neq, _ :: _ => .val True (.v (.bool true) none)
      | _, _ => .stuck
    else .stuck
  | some .nilS => if k = true ∧ (elemT P t).isSome = true then
      match op with
      | .eql => .val True (.v (.bool true) none)
      | .neq => .val True (.v (.bool false) none)
      | _ => .stuck
    else .stuck
  | _ => .stuck
def arrT (P : Program) (t : Nat) : Option (Nat × Nat) :=
  match P.underlying t with
  | some (.array n e) => if (P.info? e).isSome then some (n, e) else none
  | _ => none

def pickR : Option AV → Option AV → Option AV → OR
  | some (.bool c), some x, some y => .val True (.v (if c then x else y) none)
  | _, _, _ => .stuck

def unR (op : UnOp) : Option AV → OR
  | some (.bool b) => match op with | .not => .val True (.v (.bool (!b)) none) | _ => .stuck
  | some (.int k n) => match op with | .neg => .val (inR k (0 - n)) (.v (.int k (0 - n)) none) | _ => .stuck
  | _ => .stuck

def flat : AV → List AV
  | .agg l => l
  | x => [x]

def avs (e : Operand → TV) : List Operand → Option (List AV)
  | [] => some []
  | x :: r => match (e x).av, avs e r with
    | some y, some l => some (y :: l)
    | _, _ => none

def fillA (P : Program) (t : Nat) (e : Operand → TV) : List (Nat × Operand) → List AV → Option (List AV × Prop)
  | [], cells => some (cells, True)
  | (i, x) :: r, cells =>
    match foff P t i, (e x).av with
    | some o, some y => (fillA P t e r (splice cells o (flat y))).map fun p => (p.1, ((flat y).length = esz P (ftyp P t i) ∧ o + (flat y).length ≤ cells.length) ∧ p.2)
    | _, _ => none

def nilsLeft (P : Program) (t : Nat) : List (Nat × Operand) → List Nat → List Nat
  | [], ns => ns
  | (i, _) :: r, ns => nilsLeft P t r (ns.filter fun j => match foff P t i with | some o => !(decide (o ≤ j) && decide (j < o + esz P (ftyp P t i))) | none => false)

def loadR (P : Program) (t : Nat) (cells : List AV) : OR :=
  match aggO P t with
  | some true => .val (esz P t ≤ cells.length) (.v (.agg (cells.take (esz P t))) none)
  | some false => match cells[0]? with
    | some x => .val True (.v x none)
    | none => .stuck
  | none => .stuck

def sub16 (l : List (List AV)) (lo hi : Int) : List (List AV) := (l.take hi.toNat).drop lo.toNat

def sliceR (P : Program) (t : Nat) (x : Option AV) (lo hi : Option (Option AV)) : OR :=
  match x with
  | some (.str s) =>
    if (P.underlying t matches some .string) then
      match lo, hi with
      | none, none => .val True (.v (.str s) none)
      | none, some (some (.int _ h)) => .val (0 ≤ h ∧ h ≤ s.length) (.v (.str (s.take h.toNat)) none)
      | some (some (.int _ l)), none => .val (0 ≤ l ∧ l ≤ s.length) (.v (.str (s.drop l.toNat)) none)
      | some (some (.int _ l)), some (some (.int _ h)) => .val (0 ≤ l ∧ l ≤ h ∧ h ≤ s.length) (.v (.str ((s.take h.toNat).drop l.toNat)) none)
      | _, _ => .stuck
    else .stuck
  | some (.slice s) =>
    match elemT P t with
    | some e =>
      match lo, hi with
      | none, none => .val (Rows (esz P e) s) (.v (.slice s) none)
      | none, some (some (.int _ h)) => .val ((0 ≤ h ∧ h ≤ s.length) ∧ Rows (esz P e) s) (.v (.slice (s.take h.toNat)) none)
      | some (some (.int _ l)), none => .val ((0 ≤ l ∧ l ≤ s.length) ∧ Rows (esz P e) s) (.v (.slice (s.drop l.toNat)) none)
      | some (some (.int _ l)), some (some (.int _ h)) => .val ((0 ≤ l ∧ l ≤ h ∧ h ≤ s.length) ∧ Rows (esz P e) s) (.v (.slice ((s.take h.toNat).drop l.toNat)) none)
      | _, _ => .stuck
    | none => .stuck
  | some (.ro l) =>
    match arrT P t, lo, hi with
    | some (n, e), none, none => if esz P e = 1 then .val (n ≤ l.length) (.v (.slice ((l.take n).map fun x => [x])) none) else .stuck
    | _, _, _ => .stuck
  | _ => .stuck

def lenR (P : Program) (t : Nat) : Option AV → OR
  | some (.str s) => if (P.underlying t matches some .string) then .val True (.v (.int .i64 s.length) none) else .stuck
  | some (.slice l) => if (elemT P t).isSome then .val True (.v (.int .i64 l.length) none) else .stuck
  | _ => .stuck

def mxR (isMax : Bool) : Option AV → Option AV → OR
  | some (.int k x), some (.int _ y) => .val True (.v (.int k (if isMax then (if y > x then y else x) else (if y < x then y else x))) none)
  | _, _ => .stuck

def AS.usesB (σ : AS) (g : Nat) : Bool :=
  σ.tm.any (fun p => match p.2 with | .v _ (some q) => q.1 == g | _ => false) || σ.tb.any (fun q => q.2.2.1 == g)

theorem AS.not_uses {σ : AS} {g : Nat} (h : σ.usesB g = false) (e : Nat) : ¬ σ.uses g e := by
  simp only [AS.usesB, Bool.or_eq_false_iff, List.any_eq_false] at h
  rintro (⟨t, x, hx⟩ | ⟨k, j, hx⟩)
  · have mem : ∀ (l : List (Nat × TV)), look t l = some (.v x (some (g, e))) → (t, TV.v x (some (g, e))) ∈ l := by
      intro l
      induction l with
      | nil => intro h; cases h
      | cons p r ih =>
        intro h
        obtain ⟨j, y⟩ := p
        simp only [look] at h
        split at h
        · rename_i he; subst he; injection h with h; subst h; exact List.mem_cons_self ..
        · exact List.mem_cons_of_mem _ (ih h)
    have := h.1 _ (mem σ.tm hx)
    simp at this
  · have := h.2 _ hx
    simp at this

def gid (k j : Nat) : Nat := 100000 + 1000 * k + j

def AS.openB (σ : AS) (k : Nat) (hint : List (Nat × Nat)) : List Nat → AS
  | [] => σ
  | j :: r => match look (gid k j) hint with
    | some e => if σ.usesB (gid k j) then AS.openB σ k hint r else AS.openB { σ with tb := (k, j, gid k j, e) :: σ.tb } k hint r
    | none => AS.openB σ k hint r

end Go.Pv
end

section
/- The operations over values without memory are right. -/
namespace Go.Pv
open Go

theorem rep_int {lim : Lim} {h : Array Obj} {v : Value} {k : IntKind} {n : Int} (r : Rep lim h v (.int k n)) : v = .int k n := by cases r; rfl
theorem rep_bool {lim : Lim} {h : Array Obj} {v : Value} {b : Bool} (r : Rep lim h v (.bool b)) : v = .bool b := by cases r; rfl
theorem rep_yld {lim : Lim} {h : Array Obj} {v : Value} {l : Nat} (r : Rep lim h v (.yld l)) : v = .func (.yield l) #[] #[] := by cases r; rfl
theorem rep_str {lim : Lim} {h : Array Obj} {v : Value} {l : List UInt8} (r : Rep lim h v (.str l)) : v = .string ⟨l.toArray⟩ := by cases r; rfl

theorem trep_int (gh : Gh) (h : Array Obj) (k : IntKind) (n : Int) : TRep gh h (.int k n) (.v (.int k n) none) := ⟨.int k n, by simp⟩
theorem trep_bool (gh : Gh) (h : Array Obj) (b : Bool) : TRep gh h (.bool b) (.v (.bool b) none) := ⟨.bool b, by simp⟩
theorem trep_str (gh : Gh) (h : Array Obj) (l : List UInt8) : TRep gh h (.string ⟨l.toArray⟩) (.v (.str l) none) := ⟨.str l, by simp⟩
theorem trep_v {gh : Gh} {h : Array Obj} {v : Value} {x : AV} (r : Rep gh.lim h v x) : TRep gh h v (.v x none) := ⟨r, by simp⟩

theorem ba_append (a b : List UInt8) : (⟨a.toArray⟩ : ByteArray) ++ ⟨b.toArray⟩ = ⟨(a ++ b).toArray⟩ := by
  apply ByteArray.ext
  rw [ByteArray.data_append]
  simp
theorem ba_size (l : List UInt8) : (⟨l.toArray⟩ : ByteArray).size = l.length := by simp [ByteArray.size]

def Yl (P : Program) (gh : Gh) (w : World) (s : Sem Value) (x : TV) : Prop := ∃ v, s.run P w = .ok v w ∧ TRep gh w.heap v x

theorem intOp_sound {P : Program} {gh : Gh} {w : World} {op : BinOp} {k : IntKind} {a b : Int} {t : TypeId} {xo yo : Operand} {c : Prop} {z : TV}
    (h : intOp op k a b = .val c z) (hc : c) : Yl P gh w (do eqGuard op t xo yo (.int k a) (.int k b); binOp op t (.int k a) (.int k b)) z := by
  rw [eqGuard_at_int]
  cases op <;> simp only [intOp, OR.val.injEq, reduceCtorEq] at h <;> obtain ⟨h1, rfl⟩ := h <;> subst h1
  · exact ⟨.int k (a + b), by simp [binOp, Op.intArith, show k.wrap (a + b) = a + b from hc], trep_int _ _ _ _⟩
  · exact ⟨.int k (a - b), by simp [binOp, Op.intArith, show k.wrap (a - b) = a - b from hc], trep_int _ _ _ _⟩
  · exact ⟨.int k (a * b), by simp [binOp, Op.intArith, show k.wrap (a * b) = a * b from hc], trep_int _ _ _ _⟩
  · exact ⟨.int k (a.tdiv b), by simp [binOp, Op.intDiv, hc.1, show k.wrap (a.tdiv b) = a.tdiv b from hc.2], trep_int _ _ _ _⟩
  · exact ⟨.int k (a.tmod b), by simp [binOp, Op.intDiv, hc], trep_int _ _ _ _⟩
  all_goals exact ⟨.bool _, by simp [binOp, Op.intCmp], trep_bool _ _ _⟩

theorem strOp_sound {P : Program} {gh : Gh} {w : World} {op : BinOp} {a b : List UInt8} {t : TypeId} {xo yo : Operand} {c : Prop} {z : TV}
    (h : strOp op a b = .val c z) (hc : c) : Yl P gh w (do eqGuard op t xo yo (.string ⟨a.toArray⟩) (.string ⟨b.toArray⟩); binOp op t (.string ⟨a.toArray⟩) (.string ⟨b.toArray⟩)) z := by
  rw [eqGuard_at_string]
  cases op <;> simp only [strOp, OR.val.injEq, reduceCtorEq] at h <;> obtain ⟨h1, rfl⟩ := h <;> subst h1
  case add =>
    refine ⟨_, ?_, trep_str _ _ _⟩
    have h2 : ¬ (9223372036854775807 : Int) < (((⟨a.toArray⟩ : ByteArray).size + (⟨b.toArray⟩ : ByteArray).size : Nat) : Int) := by rw [ba_size, ba_size]; omega
    simp only [binOp, Op.stringOp, Sem.run_bind, Sem.run_pure, Result.andThen_ok, IntKind.max_i64, gt_iff_lt, h2, if_false, ba_append]
  all_goals exact ⟨.bool _, by simp [binOp, Op.stringOp, ByteArray.toList_mk], trep_bool _ _ _⟩

theorem binR_sound {P : Program} {gh : Gh} {w : World} {op : BinOp} {x y : Option AV} {vx vy : Value} {t : TypeId} {xo yo : Operand} {c : Prop} {z : TV}
    (hx : ∀ a, x = some a → Rep gh.lim w.heap vx a) (hy : ∀ a, y = some a → Rep gh.lim w.heap vy a) (h : binR op x y = .val c z) (hc : c) :
    Yl P gh w (do eqGuard op t xo yo vx vy; binOp op t vx vy) z := by
  unfold binR at h
  split at h
  · rename_i k a k' b
    split at h
    · rename_i hk; subst hk
      obtain rfl := rep_int (hx _ rfl)
      obtain rfl := rep_int (hy _ rfl)
      exact intOp_sound h hc
    · cases h
  · obtain rfl := rep_str (hx _ rfl)
    obtain rfl := rep_str (hy _ rfl)
    exact strOp_sound h hc
  · cases h

theorem run_eqB {P : Program} {op : BinOp} {t : TypeId} {u v : Value} {b : Bool} {w : World} (hs : (binOp .eql t u v = do pure (.bool (← Op.equal t u v))) ∧ (binOp .neq t u v = do pure (.bool (!(← Op.equal t u v)))))
    (h : (Op.equal t u v).run P w = .ok b w) (ho : op = .eql ∨ op = .neq) : (binOp op t u v).run P w = .ok (.bool (if op = .eql then b else !b)) w := by
  rcases ho with rfl | rfl
  · rw [hs.1]; simp [h]
  · rw [hs.2]; simp [h]

theorem boolT_spec {P : Program} {t : TypeId} (h : boolT P t = true) : P.underlying t = some .bool := by unfold boolT at h; split at h <;> first | assumption | cases h
theorem funcT_spec {P : Program} {t : TypeId} (h : funcT P t = true) : ∃ a b c, P.underlying t = some (.func a b c) := by unfold funcT at h; split at h <;> first | exact ⟨_, _, _, by assumption⟩ | cases h
theorem ifaceT_spec {P : Program} {t : TypeId} (h : ifaceT P t = true) : ∃ a, P.underlying t = some (.interface a) := by unfold ifaceT at h; split at h <;> first | exact ⟨_, by assumption⟩ | cases h

theorem ptrT_spec {P : Program} {t : TypeId} (h : ptrT P t = true) : ∃ a, P.underlying t = some (.pointer a) := by unfold ptrT at h; split at h <;> first | exact ⟨_, by assumption⟩ | cases h

theorem depth_succ : ∃ d, Op.maxDepth = d + 1 := ⟨_, rfl⟩

theorem strB_spec {P : Program} {t : TypeId} (h : strB P t = true) : P.underlying t = some .string := by unfold strB at h; split at h <;> first | assumption | cases h
theorem ikind_some {P : Program} {t : TypeId} (h : (ikind P t).isSome = true) : ∃ k, P.underlying t = some (.int k) := by
  unfold ikind at h
  split at h
  · exact ⟨_, by assumption⟩
  · cases h
theorem run_part_one {P : Program} {t : TypeId} {cs : Array Value} {i : Nat} {v : Value} {w : World} (h : P.underlying t = some .bool ∨ P.underlying t = some .string ∨ ∃ k, P.underlying t = some (.int k)) (hv : cs[i]? = some v) : (part t cs i).run P w = .ok v w := by
  rcases h with h | h | ⟨k, h⟩ <;> simp [part, isAgg, run_underlying h, hv]
theorem eqK_sound {P : Program} {lim : Lim} {w : World} {x y : AV} {vx vy : Value} {t : TypeId} {b : Bool} {d : Nat}
    (hx : Rep lim w.heap vx x) (hy : Rep lim w.heap vy y) (h : eqK P t x y = some b) : (Op.equalIn (d + 1) t vx vy).run P w = .ok b w := by
  unfold eqK at h
  split at h
  · obtain rfl := rep_bool hx
    obtain rfl := rep_bool hy
    split at h
    · rename_i hu
      obtain rfl := Option.some.inj h
      exact run_equalIn_bool w d t _ _ (boolT_spec hu)
    · cases h
  · obtain rfl := rep_int hx
    obtain rfl := rep_int hy
    split at h
    · rename_i hu
      obtain ⟨rfl, hu⟩ := hu
      obtain ⟨k', hu⟩ := ikind_some hu
      obtain rfl := Option.some.inj h
      exact run_equalIn_int w d t _ k' _ _ hu
    · cases h
  · obtain rfl := rep_str hx
    obtain rfl := rep_str hy
    split at h
    · rename_i hu
      obtain rfl := Option.some.inj h
      rw [run_equalIn_string w d t _ _ (strB_spec hu)]
      simp [ByteArray.toList_mk]
    · cases h
  · cases h
theorem eqFields_sound {P : Program} {lim : Lim} {w : World} {xs ys : Array Value} {d : Nat} : ∀ (fs : List Field) (i : Nat) (ts : List Nat) (la lb : List AV) (b : Bool), flatFs P fs i = some ts → RepL lim w.heap (xs.toList.drop i) la → RepL lim w.heap (ys.toList.drop i) lb →
    eqCells P ts la lb = some b → (Op.eqFields (d + 1) xs ys fs).run P w = .ok b w
  | [], i, ts, la, lb, b, hf, ha, hb, h => by
    simp only [flatFs, Option.some.injEq] at hf
    subst hf
    cases la with
    | nil =>
      cases lb with
      | nil => simp only [eqCells, Option.some.injEq] at h; subst h; rfl
      | cons y ys => simp [eqCells] at h
    | cons x xs => simp [eqCells] at h
  | f :: fs, i, ts, la, lb, b, hf, ha, hb, h => by
    simp only [flatFs] at hf
    split at hf
    · rename_i hc
      simp only [Bool.and_eq_true, bne_iff_ne, ne_eq, beq_iff_eq, Bool.or_eq_true] at hc
      obtain ⟨⟨h1, h2⟩, h3⟩ := hc
      obtain ⟨ts', hts, rfl⟩ := Option.map_eq_some_iff.1 hf
      cases la with
      | nil => simp [eqCells] at h
      | cons x xs' =>
       cases lb with
       | nil => simp [eqCells] at h
       | cons y ys' =>
        simp only [eqCells] at h
        split at h
        · rename_i c1 c2 e1 e2
          injection h with h; subst h
          have hun : P.underlying f.type = some .bool ∨ P.underlying f.type = some .string ∨ ∃ k, P.underlying f.type = some (.int k) := by
            rcases h3 with (h3 | h3) | h3
            · exact .inl (boolT_spec h3)
            · exact .inr (.inl (strB_spec h3))
            · exact .inr (.inr (ikind_some h3))
          obtain ⟨va, hva, hra⟩ := ha.get (j := 0) rfl
          obtain ⟨vb, hvb, hrb⟩ := hb.get (j := 0) rfl
          rw [List.getElem?_drop] at hva hvb
          have ih := eqFields_sound (d := d) fs (i + 1) ts' xs' ys' c2 hts (by
            have := ha.drop 1
            rwa [List.drop_drop] at this) (by
            have := hb.drop 1
            rwa [List.drop_drop] at this) e2
          have hpa := run_part_one (P := P) (w := w) hun (cs := xs) (i := f.offset) (v := va) (by rw [h2]; simpa using hva)
          have hpb := run_part_one (P := P) (w := w) hun (cs := ys) (i := f.offset) (v := vb) (by rw [h2]; simpa using hvb)
          have he := eqK_sound (d := d) hra hrb e1
          rw [Op.eqFields, if_pos h1]
          simp only [Sem.run_bind, hpa, hpb, he, Result.andThen_ok]
          cases c1
          · simp
          · simpa using ih
        · cases h
    · cases hf

theorem eqV_sound {P : Program} {gh : Gh} {w : World} {op : BinOp} {x y : AV} {vx vy : Value} {t : TypeId} {xo yo : Operand} {b : Bool}
    (hx : Rep gh.lim w.heap vx x) (hy : Rep gh.lim w.heap vy y) (h : eqV P t (isC xo || isC yo) x y = some b) (ho : op = .eql ∨ op = .neq) :
    (do eqGuard op t xo yo vx vy; binOp op t vx vy).run P w = .ok (.bool (if op = .eql then b else !b)) w := by
  obtain ⟨d, hd⟩ := depth_succ
  have key : ∀ (u v : Value) (b : Bool), ((binOp .eql t u v = do pure (.bool (← Op.equal t u v))) ∧ (binOp .neq t u v = do pure (.bool (!(← Op.equal t u v))))) → (Op.equal t u v).run P w = .ok b w →
      (eqGuard op t xo yo u v).run P w = .ok () w → (do eqGuard op t xo yo u v; binOp op t u v).run P w = .ok (.bool (if op = .eql then b else !b)) w := by
    intro u v b h1 h2 h3
    simp only [Sem.run_bind, h3, Result.andThen_ok]
    exact run_eqB h1 h2 ho
  unfold eqV at h
  split at h
  · obtain rfl := rep_bool hx
    obtain rfl := rep_bool hy
    split at h
    · rename_i hu
      obtain rfl := Option.some.inj h
      refine key _ _ _ ⟨rfl, rfl⟩ ?_ (by rw [eqGuard_at_bool]; rfl)
      unfold Op.equal; rw [hd]; unfold Op.equalIn; simp [run_underlying (boolT_spec hu)]
    · cases h
  · split at h
    · rename_i hu
      obtain ⟨a1, a2, a3, hu⟩ := funcT_spec hu
      obtain rfl := Option.some.inj h
      cases hx; cases hy
      refine key _ _ _ ⟨rfl, rfl⟩ ?_ (by rcases ho with rfl | rfl <;> rfl)
      unfold Op.equal; rw [hd]; unfold Op.equalIn; simp [run_underlying hu]
    · cases h
  · split at h
    · rename_i hu
      obtain ⟨a1, a2, a3, hu⟩ := funcT_spec hu
      obtain rfl := Option.some.inj h
      cases hx; cases hy
      refine key _ _ _ ⟨rfl, rfl⟩ ?_ (by rcases ho with rfl | rfl <;> rfl)
      unfold Op.equal; rw [hd]; unfold Op.equalIn; simp [run_underlying hu]
    · cases h
  · split at h
    · rename_i hu
      obtain ⟨a1, a2, a3, hu⟩ := funcT_spec hu
      obtain rfl := Option.some.inj h
      cases hx; cases hy
      refine key _ _ _ ⟨rfl, rfl⟩ ?_ (by rcases ho with rfl | rfl <;> rfl)
      unfold Op.equal; rw [hd]; unfold Op.equalIn; simp [run_underlying hu]
    · cases h
  · split at h
    · rename_i hu
      rw [Bool.and_eq_true] at hu
      obtain ⟨hu, hk⟩ := hu
      obtain ⟨a1, hu⟩ := ifaceT_spec hu
      obtain rfl := Option.some.inj h
      cases hx; cases hy
      refine key _ _ _ ⟨rfl, rfl⟩ ?_ ?_
      · unfold Op.equal; rw [hd]; unfold Op.equalIn; simp [run_underlying hu]
      · clear key h
        rcases ho with rfl | rfl <;> cases xo <;> cases yo <;> first | rfl | (simp [isC] at hk)
    · cases h
  · split at h
    · rename_i hu
      obtain ⟨a1, hu⟩ := ifaceT_spec hu
      obtain rfl := Option.some.inj h
      cases hx; cases hy
      refine key _ _ _ ⟨rfl, rfl⟩ ?_ (by rcases ho with rfl | rfl <;> rfl)
      unfold Op.equal; rw [hd]; unfold Op.equalIn; simp [run_underlying hu]
    · cases h
  · split at h
    · rename_i hu
      obtain ⟨a1, hu⟩ := ifaceT_spec hu
      obtain rfl := Option.some.inj h
      cases hx; cases hy
      refine key _ _ _ ⟨rfl, rfl⟩ ?_ (by rcases ho with rfl | rfl <;> rfl)
      unfold Op.equal; rw [hd]; unfold Op.equalIn; simp [run_underlying hu]
    · cases h
  · obtain ⟨ts, h1, h2⟩ := Option.bind_eq_some_iff.1 h
    obtain ⟨xs, rfl, hxs⟩ := Rep.agg_iff.1 hx
    obtain ⟨ys, rfl, hys⟩ := Rep.agg_iff.1 hy
    unfold flatS at h1
    split at h1
    · rename_i fs hu
      split at h1
      · cases h1
      · rename_i hg
        simp only [Bool.or_eq_true, not_or, Bool.not_eq_true] at hg
        have hfo : P.fieldsOf t = fs := by unfold Program.fieldsOf; rw [hu]
        have hrun : (Op.equal t (.agg xs) (.agg ys)).run P w = .ok b w := by
          unfold Op.equal
          rw [show Op.maxDepth = 9998 + 1 + 1 from rfl, run_equalIn_agg w _ t xs ys (by rw [hfo]; exact hu) hg.1, hfo]
          exact eqFields_sound fs.toList 0 ts _ _ b h1 (by simpa using hxs) (by simpa using hys) h2
        refine key _ _ _ ⟨rfl, rfl⟩ hrun (run_eqGuard_agg w op t xo yo xs ys hg.2)
    · cases h1
  · split at h
    · rename_i hu
      obtain ⟨a1, hu⟩ := ptrT_spec hu
      obtain rfl := Option.some.inj h
      cases hx; cases hy
      refine key _ _ _ ⟨rfl, rfl⟩ ?_ (by rcases ho with rfl | rfl <;> rfl)
      unfold Op.equal; rw [hd]; unfold Op.equalIn; simp [run_underlying hu]
    · cases h
  · cases h

theorem eqR_sound {P : Program} {gh : Gh} {w : World} {op : BinOp} {x y : Option AV} {vx vy : Value} {t : TypeId} {xo yo : Operand} {c : Prop} {z : TV}
    (hx : ∀ a, x = some a → Rep gh.lim w.heap vx a) (hy : ∀ a, y = some a → Rep gh.lim w.heap vy a) (h : eqR P op t (isC xo || isC yo) x y = .val c z) (hc : c) :
    Yl P gh w (do eqGuard op t xo yo vx vy; binOp op t vx vy) z := by
  unfold eqR at h
  split at h
  · split at h
    · rename_i hb
      simp only [OR.val.injEq] at h
      obtain ⟨h1, rfl⟩ := h
      exact ⟨.bool _, eqV_sound (op := .eql) (hx _ rfl) (hy _ rfl) hb (.inl rfl), trep_bool _ _ _⟩
    · rename_i hb
      simp only [OR.val.injEq] at h
      obtain ⟨h1, rfl⟩ := h
      exact ⟨.bool _, eqV_sound (op := .neq) (hx _ rfl) (hy _ rfl) hb (.inr rfl), trep_bool _ _ _⟩
    · cases h
  · cases h

theorem elemT_spec {P : Program} {t e : Nat} (h : elemT P t = some e) : P.underlying t = some (.slice e) ∧ (P.info? e).isSome = true := by
  unfold elemT at h
  split at h
  · rename_i e' hu
    split at h
    · rename_i hi; injection h with h; subst h; exact ⟨hu, hi⟩
    · cases h
  · cases h

theorem isNilS_spec {y : Operand} (h : isNilS y = true) : y = .const (.slice none 0 0) := by
  unfold isNilS at h
  split at h
  · rfl
  · cases h
theorem nilSR_sound {P : Program} {gh : Gh} {w : World} {op : BinOp} {x : Option AV} {vx : Value} {t : TypeId} {xo yo : Operand} {c : Prop} {z : TV}
    (hx : ∀ a, x = some a → Rep gh.lim w.heap vx a) (h : nilSR P op t (isNilS yo) x = .val c z) (_ : c) :
    Yl P gh w (do eqGuard op t xo yo vx (.slice none 0 0); binOp op t vx (.slice none 0 0)) z := by
  have eqs : ∀ (a : Option Addr) (n cp : Nat) (e : Nat), P.underlying t = some (.slice e) → (Op.equal t (.slice a n cp) (.slice none 0 0)).run P w = .ok a.isNone w := fun a n cp e hu => by
    obtain ⟨d, hd⟩ := depth_succ
    unfold Op.equal; rw [hd]; unfold Op.equalIn; cases a <;> simp [run_underlying hu]
  have key : ∀ (op : BinOp) (a : Option Addr) (n cp : Nat) (e : Nat), P.underlying t = some (.slice e) → (op = .eql ∨ op = .neq) →
      (do eqGuard op t xo yo (.slice a n cp) (.slice none 0 0); binOp op t (.slice a n cp) (.slice none 0 0)).run P w = .ok (.bool (if op = .eql then a.isNone else !a.isNone)) w := fun op a n cp e hu ho => by
    have h3 : (eqGuard op t xo yo (.slice a n cp) (.slice none 0 0)).run P w = .ok () w := by rcases ho with rfl | rfl <;> rfl
    simp only [Sem.run_bind, h3, Result.andThen_ok]
    exact run_eqB ⟨rfl, rfl⟩ (eqs a n cp e hu) ho
  unfold nilSR at h
  split at h
  · rename_i l
    split at h
    · rename_i hk
      obtain ⟨e, he⟩ := Option.isSome_iff_exists.1 hk.2
      obtain ⟨hu, -⟩ := elemT_spec he
      have hr := hx _ rfl
      obtain ⟨p, cap, hv, -⟩ := hr.slice_form
      subst hv
      have kk := fun (op : BinOp) => key op p l.length cap e hu
      have hc : ∀ r q, l = r :: q → p.isNone = false := fun r q hl => by
        subst hl
        obtain ⟨b, off, hp, -⟩ := hr.row (i := 0) (x := r) rfl
        subst hp; rfl
      split at h
      · cases h; exact ⟨_, kk .eql (.inl rfl), .anyB _, by simp⟩
      · cases h; exact ⟨_, kk .neq (.inr rfl), .anyB _, by simp⟩
      · cases h
        have := kk .eql (.inl rfl)
        rw [hc _ _ rfl] at this
        exact ⟨_, this, trep_bool _ _ _⟩
      · cases h
        have := kk .neq (.inr rfl)
        rw [hc _ _ rfl] at this
        exact ⟨_, this, trep_bool _ _ _⟩
      · cases h
    · cases h
  · split at h
    · rename_i hk
      obtain ⟨e, he⟩ := Option.isSome_iff_exists.1 hk.2
      obtain ⟨hu, -⟩ := elemT_spec he
      have hr := hx _ rfl
      cases hr
      split at h
      · cases h; exact ⟨_, key .eql none 0 0 e hu (.inl rfl), trep_bool _ _ _⟩
      · cases h; exact ⟨_, key .neq none 0 0 e hu (.inr rfl), trep_bool _ _ _⟩
      · cases h
    · cases h
  · cases h

theorem unR_sound {P : Program} {gh : Gh} {w : World} {op : UnOp} {x : Option AV} {vx : Value} {c : Prop} {z : TV}
    (hx : ∀ a, x = some a → Rep gh.lim w.heap vx a) (h : unR op x = .val c z) (hc : c) : Yl P gh w (Op.unary op vx) z := by
  unfold unR at h
  split at h
  · obtain rfl := rep_bool (hx _ rfl)
    split at h
    · simp only [OR.val.injEq] at h
      obtain ⟨h1, rfl⟩ := h
      exact ⟨.bool _, by simp [Op.unary], trep_bool _ _ _⟩
    · cases h
  · obtain rfl := rep_int (hx _ rfl)
    split at h
    · simp only [OR.val.injEq] at h
      obtain ⟨h1, rfl⟩ := h
      subst h1
      exact ⟨.int _ _, by simp only [Op.unary, Op.intArith, Sem.run_pure]; rw [show IntKind.wrap _ _ = _ from hc], trep_int _ _ _ _⟩
    · cases h
  · cases h

theorem pickR_sound {gh : Gh} {w : World} {x y z : Option AV} {vx vy vz : Value} {c : Prop} {u : TV} {P : Program}
    (hx : ∀ a, x = some a → Rep gh.lim w.heap vx a) (hy : ∀ a, y = some a → Rep gh.lim w.heap vy a) (hz : ∀ a, z = some a → Rep gh.lim w.heap vz a)
    (h : pickR x y z = .val c u) (_ : c) : Yl P gh w (do pure (if ← asBool vx then vy else vz)) u := by
  unfold pickR at h
  split at h
  · rename_i b p q
    obtain rfl := rep_bool (hx _ rfl)
    simp only [OR.val.injEq] at h
    obtain ⟨h1, rfl⟩ := h
    refine ⟨if b then vy else vz, by simp [asBool], trep_v ?_⟩
    cases b
    · exact hz _ rfl
    · exact hy _ rfl
  · cases h

theorem lenR_sound {P : Program} {gh : Gh} {w : World} {x : Option AV} {vx : Value} {t ty : TypeId} {c : Prop} {z : TV} {ts : Array TypeId}
    (hx : ∀ a, x = some a → Rep gh.lim w.heap vx a) (h : lenR P t x = .val c z) (_ : c) (ht : ts[0]? = some t) : Yl P gh w (Builtin.len_ ts ty #[vx]) z := by
  unfold lenR at h
  split at h
  · obtain rfl := rep_str (hx _ rfl)
    split at h
    · rename_i hu
      simp only [OR.val.injEq] at h
      obtain ⟨h1, rfl⟩ := h
      have hu' : P.underlying t = some .string := by
        revert hu
        cases P.underlying t with
        | none => intro h; cases h
        | some d => cases d <;> intro h <;> first | rfl | cases h
      exact ⟨.int .i64 _, by simp [Builtin.len_, ht, run_underlying hu', goInt, ba_size], trep_int _ _ _ _⟩
    · cases h
  · obtain ⟨p, cap, rfl, -⟩ := (hx _ rfl).slice_form
    split at h
    · rename_i l he
      simp only [OR.val.injEq] at h
      obtain ⟨h1, rfl⟩ := h
      obtain ⟨e, he⟩ := Option.isSome_iff_exists.1 he
      have hu := (elemT_spec he).1
      exact ⟨.int .i64 _, by simp [Builtin.len_, ht, run_underlying hu, goInt], trep_int _ _ _ _⟩
    · cases h
  · cases h

theorem mxR_sound {P : Program} {gh : Gh} {w : World} {x y : Option AV} {vx vy : Value} {ty : TypeId} {c : Prop} {z : TV} {ts : Array TypeId}
    (hx : ∀ a, x = some a → Rep gh.lim w.heap vx a) (hy : ∀ a, y = some a → Rep gh.lim w.heap vy a) :
    (mxR true x y = .val c z → c → Yl P gh w (Builtin.max_ ts ty #[vx, vy]) z) ∧ (mxR false x y = .val c z → c → Yl P gh w (Builtin.min_ ts ty #[vx, vy]) z) := by
  constructor
  · intro h hc
    unfold mxR at h
    split at h
    · obtain rfl := rep_int (hx _ rfl)
      obtain rfl := rep_int (hy _ rfl)
      simp only [OR.val.injEq] at h
      obtain ⟨h1, rfl⟩ := h
      exact ⟨.int _ _, by simp [Builtin.max_, Builtin.max2], trep_int _ _ _ _⟩
    · cases h
  · intro h hc
    unfold mxR at h
    split at h
    · obtain rfl := rep_int (hx _ rfl)
      obtain rfl := rep_int (hy _ rfl)
      simp only [OR.val.injEq] at h
      obtain ⟨h1, rfl⟩ := h
      exact ⟨.int _ _, by simp [Builtin.min_, Builtin.min2], trep_int _ _ _ _⟩
    · cases h

theorem run_isAgg {P : Program} {t : TypeId} {b : Bool} (h : aggO P t = some b) (w : World) : (isAgg t).run P w = .ok b w := by
  unfold aggO at h
  cases hd : P.underlying t with
  | none => rw [hd] at h; cases h
  | some d =>
    rw [hd] at h
    unfold isAgg
    cases d <;> simp_all [run_underlying hd]

theorem aggO_some {P : Program} {t : TypeId} {b : Bool} (h : aggO P t = some b) : (P.underlying t).isSome = true := by
  unfold aggO at h
  cases hd : P.underlying t with
  | none => rw [hd] at h; cases h
  | some d => rfl

theorem run_sizeOf {P : Program} {t : TypeId} (h : (P.info? t).isSome = true) (w : World) : (sizeOf t).run P w = .ok (esz P t) w := by
  obtain ⟨i, hi⟩ := Option.isSome_iff_exists.1 h
  simp [sizeOf, typeInfo, esz, hi]

theorem info_of_underlying {P : Program} {t : TypeId} (h : (P.underlying t).isSome = true) : (P.info? t).isSome = true := by
  unfold Program.underlying at h
  cases hi : P.info? t with
  | none => rw [hi] at h; cases h
  | some i => rfl

theorem loadR_sound {P : Program} {gh : Gh} {w : World} {t : TypeId} {cells : List AV} {c : Prop} {z : TV} (b off : Nat) (vs : List Value)
    (hr : RepL gh.lim w.heap vs cells) (hv : ∀ j u, vs[j]? = some u → cellAt w.heap b (off + j) = some u) (h : loadR P t cells = .val c z) (hc : c) : Yl P gh w (loadVar t ⟨b, off, none⟩) z := by
  unfold loadR at h
  unfold loadVar
  have hcell : ∀ j u, vs[j]? = some u → w.cell? (Addr.add ⟨b, off, none⟩ j) = some u := fun j u hu => by
    rw [Addr.add_lit, cell?_eq]; exact hv j u hu
  split at h
  · rename_i hagg
    simp only [OR.val.injEq] at h
    obtain ⟨h1, rfl⟩ := h
    subst h1
    have hl : (vs.take (esz P t)).length = esz P t := by rw [List.length_take, hr.1]; omega
    refine ⟨.agg (vs.take (esz P t)).toArray, ?_, trep_v (Rep.agg_iff.2 ⟨_, rfl, by simpa using hr.take _⟩)⟩
    have := run_loadCells_list (P := P) w ⟨b, off, none⟩ (vs.take (esz P t)) (fun j u hu => hcell j u (by
      rw [List.getElem?_take] at hu
      split at hu
      · exact hu
      · cases hu))
    rw [hl] at this
    simp [run_isAgg hagg, run_sizeOf (info_of_underlying (aggO_some hagg)), this]
  · rename_i hagg
    split at h
    · rename_i x hx0
      simp only [OR.val.injEq] at h
      obtain ⟨h1, rfl⟩ := h
      obtain ⟨v, hv0, hrv⟩ := hr.get hx0
      have h0 := hcell 0 v hv0
      rw [Addr.add_zero'] at h0
      refine ⟨v, ?_, trep_v hrv⟩
      simp [run_isAgg hagg, h0]
    · cases h
  · cases h

theorem foff_spec {P : Program} {t f o : Nat} (h : foff P t f = some o) : ∃ fs x, P.underlying t = some (.struct fs) ∧ fs[f]? = some x ∧ esz P x.type ≠ 0 ∧ x.offset = o ∧ ftyp P t f = x.type := by
  unfold foff at h
  split at h
  · rename_i fs hu
    cases hx : fs[f]? with
    | none => rw [hx] at h; cases h
    | some x =>
      rw [hx] at h
      simp only [Option.bind_some] at h
      split at h
      · cases h
      · rename_i hne
        injection h with h
        exact ⟨fs, x, hu, hx, hne, h, by simp [ftyp, hu, hx]⟩
  · cases h

theorem run_fieldAt {P : Program} {t f o b off : Nat} (h : foff P t f = some o) (w : World) : (Instr.fieldAt t (.pointer (some ⟨b, off, none⟩)) f).run P w = .ok (.pointer (some ⟨b, off + o, none⟩)) w := by
  obtain ⟨fs, x, hu, hx, hne, ho, -⟩ := foff_spec h
  have hi : (P.info? x.type).isSome = true := by
    cases hq : P.info? x.type with
    | none => exact absurd (by simp [esz, hq]) hne
    | some i => rfl
  unfold Instr.fieldAt
  simp [run_underlying hu, hx, Instr.sureAddr, fieldPlace, run_sizeOf hi, hne, Addr.add_lit, ho]

theorem run_indexAt {P : Program} {t e : Nat} (he : elemT P t = some e) {b off n cap : Nat} {k : IntKind} {i : Int} (h0 : 0 ≤ i) (h1 : i < n) (w : World) :
    (Instr.indexAt t (.slice (some ⟨b, off, none⟩) n cap) (.int k i)).run P w = .ok (.pointer (some ⟨b, off + i.toNat * esz P e, none⟩)) w := by
  obtain ⟨hu, hi⟩ := elemT_spec he
  unfold Instr.indexAt
  simp [asIntOf, run_underlying hu, h0, h1, run_sizeOf hi, Addr.add_lit]

theorem extract_str (l : List UInt8) (lo hi : Nat) (h : lo ≤ hi) (h2 : hi ≤ l.length) : (⟨l.toArray⟩ : ByteArray).extract lo hi = ⟨((l.take hi).drop lo).toArray⟩ := by
  apply ByteArray.ext
  rw [ByteArray.data_extract]
  simp [List.extract_eq_take_drop, List.drop_take]

end Go.Pv
end

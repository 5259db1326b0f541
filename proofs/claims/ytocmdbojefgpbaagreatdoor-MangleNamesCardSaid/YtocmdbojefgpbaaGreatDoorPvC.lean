import Derived.WalkKit
import Derived.OrdersIn
import Derived.RangeFuncLeaves
import Derived.RangeFuncOwn
set_option linter.all false
section
/- Values without memory (AV), and what it means that a value of the model, with the memory behind it, is such a value (Rep). -/
namespace Go.Pv
open Go

inductive AV where
  | bool (b : Bool)
  | int (k : IntKind) (n : Int)
  | str (l : List UInt8)
  | slice (l : List (List AV))
  | agg (l : List AV)
  | tup (l : List AV)
  | func (f : FuncId) (caps : List AV)
  | nilFunc
  | yld (l : Nat)
  | ro (l : List AV)
  | nilPtr
  | gp (b off : Nat)
  | iface (t : TypeId) (x : AV)
  | nilIface
  | nilS      -- the nil slice, known as such
  | bfn (f : FuncId) (first : List AV)      -- a function whose first arguments are given
  | slX (l : List (List AV))      -- a slice without room
  | anyB      -- a truth value that is not known
  | fr (r e z : Nat) (l : List (List AV))      -- a slice over a row of its own (elements' type e, z cells each), which belongs to region r
  | sr (r : Nat) (l : List (List AV))      -- a slice whose cells belong to region r
  | any      -- a value of one cell that is not known
  | gs (b n cap : Nat)      -- a slice over the whole of block b
  deriving Inhabited

def AV.one : AV → Bool
  | .agg _ | .tup _ => false
  | _ => true

inductive LV where
  | all
  | upto (n : Nat)
  | reg (r : Nat)
  deriving Inhabited, DecidableEq
abbrev Lim := Nat → LV
def Lim.ok (lim : Lim) (b o : Nat) : Prop := ∀ n, lim b = .upto n → o < n

def cellAt (h : Array Obj) (b o : Nat) : Option Value :=
  match h[b]? with
  | some (.cells c _ _) => c[o]?
  | _ => none

theorem cell?_eq (w : World) (b o : Nat) : w.cell? ⟨b, o, none⟩ = cellAt w.heap b o := by
  unfold World.cell? cellAt
  cases w.heap[b]? with
  | none => rfl
  | some x => cases x <;> rfl

theorem cellAt_lt {h : Array Obj} {b o : Nat} {v : Value} (e : cellAt h b o = some v) : b < h.size := by
  unfold cellAt at e
  rcases Nat.lt_or_ge b h.size with h1 | h1
  · exact h1
  · simp [Array.getElem?_eq_none h1] at e

def CellsB (h : Array Obj) (b : Nat) : Prop := ∃ cs e g, h[b]? = some (.cells cs e g)
theorem cellAt_B {h : Array Obj} {b o : Nat} {v : Value} (e : cellAt h b o = some v) : CellsB h b := by
  unfold cellAt at e
  split at e
  · rename_i hb; exact ⟨_, _, _, hb⟩
  · cases e
def RowIn (lim : Lim) (h : Array Obj) (r e z : Nat) (v : Value) (n : Nat) : Prop :=
  n = 0 ∨ ∃ b cap cur, v = .slice (some ⟨b, 0, none⟩) n cap ∧ h[b]? = some (.cells cur e (0, 0)) ∧ n ≤ cap ∧ cap ≤ maxLen ∧ cur.size = cap * z ∧ lim b = .reg r

inductive Rep (lim : Lim) (h : Array Obj) : Value → AV → Prop
  | bool (b : Bool) : Rep lim h (.bool b) (.bool b)
  | int (k : IntKind) (n : Int) : Rep lim h (.int k n) (.int k n)
  | str (l : List UInt8) : Rep lim h (.string ⟨l.toArray⟩) (.str l)
  | slice0 (p : Option Addr) (cap : Nat) : Rep lim h (.slice p 0 cap) (.slice [])
  | slice (b off cap sz : Nat) (l : List (List AV)) (vs : Nat → Value) (hcap : l.length ≤ cap)
      (hrow : ∀ (i : Nat) (r : List AV), l[i]? = some r → r.length = sz)
      (hc : ∀ (j : Nat), j < l.length * sz → lim.ok b (off + j) ∧ cellAt h b (off + j) = some (vs j))
      (hr : ∀ (i j : Nat) (r : List AV) (x : AV), l[i]? = some r → r[j]? = some x → Rep lim h (vs (i * sz + j)) x) :
      Rep lim h (.slice (some ⟨b, off, none⟩) l.length cap) (.slice l)
  | agg (cs : Array Value) (l : List AV) (hl : cs.size = l.length) (hr : ∀ (j : Nat) (x : AV), l[j]? = some x → Rep lim h (cs.getD j undef) x) : Rep lim h (.agg cs) (.agg l)
  | tup (cs : Array Value) (l : List AV) (hl : cs.size = l.length) (hr : ∀ (j : Nat) (x : AV), l[j]? = some x → Rep lim h (cs.getD j undef) x) : Rep lim h (.tuple cs) (.tup l)
  | func (f : FuncId) (cs : Array Value) (l : List AV) (hl : cs.size = l.length) (hr : ∀ (j : Nat) (x : AV), l[j]? = some x → Rep lim h (cs.getD j undef) x) :
      Rep lim h (.func (.func f) #[] cs) (.func f l)
  | nilFunc : Rep lim h .nilFunc .nilFunc
  | yld (l : Nat) : Rep lim h (.func (.yield l) #[] #[]) (.yld l)
  | ro (b off : Nat) (l : List AV) (vs : Nat → Value) (hc : ∀ (j : Nat), j < l.length → lim.ok b (off + j) ∧ cellAt h b (off + j) = some (vs j))
      (hr : ∀ (j : Nat) (x : AV), l[j]? = some x → Rep lim h (vs j) x) : Rep lim h (.pointer (some ⟨b, off, none⟩)) (.ro l)
  | nilPtr : Rep lim h (.pointer none) .nilPtr
  | gp (b off : Nat) : Rep lim h (.pointer (some ⟨b, off, none⟩)) (.gp b off)
  | iface (t : TypeId) (v : Value) (x : AV) (hx : Rep lim h v x) : Rep lim h (.iface t v) (.iface t x)
  | nilIface : Rep lim h .nilIface .nilIface
  | nilS : Rep lim h (.slice none 0 0) .nilS
  | bfn (f : FuncId) (cs : Array Value) (l : List AV) (hl : cs.size = l.length) (hr : ∀ (j : Nat) (x : AV), l[j]? = some x → Rep lim h (cs.getD j undef) x) :
      Rep lim h (.func (.func f) cs #[]) (.bfn f l)
  | slX (p : Option Addr) (l : List (List AV)) (hx : Rep lim h (.slice p l.length l.length) (.slice l)) : Rep lim h (.slice p l.length l.length) (.slX l)
  | anyB (b : Bool) : Rep lim h (.bool b) .anyB
  | fr (r e z : Nat) (v : Value) (l : List (List AV)) (hx : Rep lim h v (.slice l)) (hr : RowIn lim h r e z v l.length) : Rep lim h v (.fr r e z l)
  | sr (r : Nat) (v : Value) (l : List (List AV)) (hx : Rep lim h v (.slice l)) (hr : ∀ b off n cap, v = .slice (some ⟨b, off, none⟩) n cap → l.flatten ≠ [] → CellsB h b ∧ lim b = .reg r) : Rep lim h v (.sr r l)
  | any (v : Value) (hv : v.oneCell' = true) : Rep lim h v .any
  | gs (b n cap : Nat) : Rep lim h (.slice (some ⟨b, 0, none⟩) n cap) (.gs b n cap)

def Keep (lim : Lim) (h : Array Obj) (lim' : Lim) (h' : Array Obj) : Prop :=
  (∀ b o, CellsB h b → lim.ok b o → CellsB h' b ∧ lim'.ok b o ∧ cellAt h' b o = cellAt h b o) ∧ ∀ b r, CellsB h b → lim b = .reg r → lim' b = .reg r ∧ h'[b]? = h[b]?

theorem Keep.at {lim lim' : Lim} {h h' : Array Obj} (k : Keep lim h lim' h') (b o : Nat) (v : Value) (ho : lim.ok b o) (hc : cellAt h b o = some v) : lim'.ok b o ∧ cellAt h' b o = some v := by
  obtain ⟨-, h1, h2⟩ := k.1 b o (cellAt_B hc) ho
  exact ⟨h1, h2.trans hc⟩
theorem Keep.refl (lim : Lim) (h : Array Obj) : Keep lim h lim h := ⟨fun _ _ a b => ⟨a, b, rfl⟩, fun _ _ _ h => ⟨h, rfl⟩⟩
theorem Lim.reg_ok {lim : Lim} {b r : Nat} (h : lim b = .reg r) (o : Nat) : lim.ok b o := fun n hn => by rw [h] at hn; cases hn
theorem Keep.trans {l1 l2 l3 : Lim} {h1 h2 h3 : Array Obj} (a : Keep l1 h1 l2 h2) (b : Keep l2 h2 l3 h3) : Keep l1 h1 l3 h3 :=
  ⟨fun x o hc ho => let ⟨p, q, r⟩ := a.1 x o hc ho; let ⟨p', q', r'⟩ := b.1 x o p q; ⟨p', q', r'.trans r⟩,
   fun x r hc hr => let ⟨h1, h2⟩ := a.2 x r hc hr; let ⟨h3, h4⟩ := b.2 x r (a.1 x 0 hc (Lim.reg_ok hr 0)).1 h1; ⟨h3, h4.trans h2⟩⟩

theorem Keep.of_cells {h h' : Array Obj} (hc : ∀ (k : Nat) (cs : Array Value) (e : TypeId) (g : Nat × Nat), h[k]? = some (.cells cs e g) → h'[k]? = h[k]?) (lim : Lim) : Keep lim h lim h' := by
  refine ⟨?_, fun b r ⟨cs, e, g, hb⟩ h => ⟨h, hc b cs e g hb⟩⟩
  rintro b o ⟨cs, e, g, hb⟩ ho
  have h1 := hc b cs e g hb
  refine ⟨⟨cs, e, g, h1.trans hb⟩, ho, ?_⟩
  unfold cellAt
  rw [h1]

theorem RowIn.mono {lim lim' : Lim} {h h' : Array Obj} (k : Keep lim h lim' h') {r e z : Nat} {v : Value} {n : Nat} (hr : RowIn lim h r e z v n) : RowIn lim' h' r e z v n := by
  rcases hr with hr | ⟨b, cap, cur, h1, h2, h3, h4, h5, h6⟩
  · exact .inl hr
  · obtain ⟨k1, k2⟩ := k.2 b r ⟨_, _, _, h2⟩ h6
    exact .inr ⟨b, cap, cur, h1, k2.trans h2, h3, h4, h5, k1⟩
theorem Rep.mono {lim lim' : Lim} {h h' : Array Obj} (k : Keep lim h lim' h') {v : Value} {x : AV} (r : Rep lim h v x) : Rep lim' h' v x := by
  induction r with
  | bool b => exact .bool b
  | int k n => exact .int k n
  | str l => exact .str l
  | slice0 p cap => exact .slice0 p cap
  | slice b off cap sz l vs hcap hrow hc hr ih =>
    exact .slice b off cap sz l vs hcap hrow (fun j hj => k.at _ _ _ (hc j hj).1 (hc j hj).2) ih
  | agg cs l hl hr ih => exact .agg cs l hl ih
  | tup cs l hl hr ih => exact .tup cs l hl ih
  | func f cs l hl hr ih => exact .func f cs l hl ih
  | nilFunc => exact .nilFunc
  | yld l => exact .yld l
  | ro b off l vs hc hr ih => exact .ro b off l vs (fun j hj => k.at _ _ _ (hc j hj).1 (hc j hj).2) ih
  | nilPtr => exact .nilPtr
  | gp b off => exact .gp b off
  | iface t v x hx ih => exact .iface t v x ih
  | nilIface => exact .nilIface
  | nilS => exact .nilS
  | bfn f cs l hl hr ih => exact .bfn f cs l hl ih
  | slX p l hx ih => exact .slX p l ih
  | anyB b => exact .anyB b
  | fr r e z v l hx hr ih => exact .fr r e z v l ih (hr.mono k)
  | sr r v l hx hr ih => exact .sr r v l ih fun b off n cap hv hl => let ⟨h1, h2⟩ := hr b off n cap hv hl; ⟨(k.1 _ 0 h1 (Lim.reg_ok h2 0)).1, (k.2 _ _ h1 h2).1⟩
  | any v hv => exact .any v hv
  | gs b n cap => exact .gs b n cap

theorem Rep.oneCell {lim : Lim} {h : Array Obj} {v : Value} {x : AV} (r : Rep lim h v x) (hx : x.one = true) : v.oneCell' = true := by
  cases r <;> first | (simp_all [AV.one, Value.oneCell']; done) | (rename_i hx' hr'; cases hx' <;> rfl)

theorem Rep.cells_one {lim : Lim} {h : Array Obj} {v : Value} {x : AV} (r : Rep lim h v x) (hx : x.one = true) : v.cells = #[v] := by
  cases r <;> first | (simp_all [AV.one, Value.cells]; done) | (rename_i hx' hr'; cases hx' <;> rfl) | (rename_i hv; cases v <;> first | rfl | cases hv)

def RepL (lim : Lim) (h : Array Obj) (vs : List Value) (l : List AV) : Prop :=
  vs.length = l.length ∧ ∀ (j : Nat) (x : AV), l[j]? = some x → Rep lim h (vs.getD j undef) x

theorem RepL.mono {lim lim' : Lim} {h h' : Array Obj} (k : Keep lim h lim' h') {vs : List Value} {l : List AV} (r : RepL lim h vs l) : RepL lim' h' vs l :=
  ⟨r.1, fun j x hx => (r.2 j x hx).mono k⟩

theorem RepL.nil (lim : Lim) (h : Array Obj) : RepL lim h [] [] := ⟨rfl, fun j x hx => by simp at hx⟩
theorem RepL.cons {lim : Lim} {h : Array Obj} {v : Value} {x : AV} {vs : List Value} {l : List AV} (a : Rep lim h v x) (b : RepL lim h vs l) : RepL lim h (v :: vs) (x :: l) :=
  ⟨by simp [b.1], fun j y hy => by cases j with
    | zero => simp at hy; subst hy; exact a
    | succ j => exact b.2 j y (by simpa using hy)⟩
theorem RepL.head {lim : Lim} {h : Array Obj} {v : Value} {x : AV} {vs : List Value} {l : List AV} (r : RepL lim h (v :: vs) (x :: l)) : Rep lim h v x := r.2 0 x rfl
theorem RepL.tail {lim : Lim} {h : Array Obj} {v : Value} {x : AV} {vs : List Value} {l : List AV} (r : RepL lim h (v :: vs) (x :: l)) : RepL lim h vs l :=
  ⟨by simpa using r.1, fun j y hy => by simpa using r.2 (j + 1) y (by simpa using hy)⟩
theorem RepL.get {lim : Lim} {h : Array Obj} {vs : List Value} {l : List AV} (r : RepL lim h vs l) {j : Nat} {x : AV} (hx : l[j]? = some x) : ∃ v, vs[j]? = some v ∧ Rep lim h v x := by
  have h1 := r.2 j x hx
  have hj : j < l.length := (List.getElem?_eq_some_iff.1 hx).1
  have hj' : j < vs.length := by rw [r.1]; exact hj
  exact ⟨vs[j], by simp [hj'], by simpa [List.getD, hj'] using h1⟩
theorem RepL.take {lim : Lim} {h : Array Obj} {vs : List Value} {l : List AV} (r : RepL lim h vs l) (n : Nat) : RepL lim h (vs.take n) (l.take n) := by
  refine ⟨by simp [r.1], fun j x hx => ?_⟩
  rw [List.getElem?_take] at hx
  split at hx
  · rename_i hj
    have := r.2 j x hx
    simpa [List.getD, List.getElem?_take, hj] using this
  · cases hx
theorem RepL.drop {lim : Lim} {h : Array Obj} {vs : List Value} {l : List AV} (r : RepL lim h vs l) (n : Nat) : RepL lim h (vs.drop n) (l.drop n) := by
  refine ⟨by simp [r.1], fun j x hx => ?_⟩
  rw [List.getElem?_drop] at hx
  have := r.2 _ x hx
  simpa [List.getD, List.getElem?_drop] using this
theorem RepL.append {lim : Lim} {h : Array Obj} {vs us : List Value} {l m : List AV} (r : RepL lim h vs l) (s : RepL lim h us m) : RepL lim h (vs ++ us) (l ++ m) := by
  induction l generalizing vs with
  | nil => have : vs = [] := List.eq_nil_of_length_eq_zero (by simpa using r.1); subst this; simpa using s
  | cons x l ih =>
    cases vs with
    | nil => have := r.1; simp at this
    | cons v vs => exact .cons r.head (ih r.tail)
theorem RepL.set {lim : Lim} {h : Array Obj} {vs : List Value} {l : List AV} (r : RepL lim h vs l) (n : Nat) {v : Value} {x : AV} (hx : Rep lim h v x) : RepL lim h (vs.set n v) (l.set n x) := by
  refine ⟨by simp [r.1], fun j y hy => ?_⟩
  rw [List.getElem?_set] at hy
  by_cases hj : n = j
  · subst hj
    simp only [if_true] at hy
    split at hy
    · rename_i hl
      injection hy with hy; subst hy
      have hl' : n < vs.length := by rw [r.1]; exact hl
      simpa [List.getD, List.getElem?_set, hl'] using hx
    · cases hy
  · simp only [hj, if_false] at hy
    have := r.2 j y hy
    simpa [List.getD, List.getElem?_set, hj] using this

theorem Rep.agg_iff {lim : Lim} {h : Array Obj} {v : Value} {l : List AV} : Rep lim h v (.agg l) ↔ ∃ cs : Array Value, v = .agg cs ∧ RepL lim h cs.toList l := by
  constructor
  · intro r
    cases r with
    | agg cs l hl hr => exact ⟨cs, rfl, by simpa using hl, fun j x hx => by simpa [List.getD, Array.getD_eq_getD_getElem?] using hr j x hx⟩
  · rintro ⟨cs, rfl, hl, hr⟩
    exact .agg cs l (by simpa using hl) fun j x hx => by simpa [List.getD, Array.getD_eq_getD_getElem?] using hr j x hx

theorem Rep.tup_iff {lim : Lim} {h : Array Obj} {v : Value} {l : List AV} : Rep lim h v (.tup l) ↔ ∃ cs : Array Value, v = .tuple cs ∧ RepL lim h cs.toList l := by
  constructor
  · intro r
    cases r with
    | tup cs l hl hr => exact ⟨cs, rfl, by simpa using hl, fun j x hx => by simpa [List.getD, Array.getD_eq_getD_getElem?] using hr j x hx⟩
  · rintro ⟨cs, rfl, hl, hr⟩
    exact .tup cs l (by simpa using hl) fun j x hx => by simpa [List.getD, Array.getD_eq_getD_getElem?] using hr j x hx

theorem Rep.func_iff {lim : Lim} {h : Array Obj} {v : Value} {f : FuncId} {l : List AV} : Rep lim h v (.func f l) ↔ ∃ cs : Array Value, v = .func (.func f) #[] cs ∧ RepL lim h cs.toList l := by
  constructor
  · intro r
    cases r with
    | func f cs l hl hr => exact ⟨cs, rfl, by simpa using hl, fun j x hx => by simpa [List.getD, Array.getD_eq_getD_getElem?] using hr j x hx⟩
  · rintro ⟨cs, rfl, hl, hr⟩
    exact .func f cs l (by simpa using hl) fun j x hx => by simpa [List.getD, Array.getD_eq_getD_getElem?] using hr j x hx

theorem Rep.slX_inv {lim : Lim} {h : Array Obj} {v : Value} {l : List (List AV)} (r : Rep lim h v (.slX l)) : ∃ p, v = .slice p l.length l.length ∧ Rep lim h v (.slice l) := by
  cases r with
  | slX p l hx => exact ⟨p, rfl, hx⟩

theorem Rep.bfn_iff {lim : Lim} {h : Array Obj} {v : Value} {f : FuncId} {l : List AV} : Rep lim h v (.bfn f l) ↔ ∃ cs : Array Value, v = .func (.func f) cs #[] ∧ RepL lim h cs.toList l := by
  constructor
  · intro r
    cases r with
    | bfn f cs l hl hr => exact ⟨cs, rfl, by simpa using hl, fun j x hx => by simpa [List.getD, Array.getD_eq_getD_getElem?] using hr j x hx⟩
  · rintro ⟨cs, rfl, hl, hr⟩
    exact .bfn f cs l (by simpa using hl) fun j x hx => by simpa [List.getD, Array.getD_eq_getD_getElem?] using hr j x hx

theorem Rep.ro_iff {lim : Lim} {h : Array Obj} {v : Value} {l : List AV} : Rep lim h v (.ro l) ↔ ∃ b off vs, v = .pointer (some ⟨b, off, none⟩) ∧ RepL lim h vs l ∧ ∀ j u, vs[j]? = some u → lim.ok b (off + j) ∧ cellAt h b (off + j) = some u := by
  constructor
  · intro r
    cases r with
    | ro b off l vs hc hr =>
      refine ⟨b, off, (List.range l.length).map vs, rfl, ⟨by simp, fun j x hx => ?_⟩, fun j u hu => ?_⟩
      · have hj : j < l.length := (List.getElem?_eq_some_iff.1 hx).1
        simpa [List.getD, hj] using hr j x hx
      · simp only [List.getElem?_map] at hu
        have hj : j < l.length := by
          rcases Nat.lt_or_ge j l.length with h | h
          · exact h
          · rw [List.getElem?_eq_none (by simpa using h)] at hu; simp at hu
        rw [List.getElem?_range hj] at hu
        simp at hu; subst hu
        exact hc j hj
  · rintro ⟨b, off, vs, rfl, hr, hc⟩
    refine .ro b off l (fun j => vs.getD j undef) (fun j hj => ?_) hr.2
    have hj' : j < vs.length := by rw [hr.1]; exact hj
    have := hc j vs[j] (by simp [hj'])
    simpa [List.getD, hj'] using this

theorem Rep.ro_drop {lim : Lim} {h : Array Obj} {b off : Nat} {l : List AV} (n : Nat) (r : Rep lim h (.pointer (some ⟨b, off, none⟩)) (.ro l)) : Rep lim h (.pointer (some ⟨b, off + n, none⟩)) (.ro (l.drop n)) := by
  obtain ⟨b', off', vs, hv, hr, hc⟩ := Rep.ro_iff.1 r
  simp only [Value.pointer.injEq, Option.some.injEq, Addr.mk.injEq, and_true] at hv
  obtain ⟨rfl, rfl⟩ := hv
  refine Rep.ro_iff.2 ⟨b, off + n, vs.drop n, rfl, hr.drop n, fun j u hu => ?_⟩
  rw [List.getElem?_drop] at hu
  have := hc _ u hu
  rwa [show off + n + j = off + (n + j) by omega]

theorem Rep.row {lim : Lim} {h : Array Obj} {p : Option Addr} {n cap : Nat} {l : List (List AV)} (r : Rep lim h (.slice p n cap) (.slice l)) {i : Nat} {x : List AV} (hx : l[i]? = some x) :
    ∃ b off, p = some ⟨b, off, none⟩ ∧ Rep lim h (.pointer (some ⟨b, off + i * x.length, none⟩)) (.ro x) := by
  cases r with
  | slice0 => simp at hx
  | slice b off cap sz l vs hcap hrow hc hr =>
    refine ⟨b, off, rfl, ?_⟩
    have hi : i < l.length := (List.getElem?_eq_some_iff.1 hx).1
    have hs := hrow i x hx
    rw [hs]
    refine .ro b (off + i * sz) x (fun j => vs (i * sz + j)) (fun j hj => ?_) (fun j y hy => hr i j x y hx hy)
    have h1 : i * sz + j < l.length * sz := by
      have : (i + 1) * sz ≤ l.length * sz := Nat.mul_le_mul_right _ hi
      rw [Nat.add_mul] at this
      omega
    have := hc _ h1
    rwa [show off + (i * sz + j) = off + i * sz + j by omega] at this

theorem Rep.slice_len {lim : Lim} {h : Array Obj} {p : Option Addr} {n cap : Nat} {l : List (List AV)} (r : Rep lim h (.slice p n cap) (.slice l)) : n = l.length ∧ n ≤ cap := by
  cases r with
  | slice0 => exact ⟨rfl, Nat.zero_le _⟩
  | slice b off cap sz l vs hcap hrow hc hr => exact ⟨rfl, hcap⟩

theorem Rep.slice_form {lim : Lim} {h : Array Obj} {v : Value} {l : List (List AV)} (r : Rep lim h v (.slice l)) : ∃ p cap, v = .slice p l.length cap ∧ l.length ≤ cap := by
  cases r with
  | slice0 p cap => exact ⟨p, cap, rfl, Nat.zero_le _⟩
  | slice b off cap sz l vs hcap hrow hc hr => exact ⟨_, cap, rfl, hcap⟩

theorem flat_rows {lim : Lim} {h : Array Obj} {sz : Nat} : ∀ (l : List (List AV)) (vs : Nat → Value), (∀ (i : Nat) (r : List AV), l[i]? = some r → r.length = sz) →
    (∀ (i j : Nat) (r : List AV) (x : AV), l[i]? = some r → r[j]? = some x → Rep lim h (vs (i * sz + j)) x) → RepL lim h ((List.range (l.length * sz)).map vs) l.flatten := by
  intro l
  induction l with
  | nil => intro vs _ _; simpa using RepL.nil lim h
  | cons r l ih =>
    intro vs hrow hr
    have h0 : r.length = sz := hrow 0 r rfl
    have e : (List.range ((r :: l).length * sz)).map vs = (List.range sz).map vs ++ (List.range (l.length * sz)).map (fun j => vs (sz + j)) := by
      rw [List.length_cons, Nat.add_mul, Nat.one_mul, Nat.add_comm, List.range_add, List.map_append, List.map_map]
      rfl
    rw [e, List.flatten_cons]
    refine RepL.append ⟨by simp [h0], fun j x hx => ?_⟩ (ih _ (fun i r' h' => hrow (i + 1) r' h') (fun i j r' x h1 h2 => ?_))
    · have hj : j < r.length := (List.getElem?_eq_some_iff.1 hx).1
      have := hr 0 j r x rfl hx
      simpa [List.getD, List.getElem?_range (h0 ▸ hj)] using this
    · have := hr (i + 1) j r' x h1 h2
      rwa [show (i + 1) * sz + j = sz + (i * sz + j) by rw [Nat.add_mul]; omega] at this

theorem Rep.slice_cells {lim : Lim} {h : Array Obj} {p : Option Addr} {n cap : Nat} {l : List (List AV)} {sz : Nat} (r : Rep lim h (.slice p n cap) (.slice l)) (hs : ∀ x ∈ l, x.length = sz) (hl : l ≠ []) :
    ∃ b off vs, p = some ⟨b, off, none⟩ ∧ vs.length = l.length * sz ∧ RepL lim h vs l.flatten ∧ ∀ j u, vs[j]? = some u → lim.ok b (off + j) ∧ cellAt h b (off + j) = some u := by
  cases r with
  | slice0 => exact absurd rfl hl
  | slice b off cap sz' l vs hcap hrow hc hr =>
    obtain rfl : sz' = sz := by
      cases l with
      | nil => exact absurd rfl hl
      | cons x l => rw [← hrow 0 x rfl, hs x (by simp)]
    refine ⟨b, off, (List.range (l.length * sz')).map vs, rfl, by simp, flat_rows l vs hrow hr, fun j u hu => ?_⟩
    simp only [List.getElem?_map] at hu
    have hj : j < l.length * sz' := by
      rcases Nat.lt_or_ge j (l.length * sz') with h | h
      · exact h
      · rw [List.getElem?_eq_none (by simpa using h)] at hu; simp at hu
    rw [List.getElem?_range hj] at hu
    simp at hu; subst hu
    exact hc j hj

theorem flatten_get {sz : Nat} : ∀ (l : List (List AV)), (∀ x ∈ l, x.length = sz) → ∀ (i j : Nat) (r : List AV) (x : AV), l[i]? = some r → r[j]? = some x → l.flatten[i * sz + j]? = some x := by
  intro l
  induction l with
  | nil => intro _ i j r x h; simp at h
  | cons a l ih =>
    intro hs i j r x h1 h2
    have ha : a.length = sz := hs a (by simp)
    rw [List.flatten_cons]
    cases i with
    | zero =>
      simp at h1; subst h1
      have hj : j < a.length := (List.getElem?_eq_some_iff.1 h2).1
      rw [Nat.zero_mul, Nat.zero_add, List.getElem?_append_left hj]
      exact h2
    | succ i =>
      rw [List.getElem?_append_right (by rw [ha, Nat.add_mul]; omega)]
      rw [show (i + 1) * sz + j - a.length = i * sz + j by rw [ha, Nat.add_mul]; omega]
      exact ih (fun y hy => hs y (by simp [hy])) i j r x (by simpa using h1) h2

theorem Rep.slice_mk {lim : Lim} {h : Array Obj} {b off cap sz : Nat} {l : List (List AV)} {vs : List Value} (hcap : l.length ≤ cap) (hs : ∀ x ∈ l, x.length = sz) (hv : RepL lim h vs l.flatten)
    (hc : ∀ j u, vs[j]? = some u → lim.ok b (off + j) ∧ cellAt h b (off + j) = some u) : Rep lim h (.slice (some ⟨b, off, none⟩) l.length cap) (.slice l) := by
  have hlen : l.flatten.length = l.length * sz := by
    clear hv hc hcap
    induction l with
    | nil => simp
    | cons a l ih => rw [List.flatten_cons, List.length_append, ih (fun y hy => hs y (by simp [hy])), hs a (by simp), List.length_cons, Nat.add_mul]; omega
  refine .slice b off cap sz l (fun j => vs.getD j undef) hcap (fun i r hr => hs r (List.mem_of_getElem? hr)) (fun j hj => ?_) (fun i j r x h1 h2 => hv.2 _ _ (flatten_get l hs i j r x h1 h2))
  have hj' : j < vs.length := by rw [hv.1, hlen]; exact hj
  have := hc j vs[j] (by simp [hj'])
  simpa [List.getD, hj'] using this

theorem Rep.slice_sub {lim : Lim} {h : Array Obj} {b off cap n : Nat} {l : List (List AV)} (r : Rep lim h (.slice (some ⟨b, off, none⟩) n cap) (.slice l)) (lo hi cap' sz : Nat) (h1 : lo ≤ hi) (h2 : hi ≤ l.length) (hc' : hi - lo ≤ cap')
    (hs : ∀ x ∈ l, x.length = sz) : Rep lim h (.slice (some ⟨b, off + lo * sz, none⟩) (hi - lo) cap') (.slice ((l.take hi).drop lo)) := by
  have hlen : ((l.take hi).drop lo).length = hi - lo := by simp; omega
  by_cases hl : l = []
  · subst hl
    simp at h2; subst h2
    have : lo = 0 := by omega
    subst this
    simpa using Rep.slice0 (lim := lim) (h := h) _ cap'
  · obtain ⟨b', off', vs, hp, hvl, hv, hcell⟩ := r.slice_cells hs hl
    simp only [Option.some.injEq, Addr.mk.injEq, and_true] at hp
    obtain ⟨rfl, rfl⟩ := hp
    have hfl : ((l.take hi).drop lo).flatten = (l.flatten.take (hi * sz)).drop (lo * sz) := by
      have key : ∀ (m : List (List AV)) (k : Nat), (∀ x ∈ m, x.length = sz) → (m.take k).flatten = m.flatten.take (k * sz) ∧ (m.drop k).flatten = m.flatten.drop (k * sz) := by
        intro m
        induction m with
        | nil => intro k _; simp
        | cons a m ih =>
          intro k hm
          cases k with
          | zero => simp
          | succ k =>
            have ha : a.length = sz := hm a (by simp)
            obtain ⟨i1, i2⟩ := ih k (fun y hy => hm y (by simp [hy]))
            rw [List.take_succ_cons, List.drop_succ_cons, List.flatten_cons, List.flatten_cons, i1, i2]
            have e : (k + 1) * sz = a.length + k * sz := by rw [ha, Nat.add_mul]; omega
            rw [e, List.take_length_add_append, List.drop_length_add_append]
            exact ⟨rfl, rfl⟩
      rw [(key (l.take hi) lo (fun y hy => hs y (List.mem_of_mem_take hy))).2, (key l hi hs).1]
    have := Rep.slice_mk (lim := lim) (h := h) (b := b) (off := off + lo * sz) (cap := cap') (sz := sz) (l := (l.take hi).drop lo) (vs := (vs.take (hi * sz)).drop (lo * sz)) (by rw [hlen]; exact hc')
      (fun x hx => hs x (List.mem_of_mem_take (List.mem_of_mem_drop hx))) (by rw [hfl]; exact (hv.take _).drop _) (fun j u hu => by
        rw [List.getElem?_drop, List.getElem?_take] at hu
        split at hu
        · have := hcell _ u hu
          rwa [show off + lo * sz + j = off + (lo * sz + j) by omega]
        · cases hu)
    rwa [hlen] at this

def GlAt (lim : Lim) (h : Array Obj) (g : Nat) (c : List AV) : Prop :=
  Rep lim h (.pointer (some ⟨g, 0, none⟩)) (.ro c) ∧ (c ≠ [] → lim.ok g c.length ∧ cellAt h g c.length = none)
theorem GlAt.mono {lim lim' : Lim} {h h' : Array Obj} {g : Nat} {c : List AV} (r : GlAt lim h g c) (k : Keep lim h lim' h') : GlAt lim' h' g c := by
  refine ⟨r.1.mono k, fun hc => ?_⟩
  obtain ⟨h1, h2⟩ := r.2 hc
  obtain ⟨b, off, vs, hp, hv, hcell⟩ := Rep.ro_iff.1 r.1
  simp only [Value.pointer.injEq, Option.some.injEq, Addr.mk.injEq, and_true] at hp
  obtain ⟨rfl, rfl⟩ := hp
  have hl : 0 < vs.length := by rw [hv.1]; exact List.length_pos_iff.2 hc
  have hB := cellAt_B (hcell 0 vs[0] (by simp [hl])).2
  obtain ⟨-, h3, h4⟩ := k.1 g c.length hB h1
  exact ⟨h3, h4.trans h2⟩

end Go.Pv
end

section
/- The abstract state of an activation (AS), and when it describes a state of the model (RR). -/
namespace Go.Pv
open Go

def look {α : Type} (k : Nat) : List (Nat × α) → Option α
  | [] => none
  | (j, x) :: r => if j = k then some x else look k r

inductive ItK where
  | str (s : List UInt8) (p : Nat)
  | map (es : List (List UInt8 × Nat))
  | walk (es : List (List UInt8 × Nat)) (seen : List Nat)
def entryAt (i : Nat) (x : List UInt8 × Nat) : MapEntry := { key := .string ⟨x.1.toArray⟩, val := .func (.func x.2) #[] #[], born := i }
def entries (es : List (List UInt8 × Nat)) : Array MapEntry := (es.mapIdx entryAt).toArray
def itAt (B : Nat) (h : Array Obj) (v : Value) : ItK → Prop
  | .str s p => ∃ r, v = .pointer (some ⟨r, 0, none⟩) ∧ B ≤ r ∧ h[r]? = some (.stringIter ⟨s.toArray⟩ p)
  | .map es => ∃ r, v = .map (some r) ∧ B ≤ r ∧ h[r]? = some (.map (entries es) es.length)
  | .walk es seen => ∃ r, v = .pointer (some ⟨r, 0, none⟩) ∧ B ≤ r ∧ ∃ m, h[r]? = some (.mapIter (some m) es.length seen.toArray es.length) ∧ h[m]? = some (.map (entries es) es.length)
def _root_.Go.Obj.isItO : Obj → Bool
  | .stringIter .. | .mapIter .. | .map .. => true
  | _ => false
theorem itAt.keep2 {B : Nat} {h h' : Array Obj} {v : Value} {k : ItK} (hk : itAt B h v k) (ho : ∀ (r : Nat) (o : Obj), h[r]? = some o → o.isItO = true → h'[r]? = some o) : itAt B h' v k := by
  cases k with
  | str s p => obtain ⟨r, h1, h2, h3⟩ := hk; exact ⟨r, h1, h2, ho r _ h3 rfl⟩
  | map es => obtain ⟨r, h1, h2, h3⟩ := hk; exact ⟨r, h1, h2, ho r _ h3 rfl⟩
  | walk es seen => obtain ⟨r, h1, h2, m, h3, h4⟩ := hk; exact ⟨r, h1, h2, m, ho r _ h3 rfl, ho m _ h4 rfl⟩
theorem itAt.ne_new {B : Nat} {h : Array Obj} {v : Value} {k : ItK} (hk : itAt B h v k) : v ≠ .pointer (some ⟨h.size, 0, none⟩) := by
  rintro rfl
  cases k with
  | str s p => obtain ⟨r, h1, h2, h3⟩ := hk; injection h1 with h1; injection h1 with h1; injection h1 with h1; have := (Array.getElem?_eq_some_iff.1 h3).1; omega
  | map es => obtain ⟨r, h1, h2, h3⟩ := hk; cases h1
  | walk es seen => obtain ⟨r, h1, h2, m, h3, h4⟩ := hk; injection h1 with h1; injection h1 with h1; injection h1 with h1; have := (Array.getElem?_eq_some_iff.1 h3).1; omega
theorem itAt.keep {B : Nat} {h h' : Array Obj} {v : Value} {k : ItK} (hk : itAt B h v k) (ho : ∀ (r : Nat) (o : Obj), h[r]? = some o → o.isCells = false → h'[r]? = some o) : itAt B h' v k :=
  hk.keep2 fun r o h1 h2 => ho r o h1 (by cases o <;> first | rfl | cases h2)

inductive TV where
  | un
  | v (x : AV) (g : Option (Nat × Nat))
  | bld (l : List AV) (ns : List Nat)      -- a struct that was just built; its cells ns are nil slices
  | lp (k off : Nat)
  | it (k : ItK)
  | cl (f : FuncId) (ks : List Nat)      -- a function with boxes
  deriving Inhabited

def TV.nit : TV → Bool
  | .it _ => false
  | _ => true

structure AS where
  n : Nat
  tm : List (Nat × TV)
  bx : List (Nat × List AV)
  tb : List (Nat × Nat × Nat × Nat)     -- box, cell, group, element's type
  sh : List (Nat × List AV)
  hint : List (Nat × Nat)       -- the groups that may be opened, and their element types
  ys : List AV × Bool := ([], true)       -- within an iterator: what has come; still on
  fx : List Nat := []       -- the temporaries that may not be written
  mks : Nat := 0       -- how many ranges over functions have been entered

def TV.strip : TV → TV
  | .it _ => .un
  | x => x
def AS.get (σ : AS) (t : Nat) : TV := ((look t σ.tm).getD .un).strip
def AS.put (σ : AS) (d : Option Nat) (x : TV) : AS :=
  match d with
  | none => σ
  | some d => { σ with tm := (d, x) :: σ.tm }

structure Frm (B : Nat) (S : Nat → Prop) (w w' : World) : Prop where
  os : w'.os = w.os
  tape : w'.tape = w.tape
  output : w'.output = w.output
  size : w.heap.size ≤ w'.heap.size
  block : ∀ k, k < B → ¬ S k → w'.heap[k]? = w.heap[k]?

theorem Frm.refl (B : Nat) (S : Nat → Prop) (w : World) : Frm B S w w := ⟨rfl, rfl, rfl, Nat.le_refl _, fun _ _ _ => rfl⟩
theorem Frm.trans {B : Nat} {S : Nat → Prop} {a b c : World} (h : Frm B S a b) (k : Frm B S b c) : Frm B S a c :=
  ⟨k.os.trans h.os, k.tape.trans h.tape, k.output.trans h.output, Nat.le_trans h.size k.size, fun i hi hs => (k.block i hi hs).trans (h.block i hi hs)⟩
theorem Frm.mono {B B' : Nat} {S S' : Nat → Prop} {a b : World} (h : Frm B S a b) (hB : B' ≤ B) (hS : ∀ k, k < B' → S k → S' k) : Frm B' S' a b :=
  ⟨h.os, h.tape, h.output, h.size, fun k hk hs => h.block k (Nat.lt_of_lt_of_le hk hB) (fun x => hs (hS k hk x))⟩

def Fw (ro : Option Nat) : Fence := { fn := fun _ => True, depth := none, alive := false, round := ro }

structure Ys where
  P : Program
  l : Nat
  go : List AV → AV → Bool
  el : List AV → AV → Prop      -- what may come next
  J : List AV → Bool → Lim → World → Prop
  grow : ∀ s b lim lim' w w', J s b lim w → Frm w.heap.size (fun _ => False) w w' → (∀ k, k < w.heap.size → lim' k = lim k) → J s b lim' w'
  rd : ∀ n s lim w v x, J s true lim w → Rep lim w.heap v x → el s x → YieldAt (Fw none) n P l #[v] w fun e w' => ∃ lim', e = .returned (.bool (go s x)) ∧ J (s ++ [x]) (go s x) lim' w' ∧ Keep lim w.heap lim' w'.heap ∧ Frm 0 (fun _ => True) w w'

structure Gl where
  g : Nat → Option (List AV)
  y : Option Ys := none
  rnd : Bool := false      -- within a round of a range over a function
  top : Bool := false      -- what is described is all that has been made since the world was as at first

structure Cx where
  P : Program
  B : Nat
  S : Nat → Prop
  lim : Lim
  w0 : World
  df : List Deferred
  gl : Gl
  fx : Nat → Option Value

structure Gh where
  lim : Lim
  bl : Nat → Nat          -- the block of a box
  gv : Nat → Value        -- the value of a group

def esz (P : Program) (e : Nat) : Nat := ((P.info? e).map (·.size)).getD 0

def TRep (gh : Gh) (h : Array Obj) (v : Value) : TV → Prop
  | .un => True
  | .v x g => Rep gh.lim h v x ∧ ∀ p, g = some p → v = gh.gv p.1
  | .bld l ns => Rep gh.lim h v (.agg l) ∧ ∀ j ∈ ns, v.cells[j]? = some (.slice none 0 0)
  | .lp k off => v = .pointer (some ⟨gh.bl k, off, none⟩)
  | .it _ => True
  | .cl f ks => v = .func (.func f) #[] (ks.map fun k => Value.pointer (some ⟨gh.bl k, 0, none⟩)).toArray

def BoxAt (lim : Lim) (h : Array Obj) (b : Nat) (cells : List AV) : Prop :=
  lim b = .upto 0 ∧ ∃ cs e, h[b]? = some (.cells cs e (0, 0)) ∧ RepL lim h cs.toList cells

def AS.uses (σ : AS) (g e : Nat) : Prop := (∃ t x, look t σ.tm = some (.v x (some (g, e)))) ∨ ∃ k j, (k, j, g, e) ∈ σ.tb

def Oth (w w' : World) : Prop := ∀ (k : Nat) (o : Obj), w.heap[k]? = some o → o.isCells = false → w'.heap[k]? = some o

theorem Oth.refl (w : World) : Oth w w := fun _ _ h _ => h
theorem Oth.trans {a b c : World} (h : Oth a b) (k : Oth b c) : Oth a c := fun i o hi ho => k i o (h i o hi ho) ho
theorem Oth.of_frm {w w' : World} (h : Frm w.heap.size (fun _ => False) w w') : Oth w w' := fun k _ hk _ => (h.block k (Array.getElem?_eq_some_iff.1 hk).1 id).trans hk
theorem Oth.of_cells {w w' : World} {S : Nat → Prop} (h : Frm w.heap.size S w w') (hs : ∀ b, S b → ∃ cs e g, w.heap[b]? = some (.cells cs e g)) : Oth w w' := fun k o hk ho => by
  refine (h.block k (Array.getElem?_eq_some_iff.1 hk).1 (fun hb => ?_)).trans hk
  obtain ⟨cs, e, g, hc⟩ := hs k hb
  rw [hc] at hk; cases hk; cases ho

def markOf (D : Nat) : Deferred := { target := .collected D, args := #[] }

def DefOk (B : Nat) (df : List Deferred) (n : Nat) (ds : List Deferred) (w : World) : Prop :=
  ∃ Ds : List Nat, ds = Ds.map markOf ++ df ∧ (Ds.length = n ∧ Ds.Nodup) ∧ ∀ D ∈ Ds, B ≤ D ∧ w.heap[D]? = some (.deferred (some []))

structure Its (B : Nat) (σ : AS) (a : Act) (w : World) : Prop where
  at_ : ∀ t k, look t σ.tm = some (.it k) → itAt B w.heap (a.tmps.getD t undef) k
  inj : ∀ t t' k k', look t σ.tm = some (.it k) → look t' σ.tm = some (.it k') → a.tmps.getD t undef = a.tmps.getD t' undef → t = t'

structure Ex (cx : Cx) (lim : Lim) (σ : AS) (a : Act) (w : World) : Prop where
  keep : Keep cx.lim cx.w0.heap lim w.heap
  defers : DefOk cx.B cx.df σ.mks a.defers w
  yj : ∀ Y, cx.gl.y = some Y → (cx.B = 0 ∧ Y.P = cx.P) ∧ Y.J σ.ys.1 σ.ys.2 lim w
  its : Its cx.B σ a w
  fx : ∀ t v, cx.fx t = some v → t ∈ σ.fx ∧ a.tmps.getD t undef = v
  oth : cx.gl.y = none → ∀ (k : Nat) (o : Obj), cx.w0.heap[k]? = some o → o.isCells = false → o.isWalk = false → w.heap[k]? = some o
  top : cx.gl.top = true → cx.w0.heap.size ≤ cx.B ∧ (∀ g c, cx.gl.g g = some c → GlAt cx.lim cx.w0.heap g c) ∧ ∀ b r, cx.lim b = .reg r → r = 0

structure RR (cx : Cx) (gh : Gh) (σ : AS) (a : Act) (w : World) : Prop where
  frm : Frm cx.B cx.S cx.w0 w
  base : cx.B ≤ w.heap.size
  limB : ∀ b, b < cx.B → gh.lim b = cx.lim b
  size : a.tmps.size = σ.n
  ex : Ex cx gh.lim σ a w
  gl : ∀ g c, cx.gl.g g = some c → GlAt gh.lim w.heap g c
  tmps : ∀ t x, look t σ.tm = some x → TRep gh w.heap (a.tmps.getD t undef) x ∧ ∀ k off, x = .lp k off → (look k σ.bx).isSome = true
  boxes : ∀ k cells, look k σ.bx = some cells → cx.B ≤ gh.bl k ∧ BoxAt gh.lim w.heap (gh.bl k) cells
  inj : ∀ k k', (look k σ.bx).isSome = true → (look k' σ.bx).isSome = true → gh.bl k = gh.bl k' → k = k'
  shs : ∀ b cells, look b σ.sh = some cells → (cx.S b ∨ cx.B ≤ b) ∧ BoxAt gh.lim w.heap b cells
  apart : ∀ b k, (look b σ.sh).isSome = true → (look k σ.bx).isSome = true → gh.bl k ≠ b
  tbs : ∀ k j g e, (k, j, g, e) ∈ σ.tb → (look k σ.bx).isSome = true ∧ cellAt w.heap (gh.bl k) j = some (gh.gv g)
  own : ∀ g e, σ.uses g e → (∃ m xs, w.ownsRow cx.B e (esz cx.P e) (gh.gv g) m xs ∧ ∀ b, (gh.gv g).ownBlock = some b → gh.lim b = .upto (m * esz cx.P e)) ∧
    ∀ b, (gh.gv g).ownBlock = some b → (∀ k, (look k σ.bx).isSome = true → gh.bl k ≠ b) ∧ look b σ.sh = none
  alone : ∀ g e g' e', σ.uses g e → σ.uses g' e' → g ≠ g' → ∀ b, (gh.gv g).ownBlock = some b → (gh.gv g').ownBlock ≠ some b

def R (cx : Cx) (σ : AS) (a : Act) (w : World) : Prop := ∃ gh, RR cx gh σ a w

def cv1 : Value → Option AV
  | .bool b => some (.bool b)
  | .int k n => some (.int k n)
  | .string s => some (.str s.data.toList)
  | .slice _ 0 _ => some (.slice [])
  | .nilFunc => some .nilFunc
  | .pointer none => some .nilPtr
  | .nilIface => some .nilIface
  | _ => none
def cvL : List Value → Option (List AV)
  | [] => some []
  | v :: r => match cv1 v, cvL r with
    | some x, some l => some (x :: l)
    | _, _ => none
theorem cv1_rep {lim : Lim} {h : Array Obj} {v : Value} {x : AV} (e : cv1 v = some x) : Rep lim h v x := by
  unfold cv1 at e
  split at e <;> first | cases e | skip
  · exact .bool _
  · exact .int _ _
  · rename_i s; exact .str s.data.toList
  · exact .slice0 _ _
  · exact .nilFunc
  · exact .nilPtr
  · exact .nilIface
theorem cvL_rep {lim : Lim} {h : Array Obj} : ∀ {vs : List Value} {l : List AV}, cvL vs = some l → RepL lim h vs l
  | [], l, e => by cases e; exact RepL.nil _ _
  | v :: r, l, e => by
    unfold cvL at e
    split at e
    · rename_i x q h1 h2
      cases e
      exact RepL.cons (cv1_rep h1) (cvL_rep h2)
    · cases e

def cv : Value → TV
  | .agg cs => match cvL cs.toList with
    | some l => .v (.agg l) none
    | none => .un
  | .bool b => .v (.bool b) none
  | .int k n => .v (.int k n) none
  | .string s => .v (.str s.data.toList) none
  | .slice _ 0 _ => .v (.slice []) none
  | .nilFunc => .v .nilFunc none
  | .pointer none => .v .nilPtr none
  | .nilIface => .v .nilIface none
  | _ => .un

def ev (gl : Gl) (σ : AS) : Operand → TV
  | .tmp t => σ.get t
  | .const v => cv v
  | .global g => match gl.g g with | some c => .v (.ro c) none | none => .un
  | .func f => .v (.func f []) none

theorem cv_rep (gh : Gh) (h : Array Obj) (v : Value) : TRep gh h v (cv v) := by
  unfold cv
  split
  · rename_i cs
    split
    · rename_i l hl
      have hr := cvL_rep (lim := gh.lim) (h := h) hl
      refine ⟨.agg cs l (by simpa using hr.1) fun j x hx => ?_, by simp⟩
      have := hr.2 j x hx
      simpa using this
    · trivial
  all_goals simp only [TRep, reduceCtorEq, false_implies, implies_true, and_true]
  · exact .bool _
  · exact .int _ _
  · rename_i s; exact .str s.data.toList
  · exact .slice0 _ _
  · exact .nilFunc
  · exact .nilPtr
  · exact .nilIface

theorem RR.ev {cx : Cx} {gh : Gh} {σ : AS} {a : Act} {w : World} (r : RR cx gh σ a w) (x : Operand) : TRep gh w.heap (a.eval x) (ev cx.gl σ x) := by
  cases x with
  | tmp t =>
    simp only [Pv.ev, AS.get, Act.eval]
    cases h : look t σ.tm with
    | none => trivial
    | some y =>
      have h1 := (r.tmps t y h).1
      cases y <;> first | trivial | exact h1
  | const v => exact cv_rep gh _ v
  | global g =>
    simp only [Pv.ev, Act.eval]
    cases h : cx.gl.g g with
    | none => trivial
    | some c => exact ⟨(r.gl g c h).1, by simp⟩
  | func f => exact ⟨Rep.func_iff.2 ⟨#[], rfl, RepL.nil _ _⟩, by simp⟩

theorem RR.ev_lp {cx : Cx} {gh : Gh} {σ : AS} {a : Act} {w : World} (r : RR cx gh σ a w) (x : Operand) {k off : Nat} (h : Pv.ev cx.gl σ x = .lp k off) : (look k σ.bx).isSome = true := by
  cases x with
  | tmp t =>
    simp only [Pv.ev, AS.get] at h
    cases h1 : look t σ.tm with
    | none => rw [h1] at h; cases h
    | some y => rw [h1] at h; exact (r.tmps t y h1).2 k off (by cases y <;> first | exact h | cases h)
  | const v => simp only [Pv.ev, cv] at h; split at h <;> first | cases h | (split at h <;> cases h)
  | global g => simp only [Pv.ev] at h; split at h <;> cases h
  | func f => cases h

theorem RR.ev_uses {cx : Cx} {gh : Gh} {σ : AS} {a : Act} {w : World} (_ : RR cx gh σ a w) (x : Operand) {y : AV} {g e : Nat} (h : Pv.ev cx.gl σ x = .v y (some (g, e))) : σ.uses g e := by
  cases x with
  | tmp t =>
    simp only [Pv.ev, AS.get] at h
    cases h1 : look t σ.tm with
    | none => rw [h1] at h; cases h
    | some z => rw [h1] at h; cases z <;> first | cases h | skip
                exact .inl ⟨t, y, h1⟩
  | const v => simp only [Pv.ev, cv] at h; split at h <;> first | cases h | (split at h <;> cases h)
  | global g => simp only [Pv.ev] at h; split at h <;> cases h
  | func f => cases h

theorem Act.put_size (a : Act) (d : Option Nat) (v : Value) : (a.put d v).tmps.size = a.tmps.size := by cases d <;> simp [Act.put]
theorem Act.put_defers' (a : Act) (d : Option Nat) (v : Value) : (a.put d v).defers = a.defers := by cases d <;> rfl

theorem strip_nit (x : TV) : x.strip.nit = true := by cases x <;> rfl
theorem get_nit (σ : AS) (t : Nat) : (σ.get t).nit = true := strip_nit _
theorem ev_nit (gl : Gl) (σ : AS) (x : Operand) : (Pv.ev gl σ x).nit = true := by
  cases x with
  | tmp t => exact get_nit σ t
  | const v => simp only [Pv.ev]; unfold cv; split <;> first | rfl | (split <;> rfl)
  | global g => simp only [Pv.ev]; split <;> rfl
  | func f => rfl

theorem DefOk.oth {B n : Nat} {df ds : List Deferred} {w w' : World} (h : DefOk B df n ds w) (ho : Oth w w') : DefOk B df n ds w' := by
  obtain ⟨Ds, h1, h2, h3⟩ := h
  exact ⟨Ds, h1, h2, fun D hD => ⟨(h3 D hD).1, ho D _ (h3 D hD).2 rfl⟩⟩

theorem Its.oth {B : Nat} {σ : AS} {a : Act} {w w' : World} (h : Its B σ a w) (ho : Oth w w') : Its B σ a w' :=
  ⟨fun t k ht => (h.at_ t k ht).keep ho, h.inj⟩

theorem Its.sub {B : Nat} {σ σ' : AS} {a : Act} {w : World} (h : Its B σ a w) (hs : ∀ t k, look t σ'.tm = some (.it k) → look t σ.tm = some (.it k)) : Its B σ' a w :=
  ⟨fun t k ht => h.at_ t k (hs t k ht), fun t t' k k' h1 h2 h3 => h.inj t t' k k' (hs _ _ h1) (hs _ _ h2) h3⟩

theorem getD_put_ne (a : Act) {d t : Nat} (h : d ≠ t) (v : Value) : (a.put (some d) v).tmps.getD t undef = a.tmps.getD t undef := by
  simp [Act.put, Array.getElem?_setIfInBounds_ne h]

theorem Its.put {B : Nat} {σ : AS} {a : Act} {w : World} (h : Its B σ a w) (d : Option Nat) (x : TV) (hx : x.nit = true) (v : Value) : Its B (σ.put d x) (a.put d v) w := by
  cases d with
  | none => exact h
  | some d =>
    have key : ∀ t k, look t (σ.put (some d) x).tm = some (.it k) → d ≠ t ∧ look t σ.tm = some (.it k) := by
      intro t k ht
      simp only [AS.put, look] at ht
      split at ht
      · injection ht with ht; subst ht; cases hx
      · rename_i hne; exact ⟨hne, ht⟩
    refine ⟨fun t k ht => ?_, fun t t' k k' h1 h2 h3 => ?_⟩
    · obtain ⟨hne, ht'⟩ := key t k ht
      rw [getD_put_ne a hne]
      exact h.at_ t k ht'
    · obtain ⟨hne, h1'⟩ := key t k h1
      obtain ⟨hne', h2'⟩ := key t' k' h2
      rw [getD_put_ne a hne, getD_put_ne a hne'] at h3
      exact h.inj t t' k k' h1' h2' h3

theorem Ex.put {cx : Cx} {lim : Lim} {σ : AS} {a : Act} {w : World} (h : Ex cx lim σ a w) (d : Option Nat) (hd : ∀ t, d = some t → t < σ.n ∧ t ∉ σ.fx) (x : TV) (hx : x.nit = true) (v : Value) : Ex cx lim (σ.put d x) (a.put d v) w where
  keep := h.keep
  defers := by rw [Act.put_defers']; have := h.defers; cases d <;> exact this
  yj := fun Y hY => by have := h.yj Y hY; cases d <;> exact this
  its := h.its.put d x hx v
  fx := fun t u ht => by
    obtain ⟨h1, h2⟩ := h.fx t u ht
    cases d with
    | none => exact ⟨h1, h2⟩
    | some d =>
      refine ⟨h1, ?_⟩
      rw [getD_put_ne a (fun (he : d = t) => (hd d rfl).2 (by rw [he]; exact h1))]
      exact h2
  oth := h.oth
  top := h.top

theorem Ex.step {cx : Cx} {lim lim' : Lim} {σ : AS} {a : Act} {w w' : World} (h : Ex cx lim σ a w) (hk : Keep lim w.heap lim' w'.heap) (ho : Oth w w')
    (hy : cx.gl.y = none ∨ (Frm w.heap.size (fun _ => False) w w' ∧ ∀ k, k < w.heap.size → lim' k = lim k)) : Ex cx lim' σ a w' where
  keep := h.keep.trans hk
  defers := h.defers.oth ho
  yj := fun Y hY => by
    rcases hy with hy | ⟨h1, h2⟩
    · rw [hy] at hY; cases hY
    · exact ⟨(h.yj Y hY).1, Y.grow _ _ _ _ _ _ (h.yj Y hY).2 h1 h2⟩
  its := h.its.oth ho
  fx := h.fx
  oth := fun hy k o hk hc hw => ho k o (h.oth hy k o hk hc hw) hc
  top := h.top

theorem Ex.sub {cx : Cx} {lim : Lim} {σ σ' : AS} {a : Act} {w : World} (h : Ex cx lim σ a w) (hs : ∀ t k, look t σ'.tm = some (.it k) → look t σ.tm = some (.it k)) (hy : σ'.ys = σ.ys) (hf : σ'.fx = σ.fx) (hm : σ'.mks = σ.mks := by rfl) : Ex cx lim σ' a w where
  keep := h.keep
  defers := by rw [hm]; exact h.defers
  yj := by rw [hy]; exact h.yj
  its := h.its.sub hs
  fx := by rw [hf]; exact h.fx
  oth := h.oth
  top := h.top

theorem RR.put {cx : Cx} {gh : Gh} {σ : AS} {a : Act} {w : World} (r : RR cx gh σ a w) (d : Option Nat) (hd : ∀ t, d = some t → t < σ.n ∧ t ∉ σ.fx) {v : Value} {x : TV} (hni : x.nit = true) (hx : TRep gh w.heap v x)
    (hlp : ∀ k off, x = .lp k off → (look k σ.bx).isSome = true) (hg : ∀ y g e, x = .v y (some (g, e)) → σ.uses g e) : RR cx gh (σ.put d x) (a.put d v) w := by
  cases d with
  | none => exact r
  | some t =>
    have ht := (hd t rfl).1
    have huses : ∀ g e, (σ.put (some t) x).uses g e → σ.uses g e := by
      intro g e h
      rcases h with ⟨s, y, h⟩ | h
      · simp only [AS.put, look] at h
        split at h
        · injection h with h; exact hg y g e h
        · exact .inl ⟨s, y, h⟩
      · exact .inr h
    refine { frm := r.frm, base := r.base, limB := r.limB, size := by rw [Act.put_size]; exact r.size, ex := r.ex.put (some t) hd x hni v, gl := r.gl, tmps := ?_, boxes := r.boxes, inj := r.inj, shs := r.shs, apart := r.apart, tbs := r.tbs, own := fun g e h => r.own g e (huses g e h), alone := fun g e g' e' h h' => r.alone g e g' e' (huses g e h) (huses g' e' h') }
    intro s y h
    simp only [AS.put, look] at h
    have hsz := r.size
    by_cases hts : t = s
    · subst hts
      simp only [if_true] at h
      injection h with h; subst h
      refine ⟨?_, hlp⟩
      simpa [Act.put, ht, hsz] using hx
    · simp only [hts, if_false] at h
      have := r.tmps s y h
      simpa [Act.put, AS.put, Array.getElem?_setIfInBounds_ne hts] using this

theorem RR.put_v {cx : Cx} {gh : Gh} {σ : AS} {a : Act} {w : World} (r : RR cx gh σ a w) (d : Option Nat) (hd : ∀ t, d = some t → t < σ.n ∧ t ∉ σ.fx) {v : Value} {x : AV} (hx : Rep gh.lim w.heap v x) :
    RR cx gh (σ.put d (.v x none)) (a.put d v) w :=
  r.put d hd rfl ⟨hx, by simp⟩ (by simp) (by simp)

theorem RR.world {cx : Cx} {gh : Gh} {σ : AS} {a : Act} {w w' : World} (r : RR cx gh σ a w) (lim' : Lim) (hk : Keep gh.lim w.heap lim' w'.heap) (hf : Frm cx.B cx.S w w')
    (hl : ∀ b, b < w.heap.size → lim' b = gh.lim b) (hex : Ex cx lim' σ a w')
    (hb : ∀ k, (look k σ.bx).isSome = true → w'.heap[gh.bl k]? = w.heap[gh.bl k]?) (hs : ∀ b, (look b σ.sh).isSome = true → w'.heap[b]? = w.heap[b]?)
    (ho : ∀ g e, σ.uses g e → ∀ b, (gh.gv g).ownBlock = some b → w'.heap[b]? = w.heap[b]?) : RR cx { gh with lim := lim' } σ a w' := by
  have lt : ∀ {b : Nat} {o : Obj}, w.heap[b]? = some o → b < w.heap.size := fun h => (Array.getElem?_eq_some_iff.1 h).1
  refine { frm := r.frm.trans hf, base := Nat.le_trans r.base hf.size, limB := fun b h => (hl b (Nat.lt_of_lt_of_le h r.base)).trans (r.limB b h), size := r.size, ex := hex, gl := fun g c h => (r.gl g c h).mono hk, tmps := fun t x h => ⟨?_, (r.tmps t x h).2⟩, boxes := ?_, inj := r.inj, shs := ?_, apart := r.apart, tbs := ?_, own := ?_, alone := r.alone }
  · have := (r.tmps t x h).1
    cases x with
    | un => trivial
    | v y g => exact ⟨this.1.mono hk, this.2⟩
    | bld l ns => exact ⟨this.1.mono hk, this.2⟩
    | lp k off => exact this
    | it k9 => trivial
    | cl f ks => exact this
  · intro k cells h
    obtain ⟨h1, h2, cs, e, h3, h4⟩ := r.boxes k cells h
    have h5 : k ∈ [k] := by simp
    have hbk := hb k (by simp [h])
    exact ⟨h1, (hl _ (lt h3)).trans h2, cs, e, hbk.trans h3, h4.mono hk⟩
  · intro b cells h
    obtain ⟨h1, h2, cs, e, h3, h4⟩ := r.shs b cells h
    exact ⟨h1, (hl _ (lt h3)).trans h2, cs, e, (hs b (by simp [h])).trans h3, h4.mono hk⟩
  · intro k j g e h
    obtain ⟨h1, h2⟩ := r.tbs k j g e h
    refine ⟨h1, ?_⟩
    unfold cellAt at h2 ⊢
    rw [hb k h1]; exact h2
  · intro g e h
    obtain ⟨⟨m, xs, h1, h2⟩, h3⟩ := r.own g e h
    refine ⟨⟨m, xs, ⟨h1.1, ?_⟩, fun b hb' => ?_⟩, h3⟩
    · rcases h1.2 with hn | ⟨g', cap, cur, hv, hbg, hg', rest⟩
      · exact .inl hn
      · exact .inr ⟨g', cap, cur, hv, hbg, by rw [ho g e h g' (by rw [hv]; rfl)]; exact hg', rest⟩
    · have : b < w.heap.size := (h1.lt b hb').2
      exact (hl b this).trans (h2 b hb')

theorem Keep.of_same {lim lim' : Lim} {h h' : Array Obj} (hl : ∀ b, b < h.size → lim' b = lim b) (hh : ∀ b, b < h.size → h'[b]? = h[b]?) : Keep lim h lim' h' := by
  refine ⟨?_, fun b r ⟨cs, e, g, hc⟩ hr => ⟨by rw [hl b (Array.getElem?_eq_some_iff.1 hc).1]; exact hr, hh b (Array.getElem?_eq_some_iff.1 hc).1⟩⟩
  rintro b o ⟨cs, e, g, hc⟩ ho
  have hb := (Array.getElem?_eq_some_iff.1 hc).1
  refine ⟨⟨cs, e, g, (hh b hb).trans hc⟩, fun n hn => ho n (by rw [← hl b hb]; exact hn), ?_⟩
  unfold cellAt
  rw [hh b hb]

theorem RR.grow {cx : Cx} {gh : Gh} {σ : AS} {a : Act} {w w' : World} (r : RR cx gh σ a w) (lim' : Lim) (hf : Frm w.heap.size (fun _ => False) w w')
    (hl : ∀ b, b < w.heap.size → lim' b = gh.lim b) : RR cx { gh with lim := lim' } σ a w' := by
  have hh : ∀ b, b < w.heap.size → w'.heap[b]? = w.heap[b]? := fun b hb => hf.block b hb id
  have hin : ∀ {b : Nat} {o : Obj}, w.heap[b]? = some o → w'.heap[b]? = w.heap[b]? := fun h => hh _ (Array.getElem?_eq_some_iff.1 h).1
  refine r.world lim' (Keep.of_same hl hh) (hf.mono r.base (fun _ _ h => h.elim)) hl (r.ex.step (Keep.of_same hl hh) (Oth.of_frm hf) (.inr ⟨hf, hl⟩)) ?_ ?_ ?_
  · intro k hk
    obtain ⟨cells, hc⟩ := Option.isSome_iff_exists.1 hk
    obtain ⟨_, _, cs, e, h3, _⟩ := r.boxes k cells hc
    exact hin h3
  · intro b hb
    obtain ⟨cells, hc⟩ := Option.isSome_iff_exists.1 hb
    obtain ⟨_, _, cs, e, h3, _⟩ := r.shs b cells hc
    exact hin h3
  · intro g e hg b hb
    obtain ⟨⟨m, xs, h1, _⟩, _⟩ := r.own g e hg
    exact hh b (h1.lt b hb).2

theorem RR.drew {cx : Cx} {gh : Gh} {σ : AS} {a : Act} {w : World} (r : RR cx gh σ a w) (n : Nat) : RR cx gh σ a { w with drawn := n } :=
  r.grow gh.lim ⟨rfl, rfl, rfl, Nat.le_refl _, fun _ _ _ => rfl⟩ (fun _ _ => rfl)

end Go.Pv
end

section
/- What the operations on memory do to the abstract state. -/
namespace Go.Pv
open Go

def limUp (lim : Lim) (n : Nat) : Lim := fun b => if b < n then lim b else .all
theorem limUp_lt {lim : Lim} {n b : Nat} (h : b < n) : limUp lim n b = lim b := by simp [limUp, h]
theorem limUp_ge {lim : Lim} {n b : Nat} (h : n ≤ b) : limUp lim n b = .all := by simp [limUp, Nat.not_lt.2 h]

theorem Frm.alloc (w : World) (o : Obj) : Frm w.heap.size (fun _ => False) w (w.alloc o) := ⟨rfl, rfl, rfl, by simp, fun k hk _ => heap_alloc_old w o hk⟩

theorem RR.lt_box {cx : Cx} {gh : Gh} {σ : AS} {a : Act} {w : World} (r : RR cx gh σ a w) {k : Nat} (h : (look k σ.bx).isSome = true) : gh.bl k < w.heap.size := by
  obtain ⟨cells, hc⟩ := Option.isSome_iff_exists.1 h
  obtain ⟨_, _, cs, e, h3, _⟩ := r.boxes k cells hc
  exact (Array.getElem?_eq_some_iff.1 h3).1

theorem RR.lt_sh {cx : Cx} {gh : Gh} {σ : AS} {a : Act} {w : World} (r : RR cx gh σ a w) {b : Nat} (h : (look b σ.sh).isSome = true) : b < w.heap.size := by
  obtain ⟨cells, hc⟩ := Option.isSome_iff_exists.1 h
  obtain ⟨_, _, cs, e, h3, _⟩ := r.shs b cells hc
  exact (Array.getElem?_eq_some_iff.1 h3).1

theorem RR.lt_own {cx : Cx} {gh : Gh} {σ : AS} {a : Act} {w : World} (r : RR cx gh σ a w) {g e : Nat} (h : σ.uses g e) {b : Nat} (hb : (gh.gv g).ownBlock = some b) : b < w.heap.size ∧ cx.B ≤ b := by
  obtain ⟨⟨m, xs, h1, _⟩, _⟩ := r.own g e h
  exact ⟨(h1.lt b hb).2, (h1.lt b hb).1⟩

def upd {α : Type} (f : Nat → α) (k : Nat) (x : α) : Nat → α := fun j => if j = k then x else f j
@[simp] theorem upd_same {α : Type} (f : Nat → α) (k : Nat) (x : α) : upd f k x k = x := by simp [upd]
theorem upd_ne {α : Type} (f : Nat → α) {k j : Nat} (x : α) (h : j ≠ k) : upd f k x j = f j := by simp [upd, h]

theorem RR.newrow {cx : Cx} {gh : Gh} {σ : AS} {a : Act} {w : World} (r : RR cx gh σ a w) (o : Obj) : RR cx { gh with lim := limUp gh.lim w.heap.size } σ a (w.alloc o) :=
  r.grow _ (Frm.alloc w o) (fun _ hb => limUp_lt hb)

theorem RR.newbox {cx : Cx} {gh : Gh} {σ : AS} {a : Act} {w : World} (r : RR cx gh σ a w) (k : Nat) (hk : look k σ.bx = none) (hcl : ∀ t f ks, look t σ.tm = some (.cl f ks) → k ∉ ks) (cells : List AV) (cs : Array Value) (e : TypeId) (hc : RepL gh.lim w.heap cs.toList cells) :
    RR cx { gh with lim := upd gh.lim w.heap.size (.upto 0), bl := upd gh.bl k w.heap.size } { σ with bx := (k, cells) :: σ.bx } a (w.alloc (.cells cs e)) := by
  have hl : ∀ b, b < w.heap.size → upd gh.lim w.heap.size (.upto 0) b = gh.lim b := fun b hb => upd_ne _ _ (by omega)
  have r1 := r.grow (w' := w.alloc (.cells cs e)) (upd gh.lim w.heap.size (.upto 0)) (Frm.alloc w _) hl
  have hkeep : Keep gh.lim w.heap (upd gh.lim w.heap.size (.upto 0)) (w.alloc (.cells cs e)).heap := Keep.of_same hl (fun b hb => heap_alloc_old w _ hb)
  have hne : ∀ {k' : Nat}, (look k' σ.bx).isSome = true → k' ≠ k := fun h he => by subst he; rw [hk] at h; cases h
  have hbl : ∀ {k' : Nat}, (look k' σ.bx).isSome = true → upd gh.bl k w.heap.size k' = gh.bl k' := fun h => upd_ne _ _ (hne h)
  have hlk : ∀ k', (look k' ((k, cells) :: σ.bx)).isSome = true → k' = k ∨ (look k' σ.bx).isSome = true := by
    intro k' h
    simp only [look] at h
    split at h
    · rename_i h'; exact .inl h'.symm
    · exact .inr h
  have hlk' : ∀ {k' : Nat}, (look k' σ.bx).isSome = true → (look k' ((k, cells) :: σ.bx)).isSome = true := by
    intro k' h
    simp only [look]
    split
    · rfl
    · exact h
  refine { frm := r1.frm, base := r1.base, limB := r1.limB, size := r1.size, ex := r1.ex.sub (fun _ _ h => h) rfl rfl, gl := r1.gl, tmps := ?_, boxes := ?_, inj := ?_, shs := r1.shs, apart := ?_, tbs := ?_, own := ?_, alone := r1.alone }
  · intro t x h
    have h1 := r1.tmps t x h
    refine ⟨?_, fun k' off hx => hlk' (h1.2 k' off hx)⟩
    cases x with
    | un => trivial
    | v y g => exact h1.1
    | bld l ns => exact h1.1
    | lp k' off =>
      have h2 := h1.1
      simp only [TRep] at h2 ⊢
      rw [hbl (h1.2 k' off rfl)]; exact h2
    | it k9 => trivial
    | cl f ks =>
      have h2 := h1.1
      have h3 := hcl t f ks h
      simp only [TRep] at h2 ⊢
      rw [h2]
      congr 2
      apply List.map_congr_left
      intro q hq
      rw [upd_ne _ _ (fun (he : q = k) => h3 (by rw [← he]; exact hq))]
  · intro k' cells' h
    simp only [look] at h
    split at h
    · rename_i he; subst he
      injection h with h; subst h
      refine ⟨by simpa using r.base, by simp, cs, e, ?_, hc.mono hkeep⟩
      simpa using heap_alloc_new w _
    · have h2 := r1.boxes k' cells' h
      have h3 := hbl (k' := k') (by simp [h])
      dsimp only at h2 ⊢
      rw [h3]
      exact h2
  · intro k1 k2 h1 h2 he
    dsimp only at he
    by_cases e1 : k1 = k <;> by_cases e2 : k2 = k
    · rw [e1, e2]
    · have g2 := (hlk k2 h2).resolve_left e2
      rw [e1, upd_same, hbl g2] at he
      have := r.lt_box g2
      omega
    · have g1 := (hlk k1 h1).resolve_left e1
      rw [e2, upd_same, hbl g1] at he
      have := r.lt_box g1
      omega
    · have g1 := (hlk k1 h1).resolve_left e1
      have g2 := (hlk k2 h2).resolve_left e2
      rw [hbl g1, hbl g2] at he
      exact r.inj k1 k2 g1 g2 he
  · intro b k' hb h'
    dsimp only
    rcases hlk k' h' with rfl | h'
    · rw [upd_same]
      have := r.lt_sh hb
      omega
    · rw [hbl h']; exact r.apart b k' hb h'
  · intro k' j g e' h
    obtain ⟨h1, h2⟩ := r1.tbs k' j g e' h
    have h1' : (look k' σ.bx).isSome = true := h1
    refine ⟨hlk' h1, ?_⟩
    dsimp only at h2 ⊢
    rw [hbl h1']; exact h2
  · intro g e' h
    obtain ⟨h1, h2⟩ := r1.own g e' h
    refine ⟨h1, fun b hb => ⟨fun k' h' => ?_, (h2 b hb).2⟩⟩
    dsimp only at hb ⊢
    rcases hlk k' h' with rfl | h'
    · rw [upd_same]
      have := (r.lt_own (g := g) (e := e') h hb).1
      omega
    · rw [hbl h']; exact (h2 b hb).1 k' h'

def splice (cells : List AV) (off : Nat) (xs : List AV) : List AV := cells.take off ++ xs ++ cells.drop (off + xs.length)
def tbOf (k off : Nat) : Option (Nat × Nat) → List (Nat × Nat × Nat × Nat)
  | some p => [(k, off, p.1, p.2)]
  | none => []
def clr (tb : List (Nat × Nat × Nat × Nat)) (k off n : Nat) : List (Nat × Nat × Nat × Nat) := tb.filter fun q => !(q.1 == k && (decide (off ≤ q.2.1) && decide (q.2.1 < off + n)))

theorem Keep.setRow {lim : Lim} {w : World} {b : Nat} (hb : lim b = .upto 0) (cs : Array Value) : Keep lim w.heap lim (w.setRow b cs).heap := by
  refine ⟨?_, fun b' r _ h => ⟨h, setRow_other w b b' cs (fun he => by subst he; rw [hb] at h; cases h)⟩⟩
  rintro b' o ⟨cs', e, g, hc⟩ ho
  have hne : b' ≠ b := fun he => by subst he; exact absurd (ho 0 hb) (Nat.not_lt_zero _)
  refine ⟨⟨cs', e, g, (setRow_other w b b' cs hne).trans hc⟩, ho, ?_⟩
  unfold cellAt
  rw [setRow_other w b b' cs hne]

theorem Frm.setRow {B : Nat} {S : Nat → Prop} (w : World) (b : Nat) (cs : Array Value) (h : S b ∨ B ≤ b) : Frm B S w (w.setRow b cs) :=
  ⟨rfl, rfl, rfl, by simp, fun k hk hs => setRow_other w b k cs (fun he => by subst he; rcases h with h | h; exact hs h; omega)⟩

theorem Oth.setRow (w : World) (b : Nat) (cs : Array Value) {cur : Array Value} {e : TypeId} {g : Nat × Nat} (h : w.heap[b]? = some (.cells cur e g)) : Oth w (w.setRow b cs) := fun k o hk ho => by
  refine (setRow_other w b k cs (fun he => ?_)).trans hk
  subst he
  rw [h] at hk; cases hk; cases ho

theorem RR.store {cx : Cx} {gh : Gh} {σ : AS} {a : Act} {w : World} (r : RR cx gh σ a w) (hy : cx.gl.y = none) (k off : Nat) {cells : List AV} (hk : look k σ.bx = some cells) (vs : List Value) (xs : List AV)
    (hx : RepL gh.lim w.heap vs xs) (ho : off + xs.length ≤ cells.length) (tg : Option (Nat × Nat)) (htg : ∀ p, tg = some p → vs = [gh.gv p.1] ∧ σ.uses p.1 p.2) :
    ∃ cur e, w.heap[gh.bl k]? = some (.cells cur e (0, 0)) ∧ off + vs.length ≤ cur.size ∧
      RR cx gh { σ with bx := (k, splice cells off xs) :: σ.bx, tb := tbOf k off tg ++ clr σ.tb k off xs.length } a
        (w.setRow (gh.bl k) (cur.toList.take off ++ vs ++ cur.toList.drop (off + vs.length)).toArray) := by
  obtain ⟨hB, hlim, cur, e, hcur, hrep⟩ := r.boxes k cells hk
  have hsome : (look k σ.bx).isSome = true := by simp [hk]
  have hlen : cur.size = cells.length := by have := hrep.1; simpa using this
  refine ⟨cur, e, hcur, by rw [hx.1, hlen]; exact ho, ?_⟩
  generalize hnew : (cur.toList.take off ++ vs ++ cur.toList.drop (off + vs.length)).toArray = new
  have hkeep := Keep.setRow (w := w) hlim new
  have hlk : ∀ k', (look k' ((k, splice cells off xs) :: σ.bx)).isSome = (look k' σ.bx).isSome := by
    intro k'
    simp only [look]
    split
    · rename_i h; subst h; rw [hsome]; rfl
    · rfl
  have hheap : ∀ b, b ≠ gh.bl k → (w.setRow (gh.bl k) new).heap[b]? = w.heap[b]? := fun b hb => setRow_other w _ b new hb
  have hspl : RepL gh.lim (w.setRow (gh.bl k) new).heap new.toList (splice cells off xs) := by
    have h0 : RepL gh.lim w.heap new.toList (splice cells off xs) := by
      rw [← hnew]
      unfold splice
      rw [← hx.1]
      exact ((hrep.take off).append hx).append (hrep.drop _)
    exact h0.mono hkeep
  have husesI : ∀ g e', (AS.uses { σ with bx := (k, splice cells off xs) :: σ.bx, tb := tbOf k off tg ++ clr σ.tb k off xs.length } g e') → σ.uses g e' := by
    intro g e' h
    rcases h with h | ⟨k', j, h⟩
    · exact .inl h
    · simp only [List.mem_append] at h
      rcases h with h | h
      · cases tg with
        | none => simp [tbOf] at h
        | some p => simp [tbOf] at h; obtain ⟨-, -, rfl, rfl⟩ := h; exact (htg p rfl).2
      · exact .inr ⟨k', j, (List.mem_filter.1 h).1⟩
  refine { frm := r.frm.trans (Frm.setRow w _ _ (.inr hB)), base := by simpa using r.base, limB := r.limB, size := r.size, ex := (r.ex.step hkeep (Oth.setRow w _ _ hcur) (.inl hy)).sub (fun _ _ h => h) rfl rfl, gl := fun g c h => (r.gl g c h).mono hkeep, tmps := ?_, boxes := ?_, inj := ?_, shs := ?_, apart := ?_, tbs := ?_, own := ?_, alone := fun g e1 g' e2 h h' => r.alone g e1 g' e2 (husesI _ _ h) (husesI _ _ h') }
  · intro t x h
    have h1 := r.tmps t x h
    refine ⟨?_, fun k' o hx' => by rw [hlk]; exact h1.2 k' o hx'⟩
    cases x with
    | un => trivial
    | v y g => exact ⟨h1.1.1.mono hkeep, h1.1.2⟩
    | bld l ns => exact ⟨h1.1.1.mono hkeep, h1.1.2⟩
    | lp k' o => exact h1.1
    | it k9 => trivial
    | cl f ks => exact h1.1
  · intro k' cells' h
    simp only [look] at h
    split at h
    · rename_i he; subst he
      injection h with h; subst h
      exact ⟨hB, hlim, new, e, setRow_heap w _ cur new e _ hcur, hspl⟩
    · rename_i hne
      obtain ⟨h1, h2, cs, e', h3, h4⟩ := r.boxes k' cells' h
      have hbne : gh.bl k' ≠ gh.bl k := fun he => hne (r.inj k k' hsome (by simp [h]) he.symm)
      exact ⟨h1, h2, cs, e', (hheap _ hbne).trans h3, h4.mono hkeep⟩
  · intro k1 k2 h1 h2 he
    rw [hlk] at h1 h2
    exact r.inj k1 k2 h1 h2 he
  · intro b cells' h
    obtain ⟨h1, h2, cs, e', h3, h4⟩ := r.shs b cells' h
    have hbne : b ≠ gh.bl k := fun he => r.apart b k (by simp [h]) hsome he.symm
    exact ⟨h1, h2, cs, e', (hheap _ hbne).trans h3, h4.mono hkeep⟩
  · intro b k' h1 h2
    rw [hlk] at h2
    exact r.apart b k' h1 h2
  · intro k' j g e' h
    rw [hlk]
    simp only [List.mem_append] at h
    rcases h with h | h
    · cases tg with
      | none => simp [tbOf] at h
      | some p =>
        simp [tbOf] at h
        obtain ⟨rfl, rfl, rfl, rfl⟩ := h
        refine ⟨hsome, ?_⟩
        have hvs := (htg p rfl).1
        have hl1 : xs.length = 1 := by rw [← hx.1, hvs]; rfl
        unfold cellAt
        rw [setRow_heap w _ cur new e _ hcur]
        have htake : (cur.toList.take j).length = j := by simp; omega
        show new[j]? = _
        rw [← hnew, hvs]
        simp only [List.append_assoc, List.getElem?_toArray]
        rw [List.getElem?_append_right (by omega), htake]
        simp
    · obtain ⟨h, hnot⟩ := List.mem_filter.1 h
      obtain ⟨h1, h2⟩ := r.tbs k' j g e' h
      refine ⟨h1, ?_⟩
      by_cases hkk : k' = k
      · subst hkk
        unfold cellAt at h2 ⊢
        rw [hcur] at h2
        rw [setRow_heap w _ cur new e _ hcur]
        simp only [] at h2 ⊢
        have hj : j < cur.size := (Array.getElem?_eq_some_iff.1 h2).1
        have hout : ¬ (off ≤ j ∧ j < off + xs.length) := by simp at hnot; omega
        have htake : (cur.toList.take off).length = off := by simp; omega
        rw [← hnew, List.getElem?_toArray]
        have hvl := hx.1
        rcases Nat.lt_or_ge j off with hlt | hge
        · rw [List.append_assoc, List.getElem?_append_left (by omega), List.getElem?_take, if_pos hlt]
          simpa using h2
        · have hge2 : off + xs.length ≤ j := by omega
          rw [List.getElem?_append_right (by simp; omega), List.getElem?_drop]
          have : off + vs.length + (j - (cur.toList.take off ++ vs).length) = j := by rw [List.length_append, htake]; omega
          rw [this]
          simpa using h2
      · have hbne : gh.bl k' ≠ gh.bl k := fun he => hkk (r.inj k' k h1 hsome he)
        unfold cellAt at h2 ⊢
        rw [hheap _ hbne]; exact h2
  · intro g e' h
    obtain ⟨⟨m, xs', h1, h2⟩, h3⟩ := r.own g e' (husesI g e' h)
    refine ⟨⟨m, xs', ⟨h1.1, ?_⟩, h2⟩, fun b hb => ⟨fun k' h' => by rw [hlk] at h'; exact (h3 b hb).1 k' h', (h3 b hb).2⟩⟩
    rcases h1.2 with hn | ⟨g', cap, cur', hv, hbg, hg', rest⟩
    · exact .inl hn
    · refine .inr ⟨g', cap, cur', hv, hbg, ?_, rest⟩
      rw [hheap g' (fun he => (h3 g' (by rw [hv]; rfl)).1 k hsome he.symm)]
      exact hg'

theorem RR.storeSh {cx : Cx} {gh : Gh} {σ : AS} {a : Act} {w : World} (r : RR cx gh σ a w) (hy : cx.gl.y = none) (b0 off : Nat) {cells : List AV} (hk : look b0 σ.sh = some cells) (vs : List Value) (xs : List AV)
    (hx : RepL gh.lim w.heap vs xs) (ho : off + xs.length ≤ cells.length) :
    ∃ cur e, w.heap[b0]? = some (.cells cur e (0, 0)) ∧ off + vs.length ≤ cur.size ∧
      RR cx gh { σ with sh := (b0, splice cells off xs) :: σ.sh } a (w.setRow b0 (cur.toList.take off ++ vs ++ cur.toList.drop (off + vs.length)).toArray) := by
  obtain ⟨hB, hlim, cur, e, hcur, hrep⟩ := r.shs b0 cells hk
  have hsome : (look b0 σ.sh).isSome = true := by simp [hk]
  have hlen : cur.size = cells.length := by have := hrep.1; simpa using this
  refine ⟨cur, e, hcur, by rw [hx.1, hlen]; exact ho, ?_⟩
  generalize hnew : (cur.toList.take off ++ vs ++ cur.toList.drop (off + vs.length)).toArray = new
  have hkeep := Keep.setRow (w := w) hlim new
  have hlk : ∀ k', (look k' ((b0, splice cells off xs) :: σ.sh)).isSome = (look k' σ.sh).isSome := by
    intro k'
    simp only [look]
    split
    · rename_i h; subst h; rw [hsome]; rfl
    · rfl
  have hheap : ∀ b, b ≠ b0 → (w.setRow b0 new).heap[b]? = w.heap[b]? := fun b hb => setRow_other w _ b new hb
  have hspl : RepL gh.lim (w.setRow b0 new).heap new.toList (splice cells off xs) := by
    have h0 : RepL gh.lim w.heap new.toList (splice cells off xs) := by
      rw [← hnew]
      unfold splice
      rw [← hx.1]
      exact ((hrep.take off).append hx).append (hrep.drop _)
    exact h0.mono hkeep
  refine { frm := r.frm.trans (Frm.setRow w _ _ hB), base := by simpa using r.base, limB := r.limB, size := r.size, ex := (r.ex.step hkeep (Oth.setRow w _ _ hcur) (.inl hy)).sub (fun _ _ h => h) rfl rfl, gl := fun g c h => (r.gl g c h).mono hkeep, tmps := ?_, boxes := ?_, inj := r.inj, shs := ?_, apart := ?_, tbs := ?_, own := ?_, alone := r.alone }
  · intro t x h
    have h1 := r.tmps t x h
    refine ⟨?_, h1.2⟩
    cases x with
    | un => trivial
    | v y g => exact ⟨h1.1.1.mono hkeep, h1.1.2⟩
    | bld l ns => exact ⟨h1.1.1.mono hkeep, h1.1.2⟩
    | lp k' o => exact h1.1
    | it k9 => trivial
    | cl f ks => exact h1.1
  · intro k' cells' h
    obtain ⟨h1, h2, cs, e', h3, h4⟩ := r.boxes k' cells' h
    have hbne : gh.bl k' ≠ b0 := r.apart b0 k' hsome (by simp [h])
    exact ⟨h1, h2, cs, e', (hheap _ hbne).trans h3, h4.mono hkeep⟩
  · intro b cells' h
    simp only [look] at h
    split at h
    · rename_i he; subst he
      injection h with h; subst h
      exact ⟨hB, hlim, new, e, setRow_heap w _ cur new e _ hcur, hspl⟩
    · rename_i hne
      obtain ⟨h1, h2, cs, e', h3, h4⟩ := r.shs b cells' h
      exact ⟨h1, h2, cs, e', (hheap _ (fun he => hne he.symm)).trans h3, h4.mono hkeep⟩
  · intro b k' h1 h2
    rw [hlk] at h1
    exact r.apart b k' h1 h2
  · intro k' j g e' h
    obtain ⟨h1, h2⟩ := r.tbs k' j g e' h
    refine ⟨h1, ?_⟩
    unfold cellAt at h2 ⊢
    rw [hheap _ (r.apart b0 k' hsome h1)]; exact h2
  · intro g e' h
    obtain ⟨⟨m, xs', h1, h2⟩, h3⟩ := r.own g e' h
    have hno : ∀ b, (gh.gv g).ownBlock = some b → b ≠ b0 := fun b hb he => by
      have := (h3 b hb).2
      rw [he, hk] at this; cases this
    refine ⟨⟨m, xs', ⟨h1.1, ?_⟩, h2⟩, fun b hb => ⟨(h3 b hb).1, ?_⟩⟩
    · rcases h1.2 with hn | ⟨g', cap, cur', hv, hbg, hg', rest⟩
      · exact .inl hn
      · exact .inr ⟨g', cap, cur', hv, hbg, by rw [hheap g' (hno g' (by rw [hv]; rfl))]; exact hg', rest⟩
    · simp only [look, if_neg (fun he : b0 = b => hno b hb he.symm)]
      exact (h3 b hb).2

end Go.Pv
end

/- Values without memory (AV), and what it means that a value of the model, with the memory behind it, is such a value (Rep). -/
import Derived.WalkKit
import Derived.OrdersIn
import Derived.RangeFuncLeaves
import Derived.RangeFuncOwn
namespace Go.Pv
open Go

inductive AV where
  | bool (b : Bool)
  | int (k : IntKind) (n : Int)
  | str (l : List UInt8)
  | slice (l : List (List AV))
  | agg (l : List AV)
  | tup (l : List AV)
  | func (f : FuncId) (caps : List AV)
  | nilFunc
  | yld (l : Nat)
  | ro (l : List AV)
  | nilPtr
  | gp (b off : Nat)
  | iface (t : TypeId) (x : AV)
  | nilIface
  deriving Inhabited

def AV.one : AV → Bool
  | .agg _ | .tup _ => false
  | _ => true

abbrev Lim := Nat → Option Nat
/-- Offset o of block b never changes. -/
def Lim.ok (lim : Lim) (b o : Nat) : Prop := ∀ n, lim b = some n → o < n

def cellAt (h : Array Obj) (b o : Nat) : Option Value :=
  match h[b]? with
  | some (.cells c _ _) => c[o]?
  | _ => none

theorem cell?_eq (w : World) (b o : Nat) : w.cell? ⟨b, o, none⟩ = cellAt w.heap b o := by
  unfold World.cell? cellAt
  cases w.heap[b]? with
  | none => rfl
  | some x => cases x <;> rfl

theorem cellAt_lt {h : Array Obj} {b o : Nat} {v : Value} (e : cellAt h b o = some v) : b < h.size := by
  unfold cellAt at e
  rcases Nat.lt_or_ge b h.size with h1 | h1
  · exact h1
  · simp [Array.getElem?_eq_none h1] at e

inductive Rep (lim : Lim) (h : Array Obj) : Value → AV → Prop
  | bool (b : Bool) : Rep lim h (.bool b) (.bool b)
  | int (k : IntKind) (n : Int) : Rep lim h (.int k n) (.int k n)
  | str (l : List UInt8) : Rep lim h (.string ⟨l.toArray⟩) (.str l)
  | slice0 (p : Option Addr) (cap : Nat) : Rep lim h (.slice p 0 cap) (.slice [])
  | slice (b off cap sz : Nat) (l : List (List AV)) (vs : Nat → Value) (hcap : l.length ≤ cap)
      (hrow : ∀ (i : Nat) (r : List AV), l[i]? = some r → r.length = sz)
      (hc : ∀ (j : Nat), j < l.length * sz → lim.ok b (off + j) ∧ cellAt h b (off + j) = some (vs j))
      (hr : ∀ (i j : Nat) (r : List AV) (x : AV), l[i]? = some r → r[j]? = some x → Rep lim h (vs (i * sz + j)) x) :
      Rep lim h (.slice (some ⟨b, off, none⟩) l.length cap) (.slice l)
  | agg (cs : Array Value) (l : List AV) (hl : cs.size = l.length) (hr : ∀ (j : Nat) (x : AV), l[j]? = some x → Rep lim h (cs.getD j undef) x) : Rep lim h (.agg cs) (.agg l)
  | tup (cs : Array Value) (l : List AV) (hl : cs.size = l.length) (hr : ∀ (j : Nat) (x : AV), l[j]? = some x → Rep lim h (cs.getD j undef) x) : Rep lim h (.tuple cs) (.tup l)
  | func (f : FuncId) (cs : Array Value) (l : List AV) (hl : cs.size = l.length) (hr : ∀ (j : Nat) (x : AV), l[j]? = some x → Rep lim h (cs.getD j undef) x) :
      Rep lim h (.func (.func f) #[] cs) (.func f l)
  | nilFunc : Rep lim h .nilFunc .nilFunc
  | yld (l : Nat) : Rep lim h (.func (.yield l) #[] #[]) (.yld l)
  | ro (b off : Nat) (l : List AV) (vs : Nat → Value) (hc : ∀ (j : Nat), j < l.length → lim.ok b (off + j) ∧ cellAt h b (off + j) = some (vs j))
      (hr : ∀ (j : Nat) (x : AV), l[j]? = some x → Rep lim h (vs j) x) : Rep lim h (.pointer (some ⟨b, off, none⟩)) (.ro l)
  | nilPtr : Rep lim h (.pointer none) .nilPtr
  | gp (b off : Nat) : Rep lim h (.pointer (some ⟨b, off, none⟩)) (.gp b off)
  | iface (t : TypeId) (v : Value) (x : AV) (hx : Rep lim h v x) : Rep lim h (.iface t v) (.iface t x)
  | nilIface : Rep lim h .nilIface .nilIface

/-- A block of cells. -/
def CellsB (h : Array Obj) (b : Nat) : Prop := ∃ cs e g, h[b]? = some (.cells cs e g)
theorem cellAt_B {h : Array Obj} {b o : Nat} {v : Value} (e : cellAt h b o = some v) : CellsB h b := by
  unfold cellAt at e
  split at e
  · rename_i hb; exact ⟨_, _, _, hb⟩
  · cases e
/-- What never changes under (lim, h) is the same under (lim', h'), and never changes there. -/
def Keep (lim : Lim) (h : Array Obj) (lim' : Lim) (h' : Array Obj) : Prop :=
  ∀ b o, CellsB h b → lim.ok b o → CellsB h' b ∧ lim'.ok b o ∧ cellAt h' b o = cellAt h b o

theorem Keep.at {lim lim' : Lim} {h h' : Array Obj} (k : Keep lim h lim' h') (b o : Nat) (v : Value) (ho : lim.ok b o) (hc : cellAt h b o = some v) : lim'.ok b o ∧ cellAt h' b o = some v := by
  obtain ⟨-, h1, h2⟩ := k b o (cellAt_B hc) ho
  exact ⟨h1, h2.trans hc⟩
theorem Keep.refl (lim : Lim) (h : Array Obj) : Keep lim h lim h := fun _ _ a b => ⟨a, b, rfl⟩
theorem Keep.trans {l1 l2 l3 : Lim} {h1 h2 h3 : Array Obj} (a : Keep l1 h1 l2 h2) (b : Keep l2 h2 l3 h3) : Keep l1 h1 l3 h3 :=
  fun x o hc ho => let ⟨p, q, r⟩ := a x o hc ho; let ⟨p', q', r'⟩ := b x o p q; ⟨p', q', r'.trans r⟩

theorem Keep.of_cells {h h' : Array Obj} (hc : ∀ (k : Nat) (cs : Array Value) (e : TypeId) (g : Nat × Nat), h[k]? = some (.cells cs e g) → h'[k]? = h[k]?) (lim : Lim) : Keep lim h lim h' := by
  rintro b o ⟨cs, e, g, hb⟩ ho
  have h1 := hc b cs e g hb
  refine ⟨⟨cs, e, g, h1.trans hb⟩, ho, ?_⟩
  unfold cellAt
  rw [h1]

theorem Rep.mono {lim lim' : Lim} {h h' : Array Obj} (k : Keep lim h lim' h') {v : Value} {x : AV} (r : Rep lim h v x) : Rep lim' h' v x := by
  induction r with
  | bool b => exact .bool b
  | int k n => exact .int k n
  | str l => exact .str l
  | slice0 p cap => exact .slice0 p cap
  | slice b off cap sz l vs hcap hrow hc hr ih =>
    exact .slice b off cap sz l vs hcap hrow (fun j hj => k.at _ _ _ (hc j hj).1 (hc j hj).2) ih
  | agg cs l hl hr ih => exact .agg cs l hl ih
  | tup cs l hl hr ih => exact .tup cs l hl ih
  | func f cs l hl hr ih => exact .func f cs l hl ih
  | nilFunc => exact .nilFunc
  | yld l => exact .yld l
  | ro b off l vs hc hr ih => exact .ro b off l vs (fun j hj => k.at _ _ _ (hc j hj).1 (hc j hj).2) ih
  | nilPtr => exact .nilPtr
  | gp b off => exact .gp b off
  | iface t v x hx ih => exact .iface t v x ih
  | nilIface => exact .nilIface

theorem Rep.oneCell {lim : Lim} {h : Array Obj} {v : Value} {x : AV} (r : Rep lim h v x) (hx : x.one = true) : v.oneCell' = true := by
  cases r <;> simp_all [AV.one, Value.oneCell']

theorem Rep.cells_one {lim : Lim} {h : Array Obj} {v : Value} {x : AV} (r : Rep lim h v x) (hx : x.one = true) : v.cells = #[v] := by
  cases r <;> simp_all [AV.one, Value.cells]

/-- A list of values, part by part. -/
def RepL (lim : Lim) (h : Array Obj) (vs : List Value) (l : List AV) : Prop :=
  vs.length = l.length ∧ ∀ (j : Nat) (x : AV), l[j]? = some x → Rep lim h (vs.getD j undef) x

theorem RepL.mono {lim lim' : Lim} {h h' : Array Obj} (k : Keep lim h lim' h') {vs : List Value} {l : List AV} (r : RepL lim h vs l) : RepL lim' h' vs l :=
  ⟨r.1, fun j x hx => (r.2 j x hx).mono k⟩

theorem RepL.nil (lim : Lim) (h : Array Obj) : RepL lim h [] [] := ⟨rfl, fun j x hx => by simp at hx⟩
theorem RepL.cons {lim : Lim} {h : Array Obj} {v : Value} {x : AV} {vs : List Value} {l : List AV} (a : Rep lim h v x) (b : RepL lim h vs l) : RepL lim h (v :: vs) (x :: l) :=
  ⟨by simp [b.1], fun j y hy => by cases j with
    | zero => simp at hy; subst hy; exact a
    | succ j => exact b.2 j y (by simpa using hy)⟩
theorem RepL.head {lim : Lim} {h : Array Obj} {v : Value} {x : AV} {vs : List Value} {l : List AV} (r : RepL lim h (v :: vs) (x :: l)) : Rep lim h v x := r.2 0 x rfl
theorem RepL.tail {lim : Lim} {h : Array Obj} {v : Value} {x : AV} {vs : List Value} {l : List AV} (r : RepL lim h (v :: vs) (x :: l)) : RepL lim h vs l :=
  ⟨by simpa using r.1, fun j y hy => by simpa using r.2 (j + 1) y (by simpa using hy)⟩
theorem RepL.get {lim : Lim} {h : Array Obj} {vs : List Value} {l : List AV} (r : RepL lim h vs l) {j : Nat} {x : AV} (hx : l[j]? = some x) : ∃ v, vs[j]? = some v ∧ Rep lim h v x := by
  have h1 := r.2 j x hx
  have hj : j < l.length := (List.getElem?_eq_some_iff.1 hx).1
  have hj' : j < vs.length := by rw [r.1]; exact hj
  exact ⟨vs[j], by simp [hj'], by simpa [List.getD, hj'] using h1⟩
theorem RepL.take {lim : Lim} {h : Array Obj} {vs : List Value} {l : List AV} (r : RepL lim h vs l) (n : Nat) : RepL lim h (vs.take n) (l.take n) := by
  refine ⟨by simp [r.1], fun j x hx => ?_⟩
  rw [List.getElem?_take] at hx
  split at hx
  · rename_i hj
    have := r.2 j x hx
    simpa [List.getD, List.getElem?_take, hj] using this
  · cases hx
theorem RepL.drop {lim : Lim} {h : Array Obj} {vs : List Value} {l : List AV} (r : RepL lim h vs l) (n : Nat) : RepL lim h (vs.drop n) (l.drop n) := by
  refine ⟨by simp [r.1], fun j x hx => ?_⟩
  rw [List.getElem?_drop] at hx
  have := r.2 _ x hx
  simpa [List.getD, List.getElem?_drop] using this
theorem RepL.append {lim : Lim} {h : Array Obj} {vs us : List Value} {l m : List AV} (r : RepL lim h vs l) (s : RepL lim h us m) : RepL lim h (vs ++ us) (l ++ m) := by
  induction l generalizing vs with
  | nil => have : vs = [] := List.eq_nil_of_length_eq_zero (by simpa using r.1); subst this; simpa using s
  | cons x l ih =>
    cases vs with
    | nil => have := r.1; simp at this
    | cons v vs => exact .cons r.head (ih r.tail)
theorem RepL.set {lim : Lim} {h : Array Obj} {vs : List Value} {l : List AV} (r : RepL lim h vs l) (n : Nat) {v : Value} {x : AV} (hx : Rep lim h v x) : RepL lim h (vs.set n v) (l.set n x) := by
  refine ⟨by simp [r.1], fun j y hy => ?_⟩
  rw [List.getElem?_set] at hy
  by_cases hj : n = j
  · subst hj
    simp only [if_true] at hy
    split at hy
    · rename_i hl
      injection hy with hy; subst hy
      have hl' : n < vs.length := by rw [r.1]; exact hl
      simpa [List.getD, List.getElem?_set, hl'] using hx
    · cases hy
  · simp only [hj, if_false] at hy
    have := r.2 j y hy
    simpa [List.getD, List.getElem?_set, hj] using this

theorem Rep.agg_iff {lim : Lim} {h : Array Obj} {v : Value} {l : List AV} : Rep lim h v (.agg l) ↔ ∃ cs : Array Value, v = .agg cs ∧ RepL lim h cs.toList l := by
  constructor
  · intro r
    cases r with
    | agg cs l hl hr => exact ⟨cs, rfl, by simpa using hl, fun j x hx => by simpa [List.getD, Array.getD_eq_getD_getElem?] using hr j x hx⟩
  · rintro ⟨cs, rfl, hl, hr⟩
    exact .agg cs l (by simpa using hl) fun j x hx => by simpa [List.getD, Array.getD_eq_getD_getElem?] using hr j x hx

theorem Rep.tup_iff {lim : Lim} {h : Array Obj} {v : Value} {l : List AV} : Rep lim h v (.tup l) ↔ ∃ cs : Array Value, v = .tuple cs ∧ RepL lim h cs.toList l := by
  constructor
  · intro r
    cases r with
    | tup cs l hl hr => exact ⟨cs, rfl, by simpa using hl, fun j x hx => by simpa [List.getD, Array.getD_eq_getD_getElem?] using hr j x hx⟩
  · rintro ⟨cs, rfl, hl, hr⟩
    exact .tup cs l (by simpa using hl) fun j x hx => by simpa [List.getD, Array.getD_eq_getD_getElem?] using hr j x hx

theorem Rep.func_iff {lim : Lim} {h : Array Obj} {v : Value} {f : FuncId} {l : List AV} : Rep lim h v (.func f l) ↔ ∃ cs : Array Value, v = .func (.func f) #[] cs ∧ RepL lim h cs.toList l := by
  constructor
  · intro r
    cases r with
    | func f cs l hl hr => exact ⟨cs, rfl, by simpa using hl, fun j x hx => by simpa [List.getD, Array.getD_eq_getD_getElem?] using hr j x hx⟩
  · rintro ⟨cs, rfl, hl, hr⟩
    exact .func f cs l (by simpa using hl) fun j x hx => by simpa [List.getD, Array.getD_eq_getD_getElem?] using hr j x hx

/-- A pointer to cells that never change, as lists. -/
theorem Rep.ro_iff {lim : Lim} {h : Array Obj} {v : Value} {l : List AV} : Rep lim h v (.ro l) ↔ ∃ b off vs, v = .pointer (some ⟨b, off, none⟩) ∧ RepL lim h vs l ∧ ∀ j u, vs[j]? = some u → lim.ok b (off + j) ∧ cellAt h b (off + j) = some u := by
  constructor
  · intro r
    cases r with
    | ro b off l vs hc hr =>
      refine ⟨b, off, (List.range l.length).map vs, rfl, ⟨by simp, fun j x hx => ?_⟩, fun j u hu => ?_⟩
      · have hj : j < l.length := (List.getElem?_eq_some_iff.1 hx).1
        simpa [List.getD, hj] using hr j x hx
      · simp only [List.getElem?_map] at hu
        have hj : j < l.length := by
          rcases Nat.lt_or_ge j l.length with h | h
          · exact h
          · rw [List.getElem?_eq_none (by simpa using h)] at hu; simp at hu
        rw [List.getElem?_range hj] at hu
        simp at hu; subst hu
        exact hc j hj
  · rintro ⟨b, off, vs, rfl, hr, hc⟩
    refine .ro b off l (fun j => vs.getD j undef) (fun j hj => ?_) hr.2
    have hj' : j < vs.length := by rw [hr.1]; exact hj
    have := hc j vs[j] (by simp [hj'])
    simpa [List.getD, hj'] using this

theorem Rep.ro_drop {lim : Lim} {h : Array Obj} {b off : Nat} {l : List AV} (n : Nat) (r : Rep lim h (.pointer (some ⟨b, off, none⟩)) (.ro l)) : Rep lim h (.pointer (some ⟨b, off + n, none⟩)) (.ro (l.drop n)) := by
  obtain ⟨b', off', vs, hv, hr, hc⟩ := Rep.ro_iff.1 r
  simp only [Value.pointer.injEq, Option.some.injEq, Addr.mk.injEq, and_true] at hv
  obtain ⟨rfl, rfl⟩ := hv
  refine Rep.ro_iff.2 ⟨b, off + n, vs.drop n, rfl, hr.drop n, fun j u hu => ?_⟩
  rw [List.getElem?_drop] at hu
  have := hc _ u hu
  rwa [show off + n + j = off + (n + j) by omega]

/-- Row i of a slice, behind the pointer to it. -/
theorem Rep.row {lim : Lim} {h : Array Obj} {p : Option Addr} {n cap : Nat} {l : List (List AV)} (r : Rep lim h (.slice p n cap) (.slice l)) {i : Nat} {x : List AV} (hx : l[i]? = some x) :
    ∃ b off, p = some ⟨b, off, none⟩ ∧ Rep lim h (.pointer (some ⟨b, off + i * x.length, none⟩)) (.ro x) := by
  cases r with
  | slice0 => simp at hx
  | slice b off cap sz l vs hcap hrow hc hr =>
    refine ⟨b, off, rfl, ?_⟩
    have hi : i < l.length := (List.getElem?_eq_some_iff.1 hx).1
    have hs := hrow i x hx
    rw [hs]
    refine .ro b (off + i * sz) x (fun j => vs (i * sz + j)) (fun j hj => ?_) (fun j y hy => hr i j x y hx hy)
    have h1 : i * sz + j < l.length * sz := by
      have : (i + 1) * sz ≤ l.length * sz := Nat.mul_le_mul_right _ hi
      rw [Nat.add_mul] at this
      omega
    have := hc _ h1
    rwa [show off + (i * sz + j) = off + i * sz + j by omega] at this

theorem Rep.slice_len {lim : Lim} {h : Array Obj} {p : Option Addr} {n cap : Nat} {l : List (List AV)} (r : Rep lim h (.slice p n cap) (.slice l)) : n = l.length ∧ n ≤ cap := by
  cases r with
  | slice0 => exact ⟨rfl, Nat.zero_le _⟩
  | slice b off cap sz l vs hcap hrow hc hr => exact ⟨rfl, hcap⟩

theorem Rep.slice_form {lim : Lim} {h : Array Obj} {v : Value} {l : List (List AV)} (r : Rep lim h v (.slice l)) : ∃ p cap, v = .slice p l.length cap ∧ l.length ≤ cap := by
  cases r with
  | slice0 p cap => exact ⟨p, cap, rfl, Nat.zero_le _⟩
  | slice b off cap sz l vs hcap hrow hc hr => exact ⟨_, cap, rfl, hcap⟩

/-- The cells behind a slice, one after the other. -/
theorem flat_rows {lim : Lim} {h : Array Obj} {sz : Nat} : ∀ (l : List (List AV)) (vs : Nat → Value), (∀ (i : Nat) (r : List AV), l[i]? = some r → r.length = sz) →
    (∀ (i j : Nat) (r : List AV) (x : AV), l[i]? = some r → r[j]? = some x → Rep lim h (vs (i * sz + j)) x) → RepL lim h ((List.range (l.length * sz)).map vs) l.flatten := by
  intro l
  induction l with
  | nil => intro vs _ _; simpa using RepL.nil lim h
  | cons r l ih =>
    intro vs hrow hr
    have h0 : r.length = sz := hrow 0 r rfl
    have e : (List.range ((r :: l).length * sz)).map vs = (List.range sz).map vs ++ (List.range (l.length * sz)).map (fun j => vs (sz + j)) := by
      rw [List.length_cons, Nat.add_mul, Nat.one_mul, Nat.add_comm, List.range_add, List.map_append, List.map_map]
      rfl
    rw [e, List.flatten_cons]
    refine RepL.append ⟨by simp [h0], fun j x hx => ?_⟩ (ih _ (fun i r' h' => hrow (i + 1) r' h') (fun i j r' x h1 h2 => ?_))
    · have hj : j < r.length := (List.getElem?_eq_some_iff.1 hx).1
      have := hr 0 j r x rfl hx
      simpa [List.getD, List.getElem?_range (h0 ▸ hj)] using this
    · have := hr (i + 1) j r' x h1 h2
      rwa [show (i + 1) * sz + j = sz + (i * sz + j) by rw [Nat.add_mul]; omega] at this

theorem Rep.slice_cells {lim : Lim} {h : Array Obj} {p : Option Addr} {n cap : Nat} {l : List (List AV)} {sz : Nat} (r : Rep lim h (.slice p n cap) (.slice l)) (hs : ∀ x ∈ l, x.length = sz) (hl : l ≠ []) :
    ∃ b off vs, p = some ⟨b, off, none⟩ ∧ vs.length = l.length * sz ∧ RepL lim h vs l.flatten ∧ ∀ j u, vs[j]? = some u → lim.ok b (off + j) ∧ cellAt h b (off + j) = some u := by
  cases r with
  | slice0 => exact absurd rfl hl
  | slice b off cap sz' l vs hcap hrow hc hr =>
    obtain rfl : sz' = sz := by
      cases l with
      | nil => exact absurd rfl hl
      | cons x l => rw [← hrow 0 x rfl, hs x (by simp)]
    refine ⟨b, off, (List.range (l.length * sz')).map vs, rfl, by simp, flat_rows l vs hrow hr, fun j u hu => ?_⟩
    simp only [List.getElem?_map] at hu
    have hj : j < l.length * sz' := by
      rcases Nat.lt_or_ge j (l.length * sz') with h | h
      · exact h
      · rw [List.getElem?_eq_none (by simpa using h)] at hu; simp at hu
    rw [List.getElem?_range hj] at hu
    simp at hu; subst hu
    exact hc j hj

theorem flatten_get {sz : Nat} : ∀ (l : List (List AV)), (∀ x ∈ l, x.length = sz) → ∀ (i j : Nat) (r : List AV) (x : AV), l[i]? = some r → r[j]? = some x → l.flatten[i * sz + j]? = some x := by
  intro l
  induction l with
  | nil => intro _ i j r x h; simp at h
  | cons a l ih =>
    intro hs i j r x h1 h2
    have ha : a.length = sz := hs a (by simp)
    rw [List.flatten_cons]
    cases i with
    | zero =>
      simp at h1; subst h1
      have hj : j < a.length := (List.getElem?_eq_some_iff.1 h2).1
      rw [Nat.zero_mul, Nat.zero_add, List.getElem?_append_left hj]
      exact h2
    | succ i =>
      rw [List.getElem?_append_right (by rw [ha, Nat.add_mul]; omega)]
      rw [show (i + 1) * sz + j - a.length = i * sz + j by rw [ha, Nat.add_mul]; omega]
      exact ih (fun y hy => hs y (by simp [hy])) i j r x (by simpa using h1) h2

/-- The other way: cells that hold the rows make a slice. -/
theorem Rep.slice_mk {lim : Lim} {h : Array Obj} {b off cap sz : Nat} {l : List (List AV)} {vs : List Value} (hcap : l.length ≤ cap) (hs : ∀ x ∈ l, x.length = sz) (hv : RepL lim h vs l.flatten)
    (hc : ∀ j u, vs[j]? = some u → lim.ok b (off + j) ∧ cellAt h b (off + j) = some u) : Rep lim h (.slice (some ⟨b, off, none⟩) l.length cap) (.slice l) := by
  have hlen : l.flatten.length = l.length * sz := by
    clear hv hc hcap
    induction l with
    | nil => simp
    | cons a l ih => rw [List.flatten_cons, List.length_append, ih (fun y hy => hs y (by simp [hy])), hs a (by simp), List.length_cons, Nat.add_mul]; omega
  refine .slice b off cap sz l (fun j => vs.getD j undef) hcap (fun i r hr => hs r (List.mem_of_getElem? hr)) (fun j hj => ?_) (fun i j r x h1 h2 => hv.2 _ _ (flatten_get l hs i j r x h1 h2))
  have hj' : j < vs.length := by rw [hv.1, hlen]; exact hj
  have := hc j vs[j] (by simp [hj'])
  simpa [List.getD, hj'] using this

/-- A part of a slice. -/
theorem Rep.slice_sub {lim : Lim} {h : Array Obj} {b off cap n : Nat} {l : List (List AV)} (r : Rep lim h (.slice (some ⟨b, off, none⟩) n cap) (.slice l)) (lo hi cap' sz : Nat) (h1 : lo ≤ hi) (h2 : hi ≤ l.length) (hc' : hi - lo ≤ cap')
    (hs : ∀ x ∈ l, x.length = sz) : Rep lim h (.slice (some ⟨b, off + lo * sz, none⟩) (hi - lo) cap') (.slice ((l.take hi).drop lo)) := by
  have hlen : ((l.take hi).drop lo).length = hi - lo := by simp; omega
  by_cases hl : l = []
  · subst hl
    simp at h2; subst h2
    have : lo = 0 := by omega
    subst this
    simpa using Rep.slice0 (lim := lim) (h := h) _ cap'
  · obtain ⟨b', off', vs, hp, hvl, hv, hcell⟩ := r.slice_cells hs hl
    simp only [Option.some.injEq, Addr.mk.injEq, and_true] at hp
    obtain ⟨rfl, rfl⟩ := hp
    have hfl : ((l.take hi).drop lo).flatten = (l.flatten.take (hi * sz)).drop (lo * sz) := by
      have key : ∀ (m : List (List AV)) (k : Nat), (∀ x ∈ m, x.length = sz) → (m.take k).flatten = m.flatten.take (k * sz) ∧ (m.drop k).flatten = m.flatten.drop (k * sz) := by
        intro m
        induction m with
        | nil => intro k _; simp
        | cons a m ih =>
          intro k hm
          cases k with
          | zero => simp
          | succ k =>
            have ha : a.length = sz := hm a (by simp)
            obtain ⟨i1, i2⟩ := ih k (fun y hy => hm y (by simp [hy]))
            rw [List.take_succ_cons, List.drop_succ_cons, List.flatten_cons, List.flatten_cons, i1, i2]
            have e : (k + 1) * sz = a.length + k * sz := by rw [ha, Nat.add_mul]; omega
            rw [e, List.take_length_add_append, List.drop_length_add_append]
            exact ⟨rfl, rfl⟩
      rw [(key (l.take hi) lo (fun y hy => hs y (List.mem_of_mem_take hy))).2, (key l hi hs).1]
    have := Rep.slice_mk (lim := lim) (h := h) (b := b) (off := off + lo * sz) (cap := cap') (sz := sz) (l := (l.take hi).drop lo) (vs := (vs.take (hi * sz)).drop (lo * sz)) (by rw [hlen]; exact hc')
      (fun x hx => hs x (List.mem_of_mem_take (List.mem_of_mem_drop hx))) (by rw [hfl]; exact (hv.take _).drop _) (fun j u hu => by
        rw [List.getElem?_drop, List.getElem?_take] at hu
        split at hu
        · have := hcell _ u hu
          rwa [show off + lo * sz + j = off + (lo * sz + j) by omega]
        · cases hu)
    rwa [hlen] at this

/-- A package-level variable that never changes: its cells, and that it has no more. -/
def GlAt (lim : Lim) (h : Array Obj) (g : Nat) (c : List AV) : Prop :=
  Rep lim h (.pointer (some ⟨g, 0, none⟩)) (.ro c) ∧ (c ≠ [] → lim.ok g c.length ∧ cellAt h g c.length = none)
theorem GlAt.mono {lim lim' : Lim} {h h' : Array Obj} {g : Nat} {c : List AV} (r : GlAt lim h g c) (k : Keep lim h lim' h') : GlAt lim' h' g c := by
  refine ⟨r.1.mono k, fun hc => ?_⟩
  obtain ⟨h1, h2⟩ := r.2 hc
  obtain ⟨b, off, vs, hp, hv, hcell⟩ := Rep.ro_iff.1 r.1
  simp only [Value.pointer.injEq, Option.some.injEq, Addr.mk.injEq, and_true] at hp
  obtain ⟨rfl, rfl⟩ := hp
  have hl : 0 < vs.length := by rw [hv.1]; exact List.length_pos_iff.2 hc
  have hB := cellAt_B (hcell 0 vs[0] (by simp [hl])).2
  obtain ⟨-, h3, h4⟩ := k g c.length hB h1
  exact ⟨h3, h4.trans h2⟩

end Go.Pv

/- The abstract state of an activation (AS), and when it describes a state of the model (RR). -/
import Derived.Test.YtoehgdamenpclaaDoorPvA
namespace Go.Pv
open Go

def look {α : Type} (k : Nat) : List (Nat × α) → Option α
  | [] => none
  | (j, x) :: r => if j = k then some x else look k r

/-- What is known of a temporary: nothing; a value (perhaps the one that may be appended to in place: group, element's type); a pointer into box k. -/
inductive TV where
  | un
  | v (x : AV) (g : Option (Nat × Nat))
  | bld (l : List AV) (ns : List Nat)      -- a struct that was just built; its cells ns are nil slices
  | lp (k off : Nat)
  | it (s : List UInt8) (p : Nat)      -- the iterator of a string, at p
  | cl (f : FuncId) (ks : List Nat)      -- a function with boxes
  deriving Inhabited

def TV.nit : TV → Bool
  | .it _ _ => false
  | _ => true

structure AS where
  n : Nat
  tm : List (Nat × TV)
  bx : List (Nat × List AV)
  tb : List (Nat × Nat × Nat × Nat)     -- box, cell, group, element's type
  sh : List (Nat × List AV)
  hint : List (Nat × Nat)       -- the groups that may be opened, and their element types
  ys : List AV × Bool := ([], true)       -- within an iterator: what has come; still on
  fx : List Nat := []       -- the temporaries that may not be written
  mks : Nat := 0       -- how many ranges over functions have been entered

def TV.strip : TV → TV
  | .it _ _ => .un
  | x => x
def AS.get (σ : AS) (t : Nat) : TV := ((look t σ.tm).getD .un).strip
def AS.put (σ : AS) (d : Option Nat) (x : TV) : AS :=
  match d with
  | none => σ
  | some d => { σ with tm := (d, x) :: σ.tm }

structure Frm (B : Nat) (S : Nat → Prop) (w w' : World) : Prop where
  os : w'.os = w.os
  tape : w'.tape = w.tape
  output : w'.output = w.output
  size : w.heap.size ≤ w'.heap.size
  block : ∀ k, k < B → ¬ S k → w'.heap[k]? = w.heap[k]?

theorem Frm.refl (B : Nat) (S : Nat → Prop) (w : World) : Frm B S w w := ⟨rfl, rfl, rfl, Nat.le_refl _, fun _ _ _ => rfl⟩
theorem Frm.trans {B : Nat} {S : Nat → Prop} {a b c : World} (h : Frm B S a b) (k : Frm B S b c) : Frm B S a c :=
  ⟨k.os.trans h.os, k.tape.trans h.tape, k.output.trans h.output, Nat.le_trans h.size k.size, fun i hi hs => (k.block i hi hs).trans (h.block i hi hs)⟩
theorem Frm.mono {B B' : Nat} {S S' : Nat → Prop} {a b : World} (h : Frm B S a b) (hB : B' ≤ B) (hS : ∀ k, k < B' → S k → S' k) : Frm B' S' a b :=
  ⟨h.os, h.tape, h.output, h.size, fun k hk hs => h.block k (Nat.lt_of_lt_of_le hk hB) (fun x => hs (hS k hk x))⟩

/-- The fence that shuts nothing out. -/
def Fw (ro : Option Nat) : Fence := { fn := fun _ => True, depth := none, alive := false, round := ro }

/-- An iteration under way, as its iterator sees it: the loop's record; whether the body asks for more behind these elements and this one; what holds between two rounds. -/
structure Ys where
  P : Program
  l : Nat
  go : List AV → AV → Bool
  el : List AV → AV → Prop      -- what may come next
  J : List AV → Bool → Lim → World → Prop
  grow : ∀ s b lim lim' w w', J s b lim w → Frm w.heap.size (fun _ => False) w w' → (∀ k, k < w.heap.size → lim' k = lim k) → J s b lim' w'
  rd : ∀ n s lim w v x, J s true lim w → Rep lim w.heap v x → el s x → YieldAt (Fw none) n P l #[v] w fun e w' => ∃ lim', e = .returned (.bool (go s x)) ∧ J (s ++ [x]) (go s x) lim' w' ∧ Keep lim w.heap lim' w'.heap ∧ Frm 0 (fun _ => True) w w'

structure Gl where
  g : Nat → Option (List AV)
  y : Option Ys := none
  rnd : Bool := false      -- within a round of a range over a function

structure Cx where
  P : Program
  B : Nat
  S : Nat → Prop
  lim : Lim
  w0 : World
  df : List Deferred
  gl : Gl
  fx : Nat → Option Value

structure Gh where
  lim : Lim
  bl : Nat → Nat          -- the block of a box
  gv : Nat → Value        -- the value of a group

def esz (P : Program) (e : Nat) : Nat := ((P.info? e).map (·.size)).getD 0

def TRep (gh : Gh) (h : Array Obj) (v : Value) : TV → Prop
  | .un => True
  | .v x g => Rep gh.lim h v x ∧ ∀ p, g = some p → v = gh.gv p.1
  | .bld l ns => Rep gh.lim h v (.agg l) ∧ ∀ j ∈ ns, v.cells[j]? = some (.slice none 0 0)
  | .lp k off => v = .pointer (some ⟨gh.bl k, off, none⟩)
  | .it _ _ => True
  | .cl f ks => v = .func (.func f) #[] (ks.map fun k => Value.pointer (some ⟨gh.bl k, 0, none⟩)).toArray

def BoxAt (lim : Lim) (h : Array Obj) (b : Nat) (cells : List AV) : Prop :=
  lim b = some 0 ∧ ∃ cs e, h[b]? = some (.cells cs e (0, 0)) ∧ RepL lim h cs.toList cells

/-- Group g is in use, with this element's type. -/
def AS.uses (σ : AS) (g e : Nat) : Prop := (∃ t x, look t σ.tm = some (.v x (some (g, e)))) ∨ ∃ k j, (k, j, g, e) ∈ σ.tb

/-- Whatever is no row of cells lies as it lay. -/
def Oth (w w' : World) : Prop := ∀ (k : Nat) (o : Obj), w.heap[k]? = some o → o.isCells = false → w'.heap[k]? = some o

theorem Oth.refl (w : World) : Oth w w := fun _ _ h _ => h
theorem Oth.trans {a b c : World} (h : Oth a b) (k : Oth b c) : Oth a c := fun i o hi ho => k i o (h i o hi ho) ho
theorem Oth.of_frm {w w' : World} (h : Frm w.heap.size (fun _ => False) w w') : Oth w w' := fun k _ hk _ => (h.block k (Array.getElem?_eq_some_iff.1 hk).1 id).trans hk
theorem Oth.of_cells {w w' : World} {S : Nat → Prop} (h : Frm w.heap.size S w w') (hs : ∀ b, S b → ∃ cs e g, w.heap[b]? = some (.cells cs e g)) : Oth w w' := fun k o hk ho => by
  refine (h.block k (Array.getElem?_eq_some_iff.1 hk).1 (fun hb => ?_)).trans hk
  obtain ⟨cs, e, g, hc⟩ := hs k hb
  rw [hc] at hk; cases hk; cases ho

def markOf (D : Nat) : Deferred := { target := .collected D, args := #[] }

/-- The marks of ranges over functions, ahead of the deferred calls. -/
def DefOk (B : Nat) (df : List Deferred) (n : Nat) (ds : List Deferred) (w : World) : Prop :=
  ∃ Ds : List Nat, ds = Ds.map markOf ++ df ∧ (Ds.length = n ∧ Ds.Nodup) ∧ ∀ D ∈ Ds, B ≤ D ∧ w.heap[D]? = some (.deferred (some []))

structure Its (B : Nat) (σ : AS) (a : Act) (w : World) : Prop where
  at_ : ∀ t s p, look t σ.tm = some (.it s p) → ∃ r, a.tmps.getD t undef = .pointer (some ⟨r, 0, none⟩) ∧ B ≤ r ∧ w.heap[r]? = some (.stringIter ⟨s.toArray⟩ p)
  inj : ∀ t t' s p s' p', look t σ.tm = some (.it s p) → look t' σ.tm = some (.it s' p') → a.tmps.getD t undef = a.tmps.getD t' undef → t = t'

structure Ex (cx : Cx) (lim : Lim) (σ : AS) (a : Act) (w : World) : Prop where
  keep : Keep cx.lim cx.w0.heap lim w.heap
  defers : DefOk cx.B cx.df σ.mks a.defers w
  yj : ∀ Y, cx.gl.y = some Y → (cx.B = 0 ∧ Y.P = cx.P) ∧ Y.J σ.ys.1 σ.ys.2 lim w
  its : Its cx.B σ a w
  fx : ∀ t v, cx.fx t = some v → t ∈ σ.fx ∧ a.tmps.getD t undef = v
  oth : cx.gl.y = none → ∀ (k : Nat) (o : Obj), cx.w0.heap[k]? = some o → o.isCells = false → o.isWalk = false → w.heap[k]? = some o

structure RR (cx : Cx) (gh : Gh) (σ : AS) (a : Act) (w : World) : Prop where
  frm : Frm cx.B cx.S cx.w0 w
  base : cx.B ≤ w.heap.size
  limB : ∀ b, b < cx.B → gh.lim b = cx.lim b
  size : a.tmps.size = σ.n
  ex : Ex cx gh.lim σ a w
  gl : ∀ g c, cx.gl.g g = some c → GlAt gh.lim w.heap g c
  tmps : ∀ t x, look t σ.tm = some x → TRep gh w.heap (a.tmps.getD t undef) x ∧ ∀ k off, x = .lp k off → (look k σ.bx).isSome = true
  boxes : ∀ k cells, look k σ.bx = some cells → cx.B ≤ gh.bl k ∧ BoxAt gh.lim w.heap (gh.bl k) cells
  inj : ∀ k k', (look k σ.bx).isSome = true → (look k' σ.bx).isSome = true → gh.bl k = gh.bl k' → k = k'
  shs : ∀ b cells, look b σ.sh = some cells → (cx.S b ∨ cx.B ≤ b) ∧ BoxAt gh.lim w.heap b cells
  apart : ∀ b k, (look b σ.sh).isSome = true → (look k σ.bx).isSome = true → gh.bl k ≠ b
  tbs : ∀ k j g e, (k, j, g, e) ∈ σ.tb → (look k σ.bx).isSome = true ∧ cellAt w.heap (gh.bl k) j = some (gh.gv g)
  own : ∀ g e, σ.uses g e → (∃ m xs, w.ownsRow cx.B e (esz cx.P e) (gh.gv g) m xs ∧ ∀ b, (gh.gv g).ownBlock = some b → gh.lim b = some (m * esz cx.P e)) ∧
    ∀ b, (gh.gv g).ownBlock = some b → (∀ k, (look k σ.bx).isSome = true → gh.bl k ≠ b) ∧ look b σ.sh = none
  alone : ∀ g e g' e', σ.uses g e → σ.uses g' e' → g ≠ g' → ∀ b, (gh.gv g).ownBlock = some b → (gh.gv g').ownBlock ≠ some b

def R (cx : Cx) (σ : AS) (a : Act) (w : World) : Prop := ∃ gh, RR cx gh σ a w

/-! ### Operands -/
def cv : Value → TV
  | .bool b => .v (.bool b) none
  | .int k n => .v (.int k n) none
  | .string s => .v (.str s.data.toList) none
  | .slice _ 0 _ => .v (.slice []) none
  | .nilFunc => .v .nilFunc none
  | .pointer none => .v .nilPtr none
  | .nilIface => .v .nilIface none
  | _ => .un

def ev (gl : Gl) (σ : AS) : Operand → TV
  | .tmp t => σ.get t
  | .const v => cv v
  | .global g => match gl.g g with | some c => .v (.ro c) none | none => .un
  | .func f => .v (.func f []) none

theorem cv_rep (gh : Gh) (h : Array Obj) (v : Value) : TRep gh h v (cv v) := by
  unfold cv
  split <;> simp only [TRep, reduceCtorEq, false_implies, implies_true, and_true]
  · exact .bool _
  · exact .int _ _
  · rename_i s; exact .str s.data.toList
  · exact .slice0 _ _
  · exact .nilFunc
  · exact .nilPtr
  · exact .nilIface

theorem RR.ev {cx : Cx} {gh : Gh} {σ : AS} {a : Act} {w : World} (r : RR cx gh σ a w) (x : Operand) : TRep gh w.heap (a.eval x) (ev cx.gl σ x) := by
  cases x with
  | tmp t =>
    simp only [Pv.ev, AS.get, Act.eval]
    cases h : look t σ.tm with
    | none => trivial
    | some y =>
      have h1 := (r.tmps t y h).1
      cases y <;> first | trivial | exact h1
  | const v => exact cv_rep gh _ v
  | global g =>
    simp only [Pv.ev, Act.eval]
    cases h : cx.gl.g g with
    | none => trivial
    | some c => exact ⟨(r.gl g c h).1, by simp⟩
  | func f => exact ⟨Rep.func_iff.2 ⟨#[], rfl, RepL.nil _ _⟩, by simp⟩

theorem RR.ev_lp {cx : Cx} {gh : Gh} {σ : AS} {a : Act} {w : World} (r : RR cx gh σ a w) (x : Operand) {k off : Nat} (h : Pv.ev cx.gl σ x = .lp k off) : (look k σ.bx).isSome = true := by
  cases x with
  | tmp t =>
    simp only [Pv.ev, AS.get] at h
    cases h1 : look t σ.tm with
    | none => rw [h1] at h; cases h
    | some y => rw [h1] at h; exact (r.tmps t y h1).2 k off (by cases y <;> first | exact h | cases h)
  | const v => simp only [Pv.ev, cv] at h; split at h <;> cases h
  | global g => simp only [Pv.ev] at h; split at h <;> cases h
  | func f => cases h

theorem RR.ev_uses {cx : Cx} {gh : Gh} {σ : AS} {a : Act} {w : World} (_ : RR cx gh σ a w) (x : Operand) {y : AV} {g e : Nat} (h : Pv.ev cx.gl σ x = .v y (some (g, e))) : σ.uses g e := by
  cases x with
  | tmp t =>
    simp only [Pv.ev, AS.get] at h
    cases h1 : look t σ.tm with
    | none => rw [h1] at h; cases h
    | some z => rw [h1] at h; cases z <;> first | cases h | skip
                exact .inl ⟨t, y, h1⟩
  | const v => simp only [Pv.ev, cv] at h; split at h <;> cases h
  | global g => simp only [Pv.ev] at h; split at h <;> cases h
  | func f => cases h

/-! ### Writing a temporary -/
theorem Act.put_size (a : Act) (d : Option Nat) (v : Value) : (a.put d v).tmps.size = a.tmps.size := by cases d <;> simp [Act.put]
theorem Act.put_defers' (a : Act) (d : Option Nat) (v : Value) : (a.put d v).defers = a.defers := by cases d <;> rfl

theorem strip_nit (x : TV) : x.strip.nit = true := by cases x <;> rfl
theorem get_nit (σ : AS) (t : Nat) : (σ.get t).nit = true := strip_nit _
theorem ev_nit (gl : Gl) (σ : AS) (x : Operand) : (Pv.ev gl σ x).nit = true := by
  cases x with
  | tmp t => exact get_nit σ t
  | const v => simp only [Pv.ev]; unfold cv; split <;> rfl
  | global g => simp only [Pv.ev]; split <;> rfl
  | func f => rfl

theorem DefOk.oth {B n : Nat} {df ds : List Deferred} {w w' : World} (h : DefOk B df n ds w) (ho : Oth w w') : DefOk B df n ds w' := by
  obtain ⟨Ds, h1, h2, h3⟩ := h
  exact ⟨Ds, h1, h2, fun D hD => ⟨(h3 D hD).1, ho D _ (h3 D hD).2 rfl⟩⟩

theorem Its.oth {B : Nat} {σ : AS} {a : Act} {w w' : World} (h : Its B σ a w) (ho : Oth w w') : Its B σ a w' :=
  ⟨fun t s p ht => let ⟨r, h1, h2, h3⟩ := h.at_ t s p ht; ⟨r, h1, h2, ho r _ h3 rfl⟩, h.inj⟩

theorem Its.sub {B : Nat} {σ σ' : AS} {a : Act} {w : World} (h : Its B σ a w) (hs : ∀ t s p, look t σ'.tm = some (.it s p) → look t σ.tm = some (.it s p)) : Its B σ' a w :=
  ⟨fun t s p ht => h.at_ t s p (hs t s p ht), fun t t' s p s' p' h1 h2 h3 => h.inj t t' s p s' p' (hs _ _ _ h1) (hs _ _ _ h2) h3⟩

theorem getD_put_ne (a : Act) {d t : Nat} (h : d ≠ t) (v : Value) : (a.put (some d) v).tmps.getD t undef = a.tmps.getD t undef := by
  simp [Act.put, Array.getElem?_setIfInBounds_ne h]

theorem Its.put {B : Nat} {σ : AS} {a : Act} {w : World} (h : Its B σ a w) (d : Option Nat) (x : TV) (hx : x.nit = true) (v : Value) : Its B (σ.put d x) (a.put d v) w := by
  cases d with
  | none => exact h
  | some d =>
    have key : ∀ t s p, look t (σ.put (some d) x).tm = some (.it s p) → d ≠ t ∧ look t σ.tm = some (.it s p) := by
      intro t s p ht
      simp only [AS.put, look] at ht
      split at ht
      · injection ht with ht; subst ht; cases hx
      · rename_i hne; exact ⟨hne, ht⟩
    refine ⟨fun t s p ht => ?_, fun t t' s p s' p' h1 h2 h3 => ?_⟩
    · obtain ⟨hne, ht'⟩ := key t s p ht
      rw [getD_put_ne a hne]
      exact h.at_ t s p ht'
    · obtain ⟨hne, h1'⟩ := key t s p h1
      obtain ⟨hne', h2'⟩ := key t' s' p' h2
      rw [getD_put_ne a hne, getD_put_ne a hne'] at h3
      exact h.inj t t' s p s' p' h1' h2' h3

theorem Ex.put {cx : Cx} {lim : Lim} {σ : AS} {a : Act} {w : World} (h : Ex cx lim σ a w) (d : Option Nat) (hd : ∀ t, d = some t → t < σ.n ∧ t ∉ σ.fx) (x : TV) (hx : x.nit = true) (v : Value) : Ex cx lim (σ.put d x) (a.put d v) w where
  keep := h.keep
  defers := by rw [Act.put_defers']; have := h.defers; cases d <;> exact this
  yj := fun Y hY => by have := h.yj Y hY; cases d <;> exact this
  its := h.its.put d x hx v
  fx := fun t u ht => by
    obtain ⟨h1, h2⟩ := h.fx t u ht
    cases d with
    | none => exact ⟨h1, h2⟩
    | some d =>
      refine ⟨h1, ?_⟩
      rw [getD_put_ne a (fun (he : d = t) => (hd d rfl).2 (by rw [he]; exact h1))]
      exact h2
  oth := h.oth

theorem Ex.step {cx : Cx} {lim lim' : Lim} {σ : AS} {a : Act} {w w' : World} (h : Ex cx lim σ a w) (hk : Keep lim w.heap lim' w'.heap) (ho : Oth w w')
    (hy : cx.gl.y = none ∨ (Frm w.heap.size (fun _ => False) w w' ∧ ∀ k, k < w.heap.size → lim' k = lim k)) : Ex cx lim' σ a w' where
  keep := h.keep.trans hk
  defers := h.defers.oth ho
  yj := fun Y hY => by
    rcases hy with hy | ⟨h1, h2⟩
    · rw [hy] at hY; cases hY
    · exact ⟨(h.yj Y hY).1, Y.grow _ _ _ _ _ _ (h.yj Y hY).2 h1 h2⟩
  its := h.its.oth ho
  fx := h.fx
  oth := fun hy k o hk hc hw => ho k o (h.oth hy k o hk hc hw) hc

theorem Ex.sub {cx : Cx} {lim : Lim} {σ σ' : AS} {a : Act} {w : World} (h : Ex cx lim σ a w) (hs : ∀ t s p, look t σ'.tm = some (.it s p) → look t σ.tm = some (.it s p)) (hy : σ'.ys = σ.ys) (hf : σ'.fx = σ.fx) (hm : σ'.mks = σ.mks := by rfl) : Ex cx lim σ' a w where
  keep := h.keep
  defers := by rw [hm]; exact h.defers
  yj := by rw [hy]; exact h.yj
  its := h.its.sub hs
  fx := by rw [hf]; exact h.fx
  oth := h.oth

/-- The parts of RR that do not speak of the activation's temporaries stay; a temporary is written. -/
theorem RR.put {cx : Cx} {gh : Gh} {σ : AS} {a : Act} {w : World} (r : RR cx gh σ a w) (d : Option Nat) (hd : ∀ t, d = some t → t < σ.n ∧ t ∉ σ.fx) {v : Value} {x : TV} (hni : x.nit = true) (hx : TRep gh w.heap v x)
    (hlp : ∀ k off, x = .lp k off → (look k σ.bx).isSome = true) (hg : ∀ y g e, x = .v y (some (g, e)) → σ.uses g e) : RR cx gh (σ.put d x) (a.put d v) w := by
  cases d with
  | none => exact r
  | some t =>
    have ht := (hd t rfl).1
    have huses : ∀ g e, (σ.put (some t) x).uses g e → σ.uses g e := by
      intro g e h
      rcases h with ⟨s, y, h⟩ | h
      · simp only [AS.put, look] at h
        split at h
        · injection h with h; exact hg y g e h
        · exact .inl ⟨s, y, h⟩
      · exact .inr h
    refine { frm := r.frm, base := r.base, limB := r.limB, size := by rw [Act.put_size]; exact r.size, ex := r.ex.put (some t) hd x hni v, gl := r.gl, tmps := ?_, boxes := r.boxes, inj := r.inj, shs := r.shs, apart := r.apart, tbs := r.tbs, own := fun g e h => r.own g e (huses g e h), alone := fun g e g' e' h h' => r.alone g e g' e' (huses g e h) (huses g' e' h') }
    intro s y h
    simp only [AS.put, look] at h
    have hsz := r.size
    by_cases hts : t = s
    · subst hts
      simp only [if_true] at h
      injection h with h; subst h
      refine ⟨?_, hlp⟩
      simpa [Act.put, ht, hsz] using hx
    · simp only [hts, if_false] at h
      have := r.tmps s y h
      simpa [Act.put, AS.put, Array.getElem?_setIfInBounds_ne hts] using this

theorem RR.put_v {cx : Cx} {gh : Gh} {σ : AS} {a : Act} {w : World} (r : RR cx gh σ a w) (d : Option Nat) (hd : ∀ t, d = some t → t < σ.n ∧ t ∉ σ.fx) {v : Value} {x : AV} (hx : Rep gh.lim w.heap v x) :
    RR cx gh (σ.put d (.v x none)) (a.put d v) w :=
  r.put d hd rfl ⟨hx, by simp⟩ (by simp) (by simp)

/-- The world steps; what the activation may write stays as it is. -/
theorem RR.world {cx : Cx} {gh : Gh} {σ : AS} {a : Act} {w w' : World} (r : RR cx gh σ a w) (lim' : Lim) (hk : Keep gh.lim w.heap lim' w'.heap) (hf : Frm cx.B cx.S w w')
    (hl : ∀ b, b < w.heap.size → lim' b = gh.lim b) (hex : Ex cx lim' σ a w')
    (hb : ∀ k, (look k σ.bx).isSome = true → w'.heap[gh.bl k]? = w.heap[gh.bl k]?) (hs : ∀ b, (look b σ.sh).isSome = true → w'.heap[b]? = w.heap[b]?)
    (ho : ∀ g e, σ.uses g e → ∀ b, (gh.gv g).ownBlock = some b → w'.heap[b]? = w.heap[b]?) : RR cx { gh with lim := lim' } σ a w' := by
  have lt : ∀ {b : Nat} {o : Obj}, w.heap[b]? = some o → b < w.heap.size := fun h => (Array.getElem?_eq_some_iff.1 h).1
  refine { frm := r.frm.trans hf, base := Nat.le_trans r.base hf.size, limB := fun b h => (hl b (Nat.lt_of_lt_of_le h r.base)).trans (r.limB b h), size := r.size, ex := hex, gl := fun g c h => (r.gl g c h).mono hk, tmps := fun t x h => ⟨?_, (r.tmps t x h).2⟩, boxes := ?_, inj := r.inj, shs := ?_, apart := r.apart, tbs := ?_, own := ?_, alone := r.alone }
  · have := (r.tmps t x h).1
    cases x with
    | un => trivial
    | v y g => exact ⟨this.1.mono hk, this.2⟩
    | bld l ns => exact ⟨this.1.mono hk, this.2⟩
    | lp k off => exact this
    | it s p => trivial
    | cl f ks => exact this
  · intro k cells h
    obtain ⟨h1, h2, cs, e, h3, h4⟩ := r.boxes k cells h
    have h5 : k ∈ [k] := by simp
    have hbk := hb k (by simp [h])
    exact ⟨h1, (hl _ (lt h3)).trans h2, cs, e, hbk.trans h3, h4.mono hk⟩
  · intro b cells h
    obtain ⟨h1, h2, cs, e, h3, h4⟩ := r.shs b cells h
    exact ⟨h1, (hl _ (lt h3)).trans h2, cs, e, (hs b (by simp [h])).trans h3, h4.mono hk⟩
  · intro k j g e h
    obtain ⟨h1, h2⟩ := r.tbs k j g e h
    refine ⟨h1, ?_⟩
    unfold cellAt at h2 ⊢
    rw [hb k h1]; exact h2
  · intro g e h
    obtain ⟨⟨m, xs, h1, h2⟩, h3⟩ := r.own g e h
    refine ⟨⟨m, xs, ⟨h1.1, ?_⟩, fun b hb' => ?_⟩, h3⟩
    · rcases h1.2 with hn | ⟨g', cap, cur, hv, hbg, hg', rest⟩
      · exact .inl hn
      · exact .inr ⟨g', cap, cur, hv, hbg, by rw [ho g e h g' (by rw [hv]; rfl)]; exact hg', rest⟩
    · have : b < w.heap.size := (h1.lt b hb').2
      exact (hl b this).trans (h2 b hb')

theorem Keep.of_same {lim lim' : Lim} {h h' : Array Obj} (hl : ∀ b, b < h.size → lim' b = lim b) (hh : ∀ b, b < h.size → h'[b]? = h[b]?) : Keep lim h lim' h' := by
  rintro b o ⟨cs, e, g, hc⟩ ho
  have hb := (Array.getElem?_eq_some_iff.1 hc).1
  refine ⟨⟨cs, e, g, (hh b hb).trans hc⟩, fun n hn => ho n (by rw [← hl b hb]; exact hn), ?_⟩
  unfold cellAt
  rw [hh b hb]

/-- All that was there is as it was: a new block, a draw, a call that writes nothing of ours. -/
theorem RR.grow {cx : Cx} {gh : Gh} {σ : AS} {a : Act} {w w' : World} (r : RR cx gh σ a w) (lim' : Lim) (hf : Frm w.heap.size (fun _ => False) w w')
    (hl : ∀ b, b < w.heap.size → lim' b = gh.lim b) : RR cx { gh with lim := lim' } σ a w' := by
  have hh : ∀ b, b < w.heap.size → w'.heap[b]? = w.heap[b]? := fun b hb => hf.block b hb id
  have hin : ∀ {b : Nat} {o : Obj}, w.heap[b]? = some o → w'.heap[b]? = w.heap[b]? := fun h => hh _ (Array.getElem?_eq_some_iff.1 h).1
  refine r.world lim' (Keep.of_same hl hh) (hf.mono r.base (fun _ _ h => h.elim)) hl (r.ex.step (Keep.of_same hl hh) (Oth.of_frm hf) (.inr ⟨hf, hl⟩)) ?_ ?_ ?_
  · intro k hk
    obtain ⟨cells, hc⟩ := Option.isSome_iff_exists.1 hk
    obtain ⟨_, _, cs, e, h3, _⟩ := r.boxes k cells hc
    exact hin h3
  · intro b hb
    obtain ⟨cells, hc⟩ := Option.isSome_iff_exists.1 hb
    obtain ⟨_, _, cs, e, h3, _⟩ := r.shs b cells hc
    exact hin h3
  · intro g e hg b hb
    obtain ⟨⟨m, xs, h1, _⟩, _⟩ := r.own g e hg
    exact hh b (h1.lt b hb).2

theorem RR.drew {cx : Cx} {gh : Gh} {σ : AS} {a : Act} {w : World} (r : RR cx gh σ a w) (n : Nat) : RR cx gh σ a { w with drawn := n } :=
  r.grow gh.lim ⟨rfl, rfl, rfl, Nat.le_refl _, fun _ _ _ => rfl⟩ (fun _ _ => rfl)

end Go.Pv

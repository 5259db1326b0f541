import Derived.Test.YtocmdbojefgpbaaGreatDoorPvMf
import Derived.Test.YtocmdbojefgpbaaGreatDoorPvDe
import Derived.Test.YtocmdbojefgpbaaGreatDoorPvXc
import Derived.Test.YtocmdbojefgpbaaGreatDoorPvOc
import Derived.ControlIn
set_option linter.all false
section
/- Declarations and programs whose rows belong to a region. -/
namespace Go.Pv
open Go

def encFX (f : Nat → List (List AV) → AV) (a : Fm) : List AV := [.str a.name, .str a.ty.name, f 0 (a.ty.args.map (encM (f 0))), .int .i64 a.ty.pos, .int .i64 a.pos]
def encGX (f : Nat → List (List AV) → AV) (s : Sg) : List AV := [.str s.name, f 2 (s.fms.map (encFX f)), f 3 (s.pms.map (encFX f)), .str s.res.name, f 0 (s.res.args.map (encM (f 0))), .int .i64 s.res.pos, .int .i64 s.pos]
def encDX (f : Nat → List (List AV) → AV) (d : Dc) : List AV := [.int .i64 d.kind, .str d.name, f 2 (d.fms.map (encFX f)), f 3 (d.flds.map (encFX f)), f 4 (d.sigs.map (encGX f)), .str d.recv, f 5 (d.vars.map encS),
  .str d.sig.name, f 2 (d.sig.fms.map (encFX f)), f 3 (d.sig.pms.map (encFX f)), .str d.sig.res.name, f 0 (d.sig.res.args.map (encM (f 0))), .int .i64 d.sig.res.pos, .int .i64 d.sig.pos,
  .int .i64 d.body.kind, .str d.body.name, .str d.body.ty.name, f 0 (d.body.ty.args.map (encM (f 0))), .int .i64 d.body.ty.pos, f 0 (d.body.ta.map (encM (f 0))), f 1 (d.body.kids.map (encX (f 0) (f 1))), .int .i64 d.body.pos, .int .i64 d.pos]
def encPX (f : Nat → List (List AV) → AV) (p : Pg) : List AV := [f 6 (p.decls.map (encDX f)), .int .i64 p.main.kind, .str p.main.name, .str p.main.ty.name, f 0 (p.main.ty.args.map (encM (f 0))), .int .i64 p.main.ty.pos, f 0 (p.main.ta.map (encM (f 0))), f 1 (p.main.kids.map (encX (f 0) (f 1))), .int .i64 p.main.pos]
section
variable {F : AV → AV} {FL : List AV → List AV} {FLL : List (List AV) → List (List AV)} {f g : Nat → List (List AV) → AV}
end
section
variable {F : AV → Bool} {FL : List AV → Bool} {FLL : List (List AV) → Bool} {f : Nat → List (List AV) → AV}
end
def szM : Nat → Nat | 0 => 3 | 1 => 8 | 2 => 5 | 3 => 5 | 4 => 7 | 5 => 1 | _ => 23
def fR (ty : Nat → Nat) (ρ i : Nat) : List (List AV) → AV := AV.fr ρ (ty i) (szM i)
def encFR (ty : Nat → Nat) (ρ : Nat) (a : Fm) : List AV := [.str a.name, .str a.ty.name, .fr ρ (ty 0) 3 (a.ty.args.map (encR (ty 0) ρ)), .int .i64 a.ty.pos, .int .i64 a.pos]
def encGR (ty : Nat → Nat) (ρ : Nat) (s : Sg) : List AV := [.str s.name, .fr ρ (ty 2) 5 (s.fms.map (encFR ty ρ)), .fr ρ (ty 3) 5 (s.pms.map (encFR ty ρ)), .str s.res.name, .fr ρ (ty 0) 3 (s.res.args.map (encR (ty 0) ρ)), .int .i64 s.res.pos, .int .i64 s.pos]
def encDR (ty : Nat → Nat) (ρ : Nat) (d : Dc) : List AV := [.int .i64 d.kind, .str d.name, .fr ρ (ty 2) 5 (d.fms.map (encFR ty ρ)), .fr ρ (ty 3) 5 (d.flds.map (encFR ty ρ)), .fr ρ (ty 4) 7 (d.sigs.map (encGR ty ρ)), .str d.recv, .fr ρ (ty 5) 1 (d.vars.map encS),
  .str d.sig.name, .fr ρ (ty 2) 5 (d.sig.fms.map (encFR ty ρ)), .fr ρ (ty 3) 5 (d.sig.pms.map (encFR ty ρ)), .str d.sig.res.name, .fr ρ (ty 0) 3 (d.sig.res.args.map (encR (ty 0) ρ)), .int .i64 d.sig.res.pos, .int .i64 d.sig.pos,
  .int .i64 d.body.kind, .str d.body.name, .str d.body.ty.name, .fr ρ (ty 0) 3 (d.body.ty.args.map (encR (ty 0) ρ)), .int .i64 d.body.ty.pos, .fr ρ (ty 0) 3 (d.body.ta.map (encR (ty 0) ρ)), .fr ρ (ty 1) 8 (d.body.kids.map (encER (ty 0) (ty 1) ρ)), .int .i64 d.body.pos, .int .i64 d.pos]
def encPR (ty : Nat → Nat) (ρ : Nat) (p : Pg) : List AV := [.fr ρ (ty 6) 23 (p.decls.map (encDR ty ρ)), .int .i64 p.main.kind, .str p.main.name, .str p.main.ty.name, .fr ρ (ty 0) 3 (p.main.ty.args.map (encR (ty 0) ρ)), .int .i64 p.main.ty.pos, .fr ρ (ty 0) 3 (p.main.ta.map (encR (ty 0) ρ)), .fr ρ (ty 1) 8 (p.main.kids.map (encER (ty 0) (ty 1) ρ)), .int .i64 p.main.pos]
section
variable (ty : Nat → Nat) (ρ : Nat)
@[simp] theorem encFR_len (f : Fm) : (encFR ty ρ f).length = 5 := rfl
@[simp] theorem encFR_one (f : Fm) : (encFR ty ρ f).all AV.one = true := rfl
@[simp] theorem encGR_len (f : Sg) : (encGR ty ρ f).length = 7 := rfl
@[simp] theorem encGR_one (f : Sg) : (encGR ty ρ f).all AV.one = true := rfl
@[simp] theorem encDR_len (f : Dc) : (encDR ty ρ f).length = 23 := rfl
@[simp] theorem encDR_one (f : Dc) : (encDR ty ρ f).all AV.one = true := rfl
@[simp] theorem encPR_len (f : Pg) : (encPR ty ρ f).length = 9 := rfl
@[simp] theorem encPR_one (f : Pg) : (encPR ty ρ f).all AV.one = true := rfl
@[simp] theorem encFR_rows (l : List Fm) : Rows 5 (l.map (encFR ty ρ)) := Rows_map 5 _ (fun _ => ⟨rfl, rfl⟩) l
@[simp] theorem encGR_rows (l : List Sg) : Rows 7 (l.map (encGR ty ρ)) := Rows_map 7 _ (fun _ => ⟨rfl, rfl⟩) l
@[simp] theorem encDR_rows (l : List Dc) : Rows 23 (l.map (encDR ty ρ)) := Rows_map 23 _ (fun _ => ⟨rfl, rfl⟩) l
@[simp] theorem encFR_take (f : Fm) : (encFR ty ρ f).take 5 = encFR ty ρ f := rfl
@[simp] theorem encFR_drop (f : Fm) : (encFR ty ρ f).drop 5 = [] := rfl
@[simp] theorem encGR_take (f : Sg) : (encGR ty ρ f).take 7 = encGR ty ρ f := rfl
@[simp] theorem encGR_drop (f : Sg) : (encGR ty ρ f).drop 7 = [] := rfl
@[simp] theorem encDR_take (f : Dc) : (encDR ty ρ f).take 23 = encDR ty ρ f := rfl
@[simp] theorem encDR_drop (f : Dc) : (encDR ty ρ f).drop 23 = [] := rfl
@[simp] theorem encPR_take (f : Pg) : (encPR ty ρ f).take 9 = encPR ty ρ f := rfl
@[simp] theorem encPR_drop (f : Pg) : (encPR ty ρ f).drop 9 = [] := rfl
end
def encPZ : Pg → List AV := encPX fun _ => .sr 0
@[simp] theorem encPZ_len (f : Pg) : (encPZ f).length = 9 := rfl
@[simp] theorem encPZ_one (f : Pg) : (encPZ f).all AV.one = true := rfl
@[simp] theorem encPZ_take (f : Pg) : (encPZ f).take 9 = encPZ f := rfl
@[simp] theorem encPZ_drop (f : Pg) : (encPZ f).drop 9 = [] := rfl
theorem all_oo {l : List AV} (h : l.all AV.one = true) (r : Nat) : (l.all fun x => x.off r || x.one) = true := by
  rw [List.all_eq_true] at h ⊢
  exact fun x hx => by rw [h x hx, Bool.or_true]
@[simp] theorem encPR_oo (ty : Nat → Nat) (ρ r : Nat) (p : Pg) : ((encPR ty ρ p).all fun x => x.off r || x.one) = true := all_oo (encPR_one ty ρ p) r
@[simp] theorem encPZ_oo (r : Nat) (p : Pg) : ((encPZ p).all fun x => x.off r || x.one) = true := all_oo (encPZ_one p) r
end Go.Pv
end

section
/- A piece of code walked by the kit's own lemmas on real memory, within a walk over abstract states. -/
namespace Go.Pv
open Go
theorem AT_hand {P : Program} {gl : Gl} {c : Code} {σ : AS} {Q : Exit → AS → Prop} (hr : gl.rnd = false)
    (h : ∀ (cx : Cx) (gh : Gh) (a : Act) (w : World), cx.P = P → cx.gl = gl → RR cx gh σ a w → c.wp P (fun e a' w' => ∃ σ', Q e σ' ∧ R cx σ' a' w') a w) : AT P gl c σ Q := by
  intro cx ro n a w hP hg hro r
  obtain rfl := hro hr
  obtain ⟨gh, r⟩ := r
  exact wpIn_wide.2 (h cx gh a w hP hg r)
theorem RR.act {cx : Cx} {gh : Gh} {σ : AS} {a a' : Act} {w : World} (r : RR cx gh σ a w) (hs : a'.tmps.size = a.tmps.size) (hd : a'.defers = a.defers) (hfx : σ.fx = [])
    (ht : ∀ t, (look t σ.tm).isSome = true → a'.tmps.getD t undef = a.tmps.getD t undef) : RR cx gh σ a' w := by
  have hti : ∀ {t : Nat} {x : TV}, look t σ.tm = some x → a'.tmps.getD t undef = a.tmps.getD t undef := fun h => ht _ (by rw [h]; rfl)
  exact { r with
    size := hs.trans r.size
    ex := { r.ex with
      defers := by rw [hd]; exact r.ex.defers
      its := ⟨fun t k h => by rw [hti h]; exact r.ex.its.at_ t k h, fun t t' k k' h h' he => by rw [hti h, hti h'] at he; exact r.ex.its.inj t t' k k' h h' he⟩
      fx := fun t v h => by have := (r.ex.fx t v h).1; rw [hfx] at this; cases this }
    tmps := fun t x h => by rw [hti h]; exact r.tmps t x h }
theorem RR.changed {cx : Cx} {gh : Gh} {σ : AS} {a a' : Act} {w w' : World} (r : RR cx gh σ a w) (htop : cx.gl.top = true) (hy : cx.gl.y = none) (ρ b0 k : Nat) {c0 : List AV} (hb0 : look b0 σ.sh = some c0) (hρ : ρ ≠ 0) (hok : σ.killOk ρ = true) (hmk : σ.mks = 0) (hfx : σ.fx = [])
    (hm : Altd gh.lim ρ b0 k w.heap w'.heap) (hf : w'.os = w.os ∧ w'.tape = w.tape ∧ w'.output = w.output ∧ w.heap.size ≤ w'.heap.size) (hs : a'.tmps.size = a.tmps.size) (hd : a'.defers = a.defers)
    (ht : ∀ t, (look t (σ.kill ρ b0).tm).isSome = true → a'.tmps.getD t undef = a.tmps.getD t undef) : R cx (σ.kill ρ b0) a' w' := by
  obtain ⟨h1, h2, h3, h4⟩ := hf
  obtain ⟨ht1, ht2, ht3⟩ := r.ex.top htop
  obtain ⟨gh', r'⟩ := r.kill htop hy ρ b0 (by rw [hb0]; rfl) hok hmk h1 h2 h3 h4 hm.validW.1 fun b hb hne hnr => hm.validW.2 b hb hne fun hl => by
    rcases Nat.lt_or_ge b cx.B with hB | hB
    · rw [r.limB b hB] at hl; exact hρ (ht3 b ρ hl)
    · exact hnr ⟨hB, hl⟩
  exact ⟨gh', r'.act hs hd hfx ht⟩
theorem arr_lit (t : Array Value) : t = ((List.range t.size).map fun i => t.getD i undef).toArray := by
  apply Array.ext
  · simp
  · intro i h1 h2
    simp [Array.getD, h1]
theorem NodeC.int {lim : Lim} {ρ b0 k : Nat} {h0 : Array Obj} {w : World} (m : Altd lim ρ b0 k h0 w.heap) {b off j : Nat} {l : List AV} {q : IntKind} {n : Int} (r : NodeC lim h0 b off l) (hj : l[j]? = some (.int q n)) : w.cell? ⟨b, off + j, none⟩ = some (.int q n) := by
  obtain ⟨u, h1, h2⟩ := r.2 j _ hj
  cases h2
  obtain ⟨v', h3, h4⟩ := m.cell h1
  rcases h4 with h4 | ⟨s, s', h4, -⟩
  · subst h4; rw [cell?_eq]; exact h3
  · cases h4
theorem Gives.tb {P : Program} {σ : AS} (tb' : List (Nat × Nat × Nat × Nat)) (h : ∀ q ∈ tb', q ∈ σ.tb) : Gives P σ { σ with tb := tb' } := fun _ _ _ _ ⟨gh, r⟩ =>
  ⟨gh, r.weak { n := rfl, tm := fun t x hx => ⟨hx, fun k o he => (r.tmps t x hx).2 k o he⟩, bx := fun _ _ h => h, tb := fun q hq => ⟨h q hq, (r.tbs q.1 q.2.1 q.2.2.1 q.2.2.2 (h q hq)).1⟩, sh := fun _ _ h => h, ys := rfl, fx := rfl, mks := rfl }⟩
end Go.Pv
end

section
/- A box's cell that holds a row of a region of its own, behind a change of this row. -/
namespace Go.Pv
open Go
theorem RR.redo {cx : Cx} {gh : Gh} {σ : AS} {a : Act} {w w' : World} (r : RR cx gh σ a w) (htop : cx.gl.top = true) (hgy : cx.gl.y = none) (ρ k0 j0 : Nat) {e0 z0 : Nat} {l0' : List (List AV)} {c0 : List AV} (hk0 : look k0 σ.bx = some c0) (hj0 : j0 < c0.length) (hok : σ.killOk ρ = true) (hmk : σ.mks = 0)
    (hos : w'.os = w.os) (htape : w'.tape = w.tape) (hout : w'.output = w.output) (hsz : w.heap.size ≤ w'.heap.size) (hoth : Oth w w')
    (hsame : ∀ b, b < w.heap.size → ¬ (cx.B ≤ b ∧ gh.lim b = .reg ρ) → w'.heap[b]? = w.heap[b]?)
    (hnew : ∀ v, cellAt w.heap (gh.bl k0) j0 = some v → Rep gh.lim w'.heap v (.fr ρ e0 z0 l0')) :
    RR cx gh { σ with tm := σ.tm.map fun p => (p.1, p.2.kill ρ), bx := (k0, (c0.map (AV.kill ρ)).set j0 (.fr ρ e0 z0 l0')) :: σ.bx.map fun p => (p.1, p.2.map (AV.kill ρ)), tb := [], sh := σ.sh.map fun p => (p.1, p.2.map (AV.kill ρ)) } a w' := by
  obtain ⟨ht1, ht2, ht3⟩ := r.ex.top htop
  have hlt : ∀ {b : Nat} {o : Obj}, w.heap[b]? = some o → b < w.heap.size := fun h => (Array.getElem?_eq_some_iff.1 h).1
  have hreg : ∀ b q, CellsB w.heap b → q ≠ ρ → gh.lim b = .reg q → gh.lim b = .reg q ∧ w'.heap[b]? = w.heap[b]? := fun b q ⟨cs, e, z, hcb⟩ hq hb => by
    have hne : gh.lim b ≠ .reg ρ := by rw [hb]; intro h; injection h with h; exact hq h
    exact ⟨hb, hsame b (hlt hcb) (fun h => hne h.2)⟩
  have hoff : ∀ {v : Value} {x : AV}, Rep gh.lim w.heap v x → x.off ρ = true → Rep gh.lim w'.heap v x := fun hr hx => (Rep.off hreg hr).1 hx
  have hkeep : Keep cx.lim cx.w0.heap gh.lim w'.heap := by
    refine ⟨fun b o hc ho => ?_, fun b q hc hq => ?_⟩
    · obtain ⟨cs, e, z, hcb⟩ := hc
      have hbB : b < cx.B := Nat.lt_of_lt_of_le (Array.getElem?_eq_some_iff.1 hcb).1 ht1
      obtain ⟨⟨cs1, e1, z1, k1⟩, k2, k3⟩ := r.ex.keep.1 b o ⟨cs, e, z, hcb⟩ ho
      have hs := hsame b (hlt k1) (fun h => by omega)
      refine ⟨⟨cs1, e1, z1, hs.trans k1⟩, k2, ?_⟩
      rw [← k3]; unfold cellAt; rw [hs]
    · obtain ⟨cs, e, z, hcb⟩ := hc
      have hbB : b < cx.B := Nat.lt_of_lt_of_le (Array.getElem?_eq_some_iff.1 hcb).1 ht1
      obtain ⟨k1, k2⟩ := r.ex.keep.2 b q ⟨cs, e, z, hcb⟩ hq
      have hs := hsame b (hlt (k2.trans hcb)) (fun h => by omega)
      exact ⟨k1, hs.trans k2⟩
  have hlk : ∀ k, look k ((k0, (c0.map (AV.kill ρ)).set j0 (.fr ρ e0 z0 l0')) :: σ.bx.map fun p => (p.1, p.2.map (AV.kill ρ))) = if k0 = k then some ((c0.map (AV.kill ρ)).set j0 (.fr ρ e0 z0 l0')) else (look k σ.bx).map (List.map (AV.kill ρ)) := fun k => by
    simp only [look]
    split
    · rfl
    · rw [look_map]
  have hbx : ∀ k, (look k ((k0, (c0.map (AV.kill ρ)).set j0 (.fr ρ e0 z0 l0')) :: σ.bx.map fun p => (p.1, p.2.map (AV.kill ρ)))).isSome = (look k σ.bx).isSome := fun k => by
    rw [hlk]
    split
    · rename_i he; subst he; rw [hk0]; rfl
    · simp
  have hnu : ∀ g e, ¬ AS.uses { σ with tm := σ.tm.map fun p => (p.1, p.2.kill ρ), bx := (k0, (c0.map (AV.kill ρ)).set j0 (.fr ρ e0 z0 l0')) :: σ.bx.map fun p => (p.1, p.2.map (AV.kill ρ)), tb := [], sh := σ.sh.map fun p => (p.1, p.2.map (AV.kill ρ)) } g e := by
    rintro g e (⟨t, x, h⟩ | ⟨k, j, h⟩)
    · rw [look_map] at h
      obtain ⟨y, -, he⟩ := Option.map_eq_some_iff.1 h
      cases y <;> simp only [TV.kill] at he <;> first | cases he | (split at he <;> cases he)
    · cases h
  have hcells : ∀ {vs : List Value} {l : List AV}, RepL gh.lim w.heap vs l → (l.all fun x => x.off ρ || x.one) = true → RepL gh.lim w'.heap vs (l.map (AV.kill ρ)) := fun {vs l} hr ha => by
    refine ⟨by rw [List.length_map]; exact hr.1, fun j x hx => ?_⟩
    rw [List.getElem?_map] at hx
    obtain ⟨y, hy, rfl⟩ := Option.map_eq_some_iff.1 hx
    have h1 := hr.2 j y hy
    have h2 := List.all_eq_true.1 ha y (List.mem_of_getElem? hy)
    unfold AV.kill
    split
    · rename_i ho; exact hoff h1 ho
    · rename_i ho
      simp only [ho, Bool.false_or] at h2
      exact .any _ (h1.oneCell (by simpa using h2))
  simp only [AS.killOk, Bool.and_eq_true] at hok
  refine { frm := r.frm.trans ⟨hos, htape, hout, hsz, fun k hk hS => hsame k (Nat.lt_of_lt_of_le hk r.base) (fun h => by omega)⟩, base := Nat.le_trans r.base hsz, limB := r.limB, size := r.size, ex := ⟨hkeep, r.ex.defers.oth hoth, fun Y hY => (by rw [hgy] at hY; cases hY), ⟨fun t q h => ?_, fun t t' q q' h => ?_⟩, r.ex.fx, fun hy k o h1 h2 h3 => hoth k o (r.ex.oth hy k o h1 h2 h3) h2, r.ex.top⟩, gl := fun g c h => (ht2 g c h).mono hkeep, tmps := fun t x hx => ?_, boxes := fun k c hc => ?_, inj := fun k k' h h' => r.inj k k' (by rw [← hbx]; exact h) (by rw [← hbx]; exact h'), shs := fun b c hb => ?_, apart := fun b k h h' => ?_, tbs := fun k j g e h => (by cases h), own := fun g e h => absurd h (hnu g e), alone := fun g e g' e' h => absurd h (hnu g e) }
  · rw [look_map] at h
    obtain ⟨y, -, he⟩ := Option.map_eq_some_iff.1 h
    cases y <;> simp only [TV.kill] at he <;> first | cases he | (split at he <;> cases he)
  · rw [look_map] at h
    obtain ⟨y, -, he⟩ := Option.map_eq_some_iff.1 h
    cases y <;> simp only [TV.kill] at he <;> first | cases he | (split at he <;> cases he)
  · rw [look_map] at hx
    obtain ⟨y, hy, rfl⟩ := Option.map_eq_some_iff.1 hx
    have h1 := r.tmps t y hy
    cases y with
    | v z q =>
      simp only [TV.kill]
      split
      · rename_i ho; exact ⟨⟨hoff h1.1.1 ho, by simp⟩, by simp⟩
      · exact ⟨trivial, by simp⟩
    | lp k o => exact ⟨h1.1, fun k' o' he => by rw [hbx]; exact h1.2 k' o' he⟩
    | un => exact ⟨trivial, by simp [TV.kill]⟩
    | bld l ns => exact ⟨trivial, by simp [TV.kill]⟩
    | it q => exact ⟨trivial, by simp [TV.kill]⟩
    | cl f ks => exact ⟨trivial, by simp [TV.kill]⟩
  · rw [hlk] at hc
    split at hc
    · rename_i he
      subst he
      injection hc with hc
      subst hc
      obtain ⟨k1, k2, cs, e, k3, k4⟩ := r.boxes k0 c0 hk0
      have hne : gh.lim (gh.bl k0) ≠ .reg ρ := by rw [k2]; intro h; cases h
      refine ⟨k1, k2, cs, e, (hsame _ (hlt k3) (fun h => hne h.2)).trans k3, ?_⟩
      have h5 := hcells k4 (look_all hok.1 hk0)
      refine ⟨by rw [List.length_set]; exact h5.1, fun i x hx => ?_⟩
      rw [List.getElem?_set] at hx
      split at hx
      · rename_i hij
        subst hij
        split at hx
        · injection hx with hx
          subst hx
          refine hnew _ ?_
          unfold cellAt
          rw [k3]
          have hl : j0 < cs.size := by have := k4.1; simp at this; omega
          simp [hl]
        · cases hx
      · exact h5.2 i x hx
    · obtain ⟨c1, h1, rfl⟩ := Option.map_eq_some_iff.1 hc
      obtain ⟨k1, k2, cs, e, k3, k4⟩ := r.boxes k c1 h1
      have hne : gh.lim (gh.bl k) ≠ .reg ρ := by rw [k2]; intro h; cases h
      exact ⟨k1, k2, cs, e, (hsame _ (hlt k3) (fun h => hne h.2)).trans k3, hcells k4 (look_all hok.1 h1)⟩
  · rw [look_map] at hb
    obtain ⟨c1, h1, rfl⟩ := Option.map_eq_some_iff.1 hb
    obtain ⟨k1, k2, cs, e, k3, k4⟩ := r.shs b c1 h1
    have hn2 : gh.lim b ≠ .reg ρ := by rw [k2]; intro h; cases h
    exact ⟨k1, k2, cs, e, (hsame _ (hlt k3) (fun h => hn2 h.2)).trans k3, hcells k4 (look_all hok.2 h1)⟩
  · obtain ⟨c, hc⟩ := Option.isSome_iff_exists.1 h
    rw [look_map] at hc
    obtain ⟨c1, h1, -⟩ := Option.map_eq_some_iff.1 hc
    exact r.apart b k (by rw [h1]; rfl) (by rw [← hbx]; exact h')
def ValidU (P : Program) (gl : Gl) (f : FuncId) (args : List AV) (r : AV) : Prop :=
  fnOk P f = true ∧ ∀ (lim : Lim) (w : World) (cargs : List Value), (∀ b q, lim b ≠ .reg q) → GlOk gl lim w.heap → RepL lim w.heap cargs args →
    Calls P f cargs.toArray w fun e w' => ∃ v lim', e = .returned v ∧ Frm w.heap.size (fun _ => False) w w' ∧ (∀ b, b < w.heap.size → lim' b = lim b) ∧ Rep lim' w'.heap v r
theorem validU_of {P : Program} {g : Nat → Option (List AV)} {f : FuncId} {fn : Func} {c : Code} {args : List AV} {r : AV} (hint : List (Nat × Nat)) (hf : P.funcs[f]? = some fn) (hb : fn.body = some c) (hok : fnOk P f = true)
    (h : AT P (GT g) c (entry fn args [] hint) (done P fn fun r' _ => r' = r)) : ValidU P (GT g) f args r := by
  refine ⟨hok, fun lim w cargs hlim hgl hargs => ?_⟩
  let cx : Cx := { P := P, B := w.heap.size, S := fun _ => False, lim := lim, w0 := w, df := [], gl := GT g, fx := fun _ => none }
  have hr := entry_rr (cx := cx) (fn := fn) (hint := hint) (sh := []) (ys := ([], true)) (Nat.le_refl _) (fun _ => ⟨Nat.le_refl _, fun b q hq => absurd hq (hlim b q)⟩) rfl hgl hargs (fun b cl hb => (by cases hb)) (fun _ => rfl) (fun Y hY => by cases hY)
  refine calls_of_AT (cx := cx) hf hb rfl hr h (fun _ _ _ => .inl ⟨rfl, rfl⟩) fun s r' gh a' w' v => ?_
  rintro rfl rr h2
  exact ⟨v, gh.lim, rfl, rr.frm, fun b hb => rr.limB b hb, h2⟩
theorem ValidU.region {P : Program} {gl gl' : Gl} {f : FuncId} {args : List AV} {r : AV} (hp : GlPlain gl) (hg : gl'.g = gl.g) (ρ : Nat) (hf : r.fresh = true) (h : ValidU P gl f (AV.rgL none args) r) : Valid P gl' f args (r.rg (some ρ)) := by
  refine ⟨h.1, fun lim w cargs hgl0 hargs _ => ?_⟩
  have hgl : GlOk gl lim w.heap := fun q c hc => hgl0 q c (by rw [hg]; exact hc)
  let lim4 : Lim := fun _ => .all
  have hok : ∀ b o, lim.ok b o → lim4.ok b o := fun b o _ n hn => by cases hn
  have hno : ∀ b q, lim4 b ≠ .reg q := fun b q hq => by cases hq
  have hS : (fun b => (look b ([] : List (Nat × List AV))).isSome = true) = fun _ => False := by funext b; simp [look]
  refine (h.2 lim4 w cargs hno (hgl.weak hp hok) (hargs.weak hok)).mono fun e w' => ?_
  rintro ⟨v, lim', rfl, hfr, hl, hrep⟩
  let lim3 : Lim := fun b => if b < w.heap.size then lim b else .reg ρ
  refine ⟨v, _, [], lim3, rfl, by rw [hS]; exact hfr, fun b hb => if_pos hb, ?_, fun b c hb => (by cases hb), ⟨rfl, rfl⟩, fun _ h => h, fun b h => (by cases h)⟩
  refine (Rep.mark (n0 := w.heap.size) (lim' := lim3) (fun b hb q => ?_) (fun b hb => if_neg (Nat.not_lt.2 hb)) hrep).1 hf
  rw [hl b hb]
  exact hno b q
end Go.Pv
end

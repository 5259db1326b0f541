import Derived.Test.YtjkabaejabibnaaDoorPvPb
import Derived.Test.YtjkabaejabibnaaDoorPvP
set_option linter.all false
section
/- Functions that read with an object that a frozen box leads to. -/
namespace Go.Pv
open Go

def ValidD (P : Program) (gl : Gl) (f : FuncId) (args : List AV) (b : Nat) (c : List AV) (r : AV) (c' : List AV) : Prop :=
  ValidH P gl f args [(b, c)] fun r' sh' => r' = r ∧ sh' = [(b, c')]

section
variable {P : Program} {gl : Gl} {ops : Array Oper} {o : Oper} {rest : List Oper} {σ : AS} {K : AS → Prop}
end
end Go.Pv
end

section
/- Maps with known entries: a function that hands one back, and the range over one. -/
namespace Go.Pv
open Go

def SpecOp (P : Program) (gl : Gl) (ops : Array Oper) (o : Oper) (σ : AS) (S : AS → Prop) : Prop :=
  ∀ (cx : Cx) (ro : Option Nat) (n : Nat) (Q : Exit → Act → World → Prop) (i : Nat) (a : Act) (w : World), cx.P = P → cx.gl = gl → ops[i]? = some o → R cx σ a w → wpOpIn (Fw ro) n cx.P ops Q i (fun a' w' => ∃ σ', S σ' ∧ R cx σ' a' w') a w
def RVx (P : Program) (gl : Gl) (ops : Array Oper) : List Oper → AS → (AS → Prop) → Prop
  | [], σ, K => K σ
  | o :: rest, σ, K => nextV P gl ops o σ (fun σ' => RVx P gl ops rest σ' K) ∨ (∃ S, SpecOp P gl ops o σ S ∧ ∀ σ', S σ' → RVx P gl ops rest σ' K) ∨ RV P gl ops (o :: rest) σ K
theorem RVx_sound {cx : Cx} {ro : Option Nat} {n : Nat} {ops : Array Oper} {Q : Exit → Act → World → Prop} {K : AS → Prop} (hQ : ∀ σ a w, K σ → R cx σ a w → Q .normal a w) :
    ∀ (l : List Oper) (k : Nat) (σ : AS) (a : Act) (w : World), (∀ j, l[j]? = ops[k + j]?) → R cx σ a w → RVx cx.P cx.gl ops l σ K → wpOpsIn (Fw ro) n cx.P ops Q (List.range' k l.length) a w
  | [], k, σ, a, w, _, r, h => hQ σ a w h r
  | o :: l, k, σ, a, w, hl, r, h => by
    have h0 : ops[k]? = some o := by simpa using (hl 0).symm
    have hl' : ∀ j, l[j]? = ops[k + 1 + j]? := fun j => by have := hl (j + 1); simpa [Nat.add_assoc, Nat.add_comm 1 j] using this
    rcases h with h | ⟨S, h1, h2⟩ | h
    · rw [List.length_cons, List.range'_succ, wpOpsIn_cons]
      refine wpOpIn_mono (fun a' w' hh => ?_) (opIn_sound (ro := ro) (n := n) (Q := Q) h0 r h)
      obtain ⟨σ', hk, r'⟩ := hh
      exact RVx_sound hQ l (k + 1) σ' a' w' hl' r' hk
    · rw [List.length_cons, List.range'_succ, wpOpsIn_cons]
      refine wpOpIn_mono (fun a' w' hh => ?_) (h1 cx ro n Q k a w rfl rfl h0 r)
      obtain ⟨σ', hk, r'⟩ := hh
      exact RVx_sound hQ l (k + 1) σ' a' w' hl' r' (h2 σ' hk)
    · exact RV_sound hQ (o :: l) k σ a w hl r h
section
variable {P : Program} {gl : Gl} {σ : AS} {Q : Exit → AS → Prop}
theorem AT_regionX {id : Nat} {l : List Oper} (h : RVx P gl l.toArray l σ (Q .normal)) : AT P gl (.region id l.toArray false) σ Q := by
  intro cx ro n a w hP hg hro r
  subst hP; subst hg
  refine wpIn_region ?_
  have := RVx_sound (ro := ro) (n := n) (K := Q .normal) (Q := fun e a' w' => ∃ σ', Q e σ' ∧ R cx σ' a' w') (fun s a w hk r => ⟨s, hk, r⟩) l.toArray.toList 0 σ a w (by simp) r h
  rw [List.range_eq_range']
  simpa using this
theorem AT_seq_regionX {id : Nat} {l : List Oper} {y : Code} (h : RVx P gl l.toArray l σ fun s => AT P gl y s Q) : AT P gl (.seq (.region id l.toArray false) y) σ Q :=
  AT_seq (AT_regionX h)
end

variable {cx : Cx} {gh : Gh} {σ : AS} {a : Act} {w : World} {o : Oper}
def ValidM (P : Program) (gl : Gl) (f : FuncId) (args : List AV) (es : List (List UInt8 × Nat)) : Prop :=
  fnOk P f = true ∧ ∀ (lim : Lim) (w : World) (cargs : List Value), GlOk gl lim w.heap → RepL lim w.heap cargs args →
    Calls P f cargs.toArray w fun e w' => ∃ r, e = .returned (.map (some r)) ∧ w.heap.size ≤ r ∧ w'.heap[r]? = some (.map (entries es) es.length) ∧ Frm w.heap.size (fun _ => False) w w'
theorem RVx_spec {P : Program} {gl : Gl} {ops : Array Oper} {K : AS → Prop} {o : Oper} {l : List Oper} {σ : AS} {S : AS → Prop} (h : SpecOp P gl ops o σ S) (k : ∀ σ', S σ' → RVx P gl ops l σ' K) : RVx P gl ops (o :: l) σ K := .inr (.inl ⟨S, h, k⟩)
end Go.Pv
end

section
/- A row of one's own becomes part of a region: nobody appends to it any more. -/
namespace Go.Pv
open Go

theorem RR.retm {cx : Cx} {gh : Gh} {σ : AS} {a : Act} {w : World} (r : RR cx gh σ a w) (t : Nat) {x y : AV} {q : Option (Nat × Nat)} (ht : look t σ.tm = some (.v x q)) (hy : Rep gh.lim w.heap (a.tmps.getD t undef) y) :
    RR cx gh { σ with tm := (t, .v y none) :: σ.tm } a w := by
  have hu : ∀ {g e}, AS.uses { σ with tm := (t, .v y none) :: σ.tm } g e → σ.uses g e := by
    rintro g e (⟨s, z, h⟩ | h)
    · simp only [look] at h
      split at h
      · injection h with h; injection h with h1 h2; cases h2
      · exact .inl ⟨s, z, h⟩
    · exact .inr h
  refine { frm := r.frm, base := r.base, limB := r.limB, size := r.size, ex := r.ex.sub (fun s q h => ?_) rfl rfl, gl := r.gl, tmps := fun s z h => ?_, boxes := r.boxes, inj := r.inj, shs := r.shs, apart := r.apart, tbs := r.tbs, own := fun g e h => r.own g e (hu h), alone := fun g e g' e' h h' => r.alone g e g' e' (hu h) (hu h') }
  · simp only [look] at h
    split at h
    · cases h
    · exact h
  · simp only [look] at h
    split at h
    · rename_i he
      subst he
      injection h with h; subst h
      exact ⟨⟨hy, by simp⟩, fun k off h => by cases h⟩
    · exact r.tmps s z h

theorem RR.recellV {cx : Cx} {gh : Gh} {σ : AS} {a : Act} {w : World} (r : RR cx gh σ a w) (k j : Nat) {x y : AV} {cells : List AV} (hk : look k σ.bx = some cells) (hj : cells[j]? = some x)
    (hxy : ∀ v, cellAt w.heap (gh.bl k) j = some v → Rep gh.lim w.heap v x → Rep gh.lim w.heap v y) : RR cx gh { σ with bx := (k, cells.set j y) :: σ.bx } a w := by
  have hlk : ∀ k', (look k' ((k, cells.set j y) :: σ.bx)).isSome = (look k' σ.bx).isSome := by
    intro k'
    simp only [look]
    split
    · rename_i h; subst h; rw [hk]; rfl
    · rfl
  obtain ⟨hB, hlim, cs, ee, hcs, hrep⟩ := r.boxes k cells hk
  obtain ⟨v, hv, hrv⟩ := hrep.get hj
  have hset : cs.toList.set j v = cs.toList := by
    apply List.ext_getElem?
    intro i
    rw [List.getElem?_set]
    split
    · rename_i he; subst he
      obtain ⟨h2, -⟩ := List.getElem?_eq_some_iff.1 hv
      rw [if_pos h2, hv]
    · rfl
  refine { frm := r.frm, base := r.base, limB := r.limB, size := r.size, ex := r.ex.sub (fun _ _ h => h) rfl rfl, gl := r.gl, tmps := fun t x hx => ⟨(r.tmps t x hx).1, fun k' o h => by rw [hlk]; exact (r.tmps t x hx).2 k' o h⟩, boxes := fun k' c hc => ?_, inj := fun k1 k2 h1 h2 => by rw [hlk] at h1 h2; exact r.inj k1 k2 h1 h2, shs := r.shs, apart := fun b k' h1 h2 => by rw [hlk] at h2; exact r.apart b k' h1 h2, tbs := fun k' i g e h => ⟨by rw [hlk]; exact (r.tbs k' i g e h).1, (r.tbs k' i g e h).2⟩, own := fun g e h => ⟨(r.own g e h).1, fun b hb => ⟨fun k' h' => by rw [hlk] at h'; exact ((r.own g e h).2 b hb).1 k' h', ((r.own g e h).2 b hb).2⟩⟩, alone := r.alone }
  simp only [look] at hc
  split at hc
  · rename_i he; subst he
    injection hc with hc; subst hc
    have hcell : cellAt w.heap (gh.bl k) j = some v := by
      unfold cellAt; rw [hcs]
      simpa using hv
    have := hrep.set j (hxy v hcell hrv)
    rw [hset] at this
    exact ⟨hB, hlim, cs, ee, hcs, this⟩
  · exact r.boxes k' c hc

theorem RR.seal {cx : Cx} {gh : Gh} {σ : AS} {a : Act} {w : World} (r : RR cx gh σ a w) (hgy : cx.gl.y = none) (g e ρ : Nat) (hu : σ.uses g e) :
    ∃ gh', RR cx gh' (σ.purge g) a w ∧ Keep gh.lim w.heap gh'.lim w.heap ∧ gh'.bl = gh.bl ∧ ∀ l, Rep gh.lim w.heap (gh.gv g) (.slice l) → Rep gh'.lim w.heap (gh.gv g) (.fr ρ e (esz cx.P e) l) := by
  obtain ⟨⟨m, xs, ho1, ho2⟩, ho3⟩ := r.own g e hu
  have rp := r.purge g
  let lim' : Lim := fun b => if (gh.gv g).ownBlock = some b then .reg ρ else gh.lim b
  have hl : ∀ {b}, (gh.gv g).ownBlock ≠ some b → lim' b = gh.lim b := fun h => if_neg h
  have hkeep : Keep gh.lim w.heap lim' w.heap := by
    refine ⟨fun b o hb ho => ⟨hb, fun n hn => ?_, rfl⟩, fun b r' _ hr => ⟨?_, rfl⟩⟩
    · by_cases he : (gh.gv g).ownBlock = some b
      · simp only [lim', if_pos he] at hn; cases hn
      · rw [hl he] at hn; exact ho n hn
    · by_cases he : (gh.gv g).ownBlock = some b
      · rw [ho2 b he] at hr; cases hr
      · rw [hl he]; exact hr
  refine ⟨{ gh with lim := lim' }, { frm := rp.frm, base := rp.base, limB := fun b hb => ?_, size := rp.size, ex := rp.ex.step hkeep (Oth.refl w) (.inl hgy), gl := fun g c h => (rp.gl g c h).mono hkeep, tmps := fun t x hx => ?_, boxes := fun k' c hc => ?_, inj := rp.inj, shs := fun b c hb => ?_, apart := rp.apart, tbs := rp.tbs, own := fun g' e' h => ?_, alone := rp.alone }, hkeep, rfl, fun l hv => ?_⟩
  · refine (hl fun he => ?_).trans (rp.limB b hb)
    have := (r.lt_own hu he).2
    omega
  · have h1 := rp.tmps t x hx
    refine ⟨?_, h1.2⟩
    cases x with
    | un => trivial
    | v y q => exact ⟨h1.1.1.mono hkeep, h1.1.2⟩
    | bld l ns => exact ⟨h1.1.1.mono hkeep, h1.1.2⟩
    | lp k off => exact h1.1
    | it k9 => trivial
    | cl f ks => exact h1.1
  · obtain ⟨h1, h2, cs', e', h3, h4⟩ := rp.boxes k' c hc
    exact ⟨h1, (hl fun he => (ho3 _ he).1 k' (by rw [show look k' σ.bx = some c from hc]; rfl) rfl).trans h2, cs', e', h3, h4.mono hkeep⟩
  · obtain ⟨h1, h2, cs', e', h3, h4⟩ := rp.shs b c hb
    exact ⟨h1, (hl fun he => by have := (ho3 b he).2; rw [show look b σ.sh = some c from hb] at this; cases this).trans h2, cs', e', h3, h4.mono hkeep⟩
  · obtain ⟨⟨m', xs', h1, h2⟩, h3⟩ := rp.own g' e' h
    obtain ⟨hu', hne⟩ := AS.uses_purge h
    exact ⟨⟨m', xs', h1, fun b hb => (hl (r.alone g' e' g e hu' hu hne b hb)).trans (h2 b hb)⟩, h3⟩
  · refine .fr _ _ _ _ _ (hv.mono hkeep) ?_
    obtain ⟨p, cap, hp, -⟩ := hv.slice_form
    rcases ho1.2 with ⟨h1, h2⟩ | ⟨b, cap', cur, h1, -, h2, h3, h4, h5, -⟩
    · rw [h1] at hp; injection hp with e1 e2 e3
      exact .inl e2.symm
    · rw [h1] at hp; injection hp with e1 e2 e3
      refine .inr ⟨b, cap', cur, by rw [← e2]; exact h1, h2, by omega, h4, h5, ?_⟩
      show (if (gh.gv g).ownBlock = some b then LV.reg ρ else gh.lim b) = _
      rw [if_pos (by rw [h1]; rfl)]

section
variable {P : Program} {gl : Gl} {σ : AS} {Q : Exit → AS → Prop} {c : Code}
theorem AT_sealT (t g e ρ : Nat) {l : List (List AV)} (hy : gl.y = none) (ht : look t σ.tm = some (.v (.slice l) (some (g, e))))
    (h : AT P gl c { σ.purge g with tm := (t, .v (.fr ρ e (esz P e) l) none) :: (σ.purge g).tm } Q) : AT P gl c σ Q := by
  intro cx ro n a w hP hg hro r
  obtain ⟨gh, r⟩ := r
  obtain ⟨gh', r', hk, -, hf⟩ := r.seal (by rw [hg]; exact hy) g e ρ (.inl ⟨t, _, ht⟩)
  have h1 := (r.tmps t _ ht).1
  have ht' : look t (σ.purge g).tm = some (.v (.slice l) none) := by
    rw [show (σ.purge g).tm = σ.tm.map fun p => (p.1, p.2.untag g) from rfl, look_map, ht]
    simp [TV.untag]
  have h2 := hf l (by have := h1.1; rw [h1.2 _ rfl] at this; exact this)
  rw [hP] at h2
  exact h cx ro n a w hP hg hro ⟨gh', r'.retm t ht' (by rw [h1.2 _ rfl]; exact h2)⟩
theorem AT_sealB (k j g e ρ : Nat) {l : List (List AV)} {cells : List AV} (hy : gl.y = none) (hk : look k σ.bx = some cells) (hj : cells[j]? = some (.slice l)) (ht : (k, j, g, e) ∈ σ.tb)
    (h : AT P gl c { σ.purge g with bx := (k, cells.set j (.fr ρ e (esz P e) l)) :: σ.bx } Q) : AT P gl c σ Q := by
  intro cx ro n a w hP hg hro r
  obtain ⟨gh, r⟩ := r
  obtain ⟨gh', r', hkp, hbl, hf⟩ := r.seal (by rw [hg]; exact hy) g e ρ (.inr ⟨k, j, ht⟩)
  have h1 := (r.tbs k j g e ht).2
  obtain ⟨-, -, cs, ee, hcs, hrep⟩ := r.boxes k cells hk
  obtain ⟨v, hv, hrv⟩ := hrep.get hj
  have hcell : cellAt w.heap (gh.bl k) j = some v := by
    unfold cellAt; rw [hcs]
    simpa using hv
  have hvg : v = gh.gv g := by rw [hcell] at h1; injection h1
  have h2 := hf l (by rw [← hvg]; exact hrv)
  rw [hP] at h2
  have r2 := r'.recellV k j (y := .fr ρ e (esz P e) l) (show look k (σ.purge g).bx = some cells from hk) hj fun u hu _ => by
    rw [hbl, hcell] at hu
    injection hu with hu
    rw [← hu, hvg]; exact h2
  exact h cx ro n a w hP hg hro ⟨gh', r2⟩
end
end Go.Pv
end

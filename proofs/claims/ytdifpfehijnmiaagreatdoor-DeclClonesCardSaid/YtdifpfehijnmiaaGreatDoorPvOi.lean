import Derived.Test.YtdifpfehijnmiaaGreatDoorPvOf
import Derived.Test.YtdifpfehijnmiaaGreatDoorPvP
set_option linter.all false
section
/- Maps with known entries: a function that hands one back, and the range over one. -/
namespace Go.Pv
open Go

def SpecOp (P : Program) (gl : Gl) (ops : Array Oper) (o : Oper) (σ : AS) (S : AS → Prop) : Prop :=
  ∀ (cx : Cx) (ro : Option Nat) (n : Nat) (Q : Exit → Act → World → Prop) (i : Nat) (a : Act) (w : World), cx.P = P → cx.gl = gl → ops[i]? = some o → R cx σ a w → wpOpIn (Fw ro) n cx.P ops Q i (fun a' w' => ∃ σ', S σ' ∧ R cx σ' a' w') a w
def RVx (P : Program) (gl : Gl) (ops : Array Oper) : List Oper → AS → (AS → Prop) → Prop
  | [], σ, K => K σ
  | o :: rest, σ, K => nextV P gl ops o σ (fun σ' => RVx P gl ops rest σ' K) ∨ (∃ S, SpecOp P gl ops o σ S ∧ ∀ σ', S σ' → RVx P gl ops rest σ' K) ∨ RV P gl ops (o :: rest) σ K
section
variable {P : Program} {gl : Gl} {σ : AS} {Q : Exit → AS → Prop}
end

variable {cx : Cx} {gh : Gh} {σ : AS} {a : Act} {w : World} {o : Oper}
def ValidM (P : Program) (gl : Gl) (f : FuncId) (args : List AV) (es : List (List UInt8 × Nat)) : Prop :=
  fnOk P f = true ∧ ∀ (lim : Lim) (w : World) (cargs : List Value), GlOk gl lim w.heap → RepL lim w.heap cargs args →
    Calls P f cargs.toArray w fun e w' => ∃ r, e = .returned (.map (some r)) ∧ w.heap.size ≤ r ∧ w'.heap[r]? = some (.map (entries es) es.length) ∧ Frm w.heap.size (fun _ => False) w w'
end Go.Pv
end

section
/- A row of one's own becomes part of a region: nobody appends to it any more. -/
namespace Go.Pv
open Go

theorem RR.retm {cx : Cx} {gh : Gh} {σ : AS} {a : Act} {w : World} (r : RR cx gh σ a w) (t : Nat) {x y : AV} {q : Option (Nat × Nat)} (ht : look t σ.tm = some (.v x q)) (hy : Rep gh.lim w.heap (a.tmps.getD t undef) y) :
    RR cx gh { σ with tm := (t, .v y none) :: σ.tm } a w := by
  have hu : ∀ {g e}, AS.uses { σ with tm := (t, .v y none) :: σ.tm } g e → σ.uses g e := by
    rintro g e (⟨s, z, h⟩ | h)
    · simp only [look] at h
      split at h
      · injection h with h; injection h with h1 h2; cases h2
      · exact .inl ⟨s, z, h⟩
    · exact .inr h
  refine { frm := r.frm, base := r.base, limB := r.limB, size := r.size, ex := r.ex.sub (fun s q h => ?_) rfl rfl, gl := r.gl, tmps := fun s z h => ?_, boxes := r.boxes, inj := r.inj, shs := r.shs, apart := r.apart, tbs := r.tbs, own := fun g e h => r.own g e (hu h), alone := fun g e g' e' h h' => r.alone g e g' e' (hu h) (hu h') }
  · simp only [look] at h
    split at h
    · cases h
    · exact h
  · simp only [look] at h
    split at h
    · rename_i he
      subst he
      injection h with h; subst h
      exact ⟨⟨hy, by simp⟩, fun k off h => by cases h⟩
    · exact r.tmps s z h

theorem RR.seal {cx : Cx} {gh : Gh} {σ : AS} {a : Act} {w : World} (r : RR cx gh σ a w) (hgy : cx.gl.y = none) (g e ρ : Nat) (hu : σ.uses g e) :
    ∃ gh', RR cx gh' (σ.purge g) a w ∧ Keep gh.lim w.heap gh'.lim w.heap ∧ gh'.bl = gh.bl ∧ ∀ l, Rep gh.lim w.heap (gh.gv g) (.slice l) → Rep gh'.lim w.heap (gh.gv g) (.fr ρ e (esz cx.P e) l) := by
  obtain ⟨⟨m, xs, ho1, ho2⟩, ho3⟩ := r.own g e hu
  have rp := r.purge g
  let lim' : Lim := fun b => if (gh.gv g).ownBlock = some b then .reg ρ else gh.lim b
  have hl : ∀ {b}, (gh.gv g).ownBlock ≠ some b → lim' b = gh.lim b := fun h => if_neg h
  have hkeep : Keep gh.lim w.heap lim' w.heap := by
    refine ⟨fun b o hb ho => ⟨hb, fun n hn => ?_, rfl⟩, fun b r' _ hr => ⟨?_, rfl⟩⟩
    · by_cases he : (gh.gv g).ownBlock = some b
      · simp only [lim', if_pos he] at hn; cases hn
      · rw [hl he] at hn; exact ho n hn
    · by_cases he : (gh.gv g).ownBlock = some b
      · rw [ho2 b he] at hr; cases hr
      · rw [hl he]; exact hr
  refine ⟨{ gh with lim := lim' }, { frm := rp.frm, base := rp.base, limB := fun b hb => ?_, size := rp.size, ex := rp.ex.step hkeep (Oth.refl w) (.inl hgy), gl := fun g c h => (rp.gl g c h).mono hkeep, tmps := fun t x hx => ?_, boxes := fun k' c hc => ?_, inj := rp.inj, shs := fun b c hb => ?_, apart := rp.apart, tbs := rp.tbs, own := fun g' e' h => ?_, alone := rp.alone }, hkeep, rfl, fun l hv => ?_⟩
  · refine (hl fun he => ?_).trans (rp.limB b hb)
    have := (r.lt_own hu he).2
    omega
  · have h1 := rp.tmps t x hx
    refine ⟨?_, h1.2⟩
    cases x with
    | un => trivial
    | v y q => exact ⟨h1.1.1.mono hkeep, h1.1.2⟩
    | bld l ns => exact ⟨h1.1.1.mono hkeep, h1.1.2⟩
    | lp k off => exact h1.1
    | it k9 => trivial
    | cl f ks => exact h1.1
  · obtain ⟨h1, h2, cs', e', h3, h4⟩ := rp.boxes k' c hc
    exact ⟨h1, (hl fun he => (ho3 _ he).1 k' (by rw [show look k' σ.bx = some c from hc]; rfl) rfl).trans h2, cs', e', h3, h4.mono hkeep⟩
  · obtain ⟨h1, h2, cs', e', h3, h4⟩ := rp.shs b c hb
    exact ⟨h1, (hl fun he => by have := (ho3 b he).2; rw [show look b σ.sh = some c from hb] at this; cases this).trans h2, cs', e', h3, h4.mono hkeep⟩
  · obtain ⟨⟨m', xs', h1, h2⟩, h3⟩ := rp.own g' e' h
    obtain ⟨hu', hne⟩ := AS.uses_purge h
    exact ⟨⟨m', xs', h1, fun b hb => (hl (r.alone g' e' g e hu' hu hne b hb)).trans (h2 b hb)⟩, h3⟩
  · refine .fr _ _ _ _ _ (hv.mono hkeep) ?_
    obtain ⟨p, cap, hp, -⟩ := hv.slice_form
    rcases ho1.2 with ⟨h1, h2⟩ | ⟨b, cap', cur, h1, -, h2, h3, h4, h5, -⟩
    · rw [h1] at hp; injection hp with e1 e2 e3
      exact .inl e2.symm
    · rw [h1] at hp; injection hp with e1 e2 e3
      refine .inr ⟨b, cap', cur, by rw [← e2]; exact h1, h2, by omega, h4, h5, ?_⟩
      show (if (gh.gv g).ownBlock = some b then LV.reg ρ else gh.lim b) = _
      rw [if_pos (by rw [h1]; rfl)]

section
variable {P : Program} {gl : Gl} {σ : AS} {Q : Exit → AS → Prop} {c : Code}
theorem AT_sealT (t g e ρ : Nat) {l : List (List AV)} (hy : gl.y = none) (ht : look t σ.tm = some (.v (.slice l) (some (g, e))))
    (h : AT P gl c { σ.purge g with tm := (t, .v (.fr ρ e (esz P e) l) none) :: (σ.purge g).tm } Q) : AT P gl c σ Q := by
  intro cx ro n a w hP hg hro r
  obtain ⟨gh, r⟩ := r
  obtain ⟨gh', r', hk, -, hf⟩ := r.seal (by rw [hg]; exact hy) g e ρ (.inl ⟨t, _, ht⟩)
  have h1 := (r.tmps t _ ht).1
  have ht' : look t (σ.purge g).tm = some (.v (.slice l) none) := by
    rw [show (σ.purge g).tm = σ.tm.map fun p => (p.1, p.2.untag g) from rfl, look_map, ht]
    simp [TV.untag]
  have h2 := hf l (by have := h1.1; rw [h1.2 _ rfl] at this; exact this)
  rw [hP] at h2
  exact h cx ro n a w hP hg hro ⟨gh', r'.retm t ht' (by rw [h1.2 _ rfl]; exact h2)⟩
end
end Go.Pv
end

section
/- Regions: marks left out, marks changed. -/
namespace Go.Pv
open Go

mutual
def AV.rg (k : Option Nat) : AV → AV
  | .slice l => .slice (AV.rgLL k l)
  | .slX l => .slX (AV.rgLL k l)
  | .fr _ e z l => match k with | none => .slice (AV.rgLL k l) | some r => .fr r e z (AV.rgLL k l)
  | .sr _ l => match k with | none => .slice (AV.rgLL k l) | some r => .sr r (AV.rgLL k l)
  | .agg l => .agg (AV.rgL k l)
  | .tup l => .tup (AV.rgL k l)
  | .func f l => .func f (AV.rgL k l)
  | .bfn f l => .bfn f (AV.rgL k l)
  | .ro l => .ro (AV.rgL k l)
  | .iface t x => .iface t (AV.rg k x)
  | .bool b => .bool b
  | .int a n => .int a n
  | .str s => .str s
  | .nilFunc => .nilFunc
  | .yld l => .yld l
  | .nilPtr => .nilPtr
  | .gp b o => .gp b o
  | .nilIface => .nilIface
  | .nilS => .nilS
  | .anyB => .anyB
  | .any => .any
  | .gs b n c => .gs b n c
def AV.rgL (k : Option Nat) : List AV → List AV
  | [] => []
  | x :: r => AV.rg k x :: AV.rgL k r
def AV.rgLL (k : Option Nat) : List (List AV) → List (List AV)
  | [] => []
  | x :: r => AV.rgL k x :: AV.rgLL k r
end
mutual
def AV.fresh : AV → Bool
  | .slice l => l.isEmpty
  | .fr _ _ _ l => AV.freshLL l
  | .sr _ l => AV.freshLL l
  | .agg l => AV.freshL l
  | .tup l => AV.freshL l
  | .bool _ | .int _ _ | .str _ | .nilS | .anyB | .nilPtr | .nilFunc | .nilIface => true
  | _ => false
def AV.freshL : List AV → Bool
  | [] => true
  | x :: r => AV.fresh x && AV.freshL r
def AV.freshLL : List (List AV) → Bool
  | [] => true
  | x :: r => AV.freshL x && AV.freshLL r
end
theorem rgL_map (k : Option Nat) (l : List AV) : AV.rgL k l = l.map (AV.rg k) := by
  induction l with
  | nil => rfl
  | cons x r ih => simp [AV.rgL, ih]
theorem rgLL_map (k : Option Nat) (l : List (List AV)) : AV.rgLL k l = l.map (AV.rgL k) := by
  induction l with
  | nil => rfl
  | cons x r ih => simp [AV.rgLL, ih]
theorem rgLL_len (k : Option Nat) (l : List (List AV)) : (AV.rgLL k l).length = l.length := by rw [rgLL_map, List.length_map]
theorem rgL_len (k : Option Nat) (l : List AV) : (AV.rgL k l).length = l.length := by rw [rgL_map, List.length_map]
theorem freshL_all (l : List AV) : AV.freshL l = l.all AV.fresh := by
  induction l with
  | nil => rfl
  | cons x r ih => simp [AV.freshL, ih]
theorem freshLL_all (l : List (List AV)) : AV.freshLL l = l.all AV.freshL := by
  induction l with
  | nil => rfl
  | cons x r ih => simp [AV.freshLL, ih]
theorem rgL_get {k : Option Nat} {l : List AV} {j : Nat} {x : AV} (h : (AV.rgL k l)[j]? = some x) : ∃ y, l[j]? = some y ∧ x = AV.rg k y := by
  rw [rgL_map, List.getElem?_map] at h
  obtain ⟨y, h1, h2⟩ := Option.map_eq_some_iff.1 h
  exact ⟨y, h1, h2.symm⟩
theorem rgLL_get {k : Option Nat} {l : List (List AV)} {j : Nat} {x : List AV} (h : (AV.rgLL k l)[j]? = some x) : ∃ y, l[j]? = some y ∧ x = AV.rgL k y := by
  rw [rgLL_map, List.getElem?_map] at h
  obtain ⟨y, h1, h2⟩ := Option.map_eq_some_iff.1 h
  exact ⟨y, h1, h2.symm⟩

theorem flat_len_rows {sz : Nat} : ∀ {l : List (List AV)}, (∀ (i : Nat) (r : List AV), l[i]? = some r → r.length = sz) → l.flatten.length = l.length * sz
  | [], _ => by simp
  | a :: l, h => by
    have h1 := flat_len_rows (l := l) (fun i r hr => h (i + 1) r (by simpa using hr))
    have h2 := h 0 a rfl
    rw [List.flatten_cons, List.length_append, h1, h2, List.length_cons, Nat.add_mul]; omega
theorem flat_ne {sz : Nat} {l : List (List AV)} (h : ∀ (i : Nat) (r : List AV), l[i]? = some r → r.length = sz) {j : Nat} (hj : j < l.length * sz) : l.flatten ≠ [] := fun he => by
  have := flat_len_rows h
  rw [he] at this
  simp at this
  rw [← this] at hj
  omega
theorem rgLL_flat {k : Option Nat} : ∀ {l : List (List AV)}, l.flatten = [] → (AV.rgLL k l).flatten = []
  | [], _ => rfl
  | a :: l, h => by
    simp only [List.flatten_cons, List.append_eq_nil_iff] at h
    simp only [AV.rgLL, List.flatten_cons, List.append_eq_nil_iff]
    exact ⟨by rw [h.1]; rfl, rgLL_flat h.2⟩

theorem Rep.weak {lim lim' : Lim} {h : Array Obj} (hok : ∀ b o, lim.ok b o → lim'.ok b o) {v : Value} {x : AV} (r : Rep lim h v x) : Rep lim' h v (x.rg none) := by
  induction r with
  | bool b => exact .bool b
  | int k n => exact .int k n
  | str l => exact .str l
  | slice0 p cap => exact .slice0 p cap
  | slice b off cap sz l vs hcap hrow hc hr ih =>
    have e := rgLL_len none l
    have := Rep.slice (lim := lim') (h := h) b off cap sz (AV.rgLL none l) vs (by rw [e]; exact hcap) (fun i r hi => by obtain ⟨y, h1, rfl⟩ := rgLL_get hi; rw [rgL_len]; exact hrow i y h1) (by rw [e]; exact fun j hj => ⟨hok _ _ (hc j hj).1, (hc j hj).2⟩)
      (fun i j r x hi hj => by obtain ⟨y, h1, rfl⟩ := rgLL_get hi; obtain ⟨z, h2, rfl⟩ := rgL_get hj; exact ih i j y z h1 h2)
    rw [e] at this
    exact this
  | agg cs l hl hr ih => exact .agg cs _ (by rw [rgL_len]; exact hl) fun j x hj => by obtain ⟨y, h1, rfl⟩ := rgL_get hj; exact ih j y h1
  | tup cs l hl hr ih => exact .tup cs _ (by rw [rgL_len]; exact hl) fun j x hj => by obtain ⟨y, h1, rfl⟩ := rgL_get hj; exact ih j y h1
  | func f cs l hl hr ih => exact .func f cs _ (by rw [rgL_len]; exact hl) fun j x hj => by obtain ⟨y, h1, rfl⟩ := rgL_get hj; exact ih j y h1
  | nilFunc => exact .nilFunc
  | yld l => exact .yld l
  | ro b off l vs hc hr ih => exact .ro b off _ vs (by rw [rgL_len]; exact fun j hj => ⟨hok _ _ (hc j hj).1, (hc j hj).2⟩) fun j x hj => by obtain ⟨y, h1, rfl⟩ := rgL_get hj; exact ih j y h1
  | nilPtr => exact .nilPtr
  | gp b off => exact .gp b off
  | iface t v x hx ih => exact .iface t v _ ih
  | nilIface => exact .nilIface
  | nilS => exact .nilS
  | bfn f cs l hl hr ih => exact .bfn f cs _ (by rw [rgL_len]; exact hl) fun j x hj => by obtain ⟨y, h1, rfl⟩ := rgL_get hj; exact ih j y h1
  | slX p l hx ih =>
    have := Rep.slX (lim := lim') (h := h) p (AV.rgLL none l) (by rw [rgLL_len]; exact ih)
    rw [rgLL_len] at this
    exact this
  | anyB b => exact .anyB b
  | fr r e z v l hx hr ih => exact ih
  | sr r v l hx hr ih => exact ih
  | any v hv => exact .any v hv
  | gs b n cap => exact .gs b n cap
theorem RepL.weak {lim lim' : Lim} {h : Array Obj} (hok : ∀ b o, lim.ok b o → lim'.ok b o) {vs : List Value} {l : List AV} (r : RepL lim h vs l) : RepL lim' h vs (AV.rgL none l) :=
  ⟨by rw [rgL_len]; exact r.1, fun j x hj => by obtain ⟨y, h1, rfl⟩ := rgL_get hj; exact (r.2 j y h1).weak hok⟩

theorem Rep.mark {lim lim' : Lim} {h : Array Obj} {n0 ρ : Nat} (h0 : ∀ b, b < n0 → ∀ r, lim b ≠ .reg r) (h1 : ∀ b, n0 ≤ b → lim' b = .reg ρ) {v : Value} {x : AV} (r : Rep lim h v x) :
    (x.fresh = true → Rep lim' h v (x.rg (some ρ))) ∧ ∀ l, x = .slice l → AV.freshLL l = true → (∀ b off n cap, v = .slice (some ⟨b, off, none⟩) n cap → l.flatten ≠ [] → n0 ≤ b) → Rep lim' h v (.slice (AV.rgLL (some ρ) l)) := by
  have hall : ∀ {l : List AV} {j : Nat} {y : AV}, AV.freshL l = true → l[j]? = some y → y.fresh = true := fun {l j y} hf hj => by
    rw [freshL_all, List.all_eq_true] at hf
    exact hf y (List.mem_of_getElem? hj)
  induction r with
  | bool b => exact ⟨fun _ => .bool b, fun l he => by cases he⟩
  | int k n => exact ⟨fun _ => .int k n, fun l he => by cases he⟩
  | str l => exact ⟨fun _ => .str l, fun l he => by cases he⟩
  | slice0 p cap => exact ⟨fun _ => .slice0 p cap, fun l he _ _ => by cases he; exact .slice0 p cap⟩
  | slice b off cap sz l vs hcap hrow hc hr ih =>
    refine ⟨fun hf => ?_, fun l' he hf hb => ?_⟩
    · have hl : l = [] := by simpa [AV.fresh] using hf
      subst hl
      exact .slice0 _ _
    · injection he with he; subst he
      have hn : ∀ j, j < l.length * sz → n0 ≤ b := fun j hj => hb b off _ _ rfl (flat_ne hrow hj)
      have e := rgLL_len (some ρ) l
      have := Rep.slice (lim := lim') (h := h) b off cap sz (AV.rgLL (some ρ) l) vs (by rw [e]; exact hcap) (fun i r hi => by obtain ⟨y, h1, rfl⟩ := rgLL_get hi; rw [rgL_len]; exact hrow i y h1)
        (by rw [e]; exact fun j hj => ⟨Lim.reg_ok (h1 b (hn j hj)) _, (hc j hj).2⟩)
        (fun i j r x hi hj => by
          obtain ⟨y, h1, rfl⟩ := rgLL_get hi; obtain ⟨z, h2, rfl⟩ := rgL_get hj
          refine (ih i j y z h1 h2).1 (hall (l := y) ?_ h2)
          rw [freshLL_all, List.all_eq_true] at hf
          exact hf y (List.mem_of_getElem? h1))
      rw [e] at this
      exact this
  | agg cs l hl hr ih => exact ⟨fun hf => .agg cs _ (by rw [rgL_len]; exact hl) fun j x hj => by obtain ⟨y, h1, rfl⟩ := rgL_get hj; exact (ih j y h1).1 (hall hf h1), fun l he => by cases he⟩
  | tup cs l hl hr ih => exact ⟨fun hf => .tup cs _ (by rw [rgL_len]; exact hl) fun j x hj => by obtain ⟨y, h1, rfl⟩ := rgL_get hj; exact (ih j y h1).1 (hall hf h1), fun l he => by cases he⟩
  | func f cs l hl hr ih => exact ⟨fun hf => by simp [AV.fresh] at hf, fun l he => by cases he⟩
  | nilFunc => exact ⟨fun _ => .nilFunc, fun l he => by cases he⟩
  | yld l => exact ⟨fun hf => by simp [AV.fresh] at hf, fun l he => by cases he⟩
  | ro b off l vs hc hr ih => exact ⟨fun hf => by simp [AV.fresh] at hf, fun l he => by cases he⟩
  | nilPtr => exact ⟨fun _ => .nilPtr, fun l he => by cases he⟩
  | gp b off => exact ⟨fun hf => by simp [AV.fresh] at hf, fun l he => by cases he⟩
  | iface t v x hx ih => exact ⟨fun hf => by simp [AV.fresh] at hf, fun l he => by cases he⟩
  | nilIface => exact ⟨fun _ => .nilIface, fun l he => by cases he⟩
  | nilS => exact ⟨fun _ => .nilS, fun l he => by cases he⟩
  | bfn f cs l hl hr ih => exact ⟨fun hf => by simp [AV.fresh] at hf, fun l he => by cases he⟩
  | slX p l hx ih => exact ⟨fun hf => by simp [AV.fresh] at hf, fun l he => by cases he⟩
  | anyB b => exact ⟨fun _ => .anyB b, fun l he => by cases he⟩
  | fr r e z v l hx hr ih =>
    refine ⟨fun hf => ?_, fun l he => by cases he⟩
    have hb : ∀ b off n cap, v = .slice (some ⟨b, off, none⟩) n cap → l.length ≠ 0 → n0 ≤ b := fun b off n cap hv hl => by
      rcases hr with h2 | ⟨b', cap', cur, h2, -, -, -, -, h3⟩
      · exact absurd h2 hl
      · rw [h2] at hv
        injection hv with hv; injection hv with hv; injection hv with hv
        subst hv
        rcases Nat.lt_or_ge b' n0 with h4 | h4
        · exact absurd h3 (h0 b' h4 r)
        · exact h4
    refine .fr _ _ _ _ _ (ih.2 l rfl hf fun b off n cap hv hl => hb b off n cap hv fun h0 => hl (by rw [List.length_eq_zero_iff.1 h0]; rfl)) ?_
    rw [rgLL_len]
    rcases hr with h2 | ⟨b', cap', cur, h2, h3, h4, h5, h6, h7⟩
    · exact .inl h2
    · by_cases h8 : l.length = 0
      · exact .inl h8
      · exact .inr ⟨b', cap', cur, h2, h3, h4, h5, h6, h1 b' (hb _ _ _ _ h2 h8)⟩
  | sr r v l hx hr ih =>
    refine ⟨fun hf => ?_, fun l he => by cases he⟩
    have hb : ∀ b off n cap, v = .slice (some ⟨b, off, none⟩) n cap → l.flatten ≠ [] → CellsB h b ∧ n0 ≤ b := fun b off n cap hv hl => by
      obtain ⟨h2, h3⟩ := hr b off n cap hv hl
      rcases Nat.lt_or_ge b n0 with h4 | h4
      · exact absurd h3 (h0 b h4 r)
      · exact ⟨h2, h4⟩
    refine .sr _ _ _ (ih.2 l rfl hf fun b off n cap hv hl => (hb b off n cap hv hl).2) fun b off n cap hv hl => ?_
    obtain ⟨h2, h3⟩ := hb b off n cap hv (fun he => hl (rgLL_flat he))
    exact ⟨h2, h1 b h3⟩
  | any v hv => exact ⟨fun hf => by simp [AV.fresh] at hf, fun l he => by cases he⟩
  | gs b n cap => exact ⟨fun hf => by simp [AV.fresh] at hf, fun l he => by cases he⟩

def GlPlain (gl : Gl) : Prop := ∀ g c, gl.g g = some c → AV.rgL none c = c
theorem GlOk.weak {gl : Gl} {lim lim' : Lim} {h : Array Obj} (hp : GlPlain gl) (hok : ∀ b o, lim.ok b o → lim'.ok b o) (hg : GlOk gl lim h) : GlOk gl lim' h := fun g c hc => by
  obtain ⟨h1, h2⟩ := hg g c hc
  refine ⟨?_, fun hne => ⟨hok _ _ (h2 hne).1, (h2 hne).2⟩⟩
  have := h1.weak hok
  simp only [AV.rg, hp g c hc] at this
  exact this

theorem Valid.region {P : Program} {gl : Gl} {f : FuncId} {args : List AV} {r : AV} (hp : GlPlain gl) (ρ : Nat) (hf : r.fresh = true) (h : Valid P gl f (AV.rgL none args) r) : Valid P gl f args (r.rg (some ρ)) := by
  refine ⟨h.1, fun lim w cargs hgl hargs _ => ?_⟩
  let lim2 : Lim := fun b => if b < w.heap.size then .all else lim b
  have hok : ∀ b o, lim.ok b o → lim2.ok b o := fun b o ho n hn => by
    simp only [lim2] at hn
    split at hn
    · cases hn
    · exact ho n hn
  refine (h.2 lim2 w cargs (hgl.weak hp hok) (hargs.weak hok) (fun b c hb => by cases hb)).mono fun e w' => ?_
  rintro ⟨v, r', sh', lim', rfl, hfr, hl, hrep, -, ⟨rfl, rfl⟩, -, -⟩
  let lim3 : Lim := fun b => if b < w.heap.size then lim b else .reg ρ
  refine ⟨v, _, [], lim3, rfl, hfr, fun b hb => if_pos hb, ?_, fun b c hb => (by cases hb), ⟨rfl, rfl⟩, fun _ h => h, fun b h => (by cases h)⟩
  refine (Rep.mark (n0 := w.heap.size) (lim' := lim3) (fun b hb q => ?_) (fun b hb => if_neg (Nat.not_lt.2 hb)) hrep).1 hf
  rw [hl b hb, show lim2 b = .all from if_pos hb]
  exact fun h => by cases h
theorem Valid.plain {P : Program} {gl : Gl} {f : FuncId} {args : List AV} {r : AV} (h : Valid P gl f args r) : Valid P gl f args (r.rg none) := by
  refine ⟨h.1, fun lim w cargs hgl hargs hs => (h.2 lim w cargs hgl hargs hs).mono fun e w' => ?_⟩
  rintro ⟨v, r', sh', lim', rfl, hfr, hl, hrep, hs', ⟨rfl, rfl⟩, h3, h4⟩
  exact ⟨v, _, [], lim', rfl, hfr, hl, hrep.weak fun _ _ h => h, hs', ⟨rfl, rfl⟩, h3, h4⟩
theorem Valid.plainA {P : Program} {gl : Gl} {f : FuncId} {args : List AV} {r : AV} (h : Valid P gl f (AV.rgL none args) r) : Valid P gl f args r := by
  refine ⟨h.1, fun lim w cargs hgl hargs hs => h.2 lim w cargs hgl (hargs.weak fun _ _ h => h) hs⟩
end Go.Pv
end

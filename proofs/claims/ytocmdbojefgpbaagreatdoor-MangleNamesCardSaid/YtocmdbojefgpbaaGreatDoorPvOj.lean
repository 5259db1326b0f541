import Derived.Test.YtocmdbojefgpbaaGreatDoorPvP
import Derived.Test.YtocmdbojefgpbaaGreatDoorPvOk
set_option linter.all false
section
/- A row of one's own becomes part of a region: nobody appends to it any more. -/
namespace Go.Pv
open Go

theorem RR.retm {cx : Cx} {gh : Gh} {σ : AS} {a : Act} {w : World} (r : RR cx gh σ a w) (t : Nat) {x y : AV} {q : Option (Nat × Nat)} (ht : look t σ.tm = some (.v x q)) (hy : Rep gh.lim w.heap (a.tmps.getD t undef) y) :
    RR cx gh { σ with tm := (t, .v y none) :: σ.tm } a w := by
  have hu : ∀ {g e}, AS.uses { σ with tm := (t, .v y none) :: σ.tm } g e → σ.uses g e := by
    rintro g e (⟨s, z, h⟩ | h)
    · simp only [look] at h
      split at h
      · injection h with h; injection h with h1 h2; cases h2
      · exact .inl ⟨s, z, h⟩
    · exact .inr h
  refine { frm := r.frm, base := r.base, limB := r.limB, size := r.size, ex := r.ex.sub (fun s q h => ?_) rfl rfl, gl := r.gl, tmps := fun s z h => ?_, boxes := r.boxes, inj := r.inj, shs := r.shs, apart := r.apart, tbs := r.tbs, own := fun g e h => r.own g e (hu h), alone := fun g e g' e' h h' => r.alone g e g' e' (hu h) (hu h') }
  · simp only [look] at h
    split at h
    · cases h
    · exact h
  · simp only [look] at h
    split at h
    · rename_i he
      subst he
      injection h with h; subst h
      exact ⟨⟨hy, by simp⟩, fun k off h => by cases h⟩
    · exact r.tmps s z h

theorem RR.recellV {cx : Cx} {gh : Gh} {σ : AS} {a : Act} {w : World} (r : RR cx gh σ a w) (k j : Nat) {x y : AV} {cells : List AV} (hk : look k σ.bx = some cells) (hj : cells[j]? = some x)
    (hxy : ∀ v, cellAt w.heap (gh.bl k) j = some v → Rep gh.lim w.heap v x → Rep gh.lim w.heap v y) : RR cx gh { σ with bx := (k, cells.set j y) :: σ.bx } a w := by
  have hlk : ∀ k', (look k' ((k, cells.set j y) :: σ.bx)).isSome = (look k' σ.bx).isSome := by
    intro k'
    simp only [look]
    split
    · rename_i h; subst h; rw [hk]; rfl
    · rfl
  obtain ⟨hB, hlim, cs, ee, hcs, hrep⟩ := r.boxes k cells hk
  obtain ⟨v, hv, hrv⟩ := hrep.get hj
  have hset : cs.toList.set j v = cs.toList := by
    apply List.ext_getElem?
    intro i
    rw [List.getElem?_set]
    split
    · rename_i he; subst he
      obtain ⟨h2, -⟩ := List.getElem?_eq_some_iff.1 hv
      rw [if_pos h2, hv]
    · rfl
  refine { frm := r.frm, base := r.base, limB := r.limB, size := r.size, ex := r.ex.sub (fun _ _ h => h) rfl rfl, gl := r.gl, tmps := fun t x hx => ⟨(r.tmps t x hx).1, fun k' o h => by rw [hlk]; exact (r.tmps t x hx).2 k' o h⟩, boxes := fun k' c hc => ?_, inj := fun k1 k2 h1 h2 => by rw [hlk] at h1 h2; exact r.inj k1 k2 h1 h2, shs := r.shs, apart := fun b k' h1 h2 => by rw [hlk] at h2; exact r.apart b k' h1 h2, tbs := fun k' i g e h => ⟨by rw [hlk]; exact (r.tbs k' i g e h).1, (r.tbs k' i g e h).2⟩, own := fun g e h => ⟨(r.own g e h).1, fun b hb => ⟨fun k' h' => by rw [hlk] at h'; exact ((r.own g e h).2 b hb).1 k' h', ((r.own g e h).2 b hb).2⟩⟩, alone := r.alone }
  simp only [look] at hc
  split at hc
  · rename_i he; subst he
    injection hc with hc; subst hc
    have hcell : cellAt w.heap (gh.bl k) j = some v := by
      unfold cellAt; rw [hcs]
      simpa using hv
    have := hrep.set j (hxy v hcell hrv)
    rw [hset] at this
    exact ⟨hB, hlim, cs, ee, hcs, this⟩
  · exact r.boxes k' c hc

theorem RR.seal {cx : Cx} {gh : Gh} {σ : AS} {a : Act} {w : World} (r : RR cx gh σ a w) (hgy : cx.gl.y = none) (g e ρ : Nat) (hu : σ.uses g e) :
    ∃ gh', RR cx gh' (σ.purge g) a w ∧ Keep gh.lim w.heap gh'.lim w.heap ∧ gh'.bl = gh.bl ∧ ∀ l, Rep gh.lim w.heap (gh.gv g) (.slice l) → Rep gh'.lim w.heap (gh.gv g) (.fr ρ e (esz cx.P e) l) := by
  obtain ⟨⟨m, xs, ho1, ho2⟩, ho3⟩ := r.own g e hu
  have rp := r.purge g
  let lim' : Lim := fun b => if (gh.gv g).ownBlock = some b then .reg ρ else gh.lim b
  have hl : ∀ {b}, (gh.gv g).ownBlock ≠ some b → lim' b = gh.lim b := fun h => if_neg h
  have hkeep : Keep gh.lim w.heap lim' w.heap := by
    refine ⟨fun b o hb ho => ⟨hb, fun n hn => ?_, rfl⟩, fun b r' _ hr => ⟨?_, rfl⟩⟩
    · by_cases he : (gh.gv g).ownBlock = some b
      · simp only [lim', if_pos he] at hn; cases hn
      · rw [hl he] at hn; exact ho n hn
    · by_cases he : (gh.gv g).ownBlock = some b
      · rw [ho2 b he] at hr; cases hr
      · rw [hl he]; exact hr
  refine ⟨{ gh with lim := lim' }, { frm := rp.frm, base := rp.base, limB := fun b hb => ?_, size := rp.size, ex := rp.ex.step hkeep (Oth.refl w) (.inl hgy), gl := fun g c h => (rp.gl g c h).mono hkeep, tmps := fun t x hx => ?_, boxes := fun k' c hc => ?_, inj := rp.inj, shs := fun b c hb => ?_, apart := rp.apart, tbs := rp.tbs, own := fun g' e' h => ?_, alone := rp.alone }, hkeep, rfl, fun l hv => ?_⟩
  · refine (hl fun he => ?_).trans (rp.limB b hb)
    have := (r.lt_own hu he).2
    omega
  · have h1 := rp.tmps t x hx
    refine ⟨?_, h1.2⟩
    cases x with
    | un => trivial
    | v y q => exact ⟨h1.1.1.mono hkeep, h1.1.2⟩
    | bld l ns => exact ⟨h1.1.1.mono hkeep, h1.1.2⟩
    | lp k off => exact h1.1
    | it k9 => trivial
    | cl f ks => exact h1.1
  · obtain ⟨h1, h2, cs', e', h3, h4⟩ := rp.boxes k' c hc
    exact ⟨h1, (hl fun he => (ho3 _ he).1 k' (by rw [show look k' σ.bx = some c from hc]; rfl) rfl).trans h2, cs', e', h3, h4.mono hkeep⟩
  · obtain ⟨h1, h2, cs', e', h3, h4⟩ := rp.shs b c hb
    exact ⟨h1, (hl fun he => by have := (ho3 b he).2; rw [show look b σ.sh = some c from hb] at this; cases this).trans h2, cs', e', h3, h4.mono hkeep⟩
  · obtain ⟨⟨m', xs', h1, h2⟩, h3⟩ := rp.own g' e' h
    obtain ⟨hu', hne⟩ := AS.uses_purge h
    exact ⟨⟨m', xs', h1, fun b hb => (hl (r.alone g' e' g e hu' hu hne b hb)).trans (h2 b hb)⟩, h3⟩
  · refine .fr _ _ _ _ _ (hv.mono hkeep) ?_
    obtain ⟨p, cap, hp, -⟩ := hv.slice_form
    rcases ho1.2 with ⟨h1, h2⟩ | ⟨b, cap', cur, h1, -, h2, h3, h4, h5, -⟩
    · rw [h1] at hp; injection hp with e1 e2 e3
      exact .inl e2.symm
    · rw [h1] at hp; injection hp with e1 e2 e3
      refine .inr ⟨b, cap', cur, by rw [← e2]; exact h1, h2, by omega, h4, h5, ?_⟩
      show (if (gh.gv g).ownBlock = some b then LV.reg ρ else gh.lim b) = _
      rw [if_pos (by rw [h1]; rfl)]

section
variable {P : Program} {gl : Gl} {σ : AS} {Q : Exit → AS → Prop} {c : Code}
theorem AT_sealT (t g e ρ : Nat) {l : List (List AV)} (hy : gl.y = none) (ht : look t σ.tm = some (.v (.slice l) (some (g, e))))
    (h : AT P gl c { σ.purge g with tm := (t, .v (.fr ρ e (esz P e) l) none) :: (σ.purge g).tm } Q) : AT P gl c σ Q := by
  intro cx ro n a w hP hg hro r
  obtain ⟨gh, r⟩ := r
  obtain ⟨gh', r', hk, -, hf⟩ := r.seal (by rw [hg]; exact hy) g e ρ (.inl ⟨t, _, ht⟩)
  have h1 := (r.tmps t _ ht).1
  have ht' : look t (σ.purge g).tm = some (.v (.slice l) none) := by
    rw [show (σ.purge g).tm = σ.tm.map fun p => (p.1, p.2.untag g) from rfl, look_map, ht]
    simp [TV.untag]
  have h2 := hf l (by have := h1.1; rw [h1.2 _ rfl] at this; exact this)
  rw [hP] at h2
  exact h cx ro n a w hP hg hro ⟨gh', r'.retm t ht' (by rw [h1.2 _ rfl]; exact h2)⟩
theorem AT_sealB (k j g e ρ : Nat) {l : List (List AV)} {cells : List AV} (hy : gl.y = none) (hk : look k σ.bx = some cells) (hj : cells[j]? = some (.slice l)) (ht : (k, j, g, e) ∈ σ.tb)
    (h : AT P gl c { σ.purge g with bx := (k, cells.set j (.fr ρ e (esz P e) l)) :: σ.bx } Q) : AT P gl c σ Q := by
  intro cx ro n a w hP hg hro r
  obtain ⟨gh, r⟩ := r
  obtain ⟨gh', r', hkp, hbl, hf⟩ := r.seal (by rw [hg]; exact hy) g e ρ (.inr ⟨k, j, ht⟩)
  have h1 := (r.tbs k j g e ht).2
  obtain ⟨-, -, cs, ee, hcs, hrep⟩ := r.boxes k cells hk
  obtain ⟨v, hv, hrv⟩ := hrep.get hj
  have hcell : cellAt w.heap (gh.bl k) j = some v := by
    unfold cellAt; rw [hcs]
    simpa using hv
  have hvg : v = gh.gv g := by rw [hcell] at h1; injection h1
  have h2 := hf l (by rw [← hvg]; exact hrv)
  rw [hP] at h2
  have r2 := r'.recellV k j (y := .fr ρ e (esz P e) l) (show look k (σ.purge g).bx = some cells from hk) hj fun u hu _ => by
    rw [hbl, hcell] at hu
    injection hu with hu
    rw [← hu, hvg]; exact h2
  exact h cx ro n a w hP hg hro ⟨gh', r2⟩
end
end Go.Pv
end

section
/- Regions: marks left out, marks changed. -/
namespace Go.Pv
open Go

mutual
def AV.rg (k : Option Nat) : AV → AV
  | .slice l => .slice (AV.rgLL k l)
  | .slX l => .slX (AV.rgLL k l)
  | .fr _ e z l => match k with | none => .slice (AV.rgLL k l) | some r => .fr r e z (AV.rgLL k l)
  | .sr _ l => match k with | none => .slice (AV.rgLL k l) | some r => .sr r (AV.rgLL k l)
  | .agg l => .agg (AV.rgL k l)
  | .tup l => .tup (AV.rgL k l)
  | .func f l => .func f (AV.rgL k l)
  | .bfn f l => .bfn f (AV.rgL k l)
  | .ro l => .ro (AV.rgL k l)
  | .iface t x => .iface t (AV.rg k x)
  | .bool b => .bool b
  | .int a n => .int a n
  | .str s => .str s
  | .nilFunc => .nilFunc
  | .yld l => .yld l
  | .nilPtr => .nilPtr
  | .gp b o => .gp b o
  | .nilIface => .nilIface
  | .nilS => .nilS
  | .anyB => .anyB
  | .any => .any
  | .gs b n c => .gs b n c
def AV.rgL (k : Option Nat) : List AV → List AV
  | [] => []
  | x :: r => AV.rg k x :: AV.rgL k r
def AV.rgLL (k : Option Nat) : List (List AV) → List (List AV)
  | [] => []
  | x :: r => AV.rgL k x :: AV.rgLL k r
end
mutual
def AV.fresh : AV → Bool
  | .slice l => l.isEmpty
  | .fr _ _ _ l => AV.freshLL l
  | .sr _ l => AV.freshLL l
  | .agg l => AV.freshL l
  | .tup l => AV.freshL l
  | .bool _ | .int _ _ | .str _ | .nilS | .anyB | .nilPtr | .nilFunc | .nilIface => true
  | _ => false
def AV.freshL : List AV → Bool
  | [] => true
  | x :: r => AV.fresh x && AV.freshL r
def AV.freshLL : List (List AV) → Bool
  | [] => true
  | x :: r => AV.freshL x && AV.freshLL r
end
theorem rgL_map (k : Option Nat) (l : List AV) : AV.rgL k l = l.map (AV.rg k) := by
  induction l with
  | nil => rfl
  | cons x r ih => simp [AV.rgL, ih]
theorem rgLL_map (k : Option Nat) (l : List (List AV)) : AV.rgLL k l = l.map (AV.rgL k) := by
  induction l with
  | nil => rfl
  | cons x r ih => simp [AV.rgLL, ih]
theorem rgLL_len (k : Option Nat) (l : List (List AV)) : (AV.rgLL k l).length = l.length := by rw [rgLL_map, List.length_map]
theorem rgL_len (k : Option Nat) (l : List AV) : (AV.rgL k l).length = l.length := by rw [rgL_map, List.length_map]
theorem freshL_all (l : List AV) : AV.freshL l = l.all AV.fresh := by
  induction l with
  | nil => rfl
  | cons x r ih => simp [AV.freshL, ih]
theorem freshLL_all (l : List (List AV)) : AV.freshLL l = l.all AV.freshL := by
  induction l with
  | nil => rfl
  | cons x r ih => simp [AV.freshLL, ih]
theorem rgL_get {k : Option Nat} {l : List AV} {j : Nat} {x : AV} (h : (AV.rgL k l)[j]? = some x) : ∃ y, l[j]? = some y ∧ x = AV.rg k y := by
  rw [rgL_map, List.getElem?_map] at h
  obtain ⟨y, h1, h2⟩ := Option.map_eq_some_iff.1 h
  exact ⟨y, h1, h2.symm⟩
theorem rgLL_get {k : Option Nat} {l : List (List AV)} {j : Nat} {x : List AV} (h : (AV.rgLL k l)[j]? = some x) : ∃ y, l[j]? = some y ∧ x = AV.rgL k y := by
  rw [rgLL_map, List.getElem?_map] at h
  obtain ⟨y, h1, h2⟩ := Option.map_eq_some_iff.1 h
  exact ⟨y, h1, h2.symm⟩

theorem flat_len_rows {sz : Nat} : ∀ {l : List (List AV)}, (∀ (i : Nat) (r : List AV), l[i]? = some r → r.length = sz) → l.flatten.length = l.length * sz
  | [], _ => by simp
  | a :: l, h => by
    have h1 := flat_len_rows (l := l) (fun i r hr => h (i + 1) r (by simpa using hr))
    have h2 := h 0 a rfl
    rw [List.flatten_cons, List.length_append, h1, h2, List.length_cons, Nat.add_mul]; omega
theorem flat_ne {sz : Nat} {l : List (List AV)} (h : ∀ (i : Nat) (r : List AV), l[i]? = some r → r.length = sz) {j : Nat} (hj : j < l.length * sz) : l.flatten ≠ [] := fun he => by
  have := flat_len_rows h
  rw [he] at this
  simp at this
  rw [← this] at hj
  omega
theorem rgLL_flat {k : Option Nat} : ∀ {l : List (List AV)}, l.flatten = [] → (AV.rgLL k l).flatten = []
  | [], _ => rfl
  | a :: l, h => by
    simp only [List.flatten_cons, List.append_eq_nil_iff] at h
    simp only [AV.rgLL, List.flatten_cons, List.append_eq_nil_iff]
    exact ⟨by rw [h.1]; rfl, rgLL_flat h.2⟩

theorem Rep.weak {lim lim' : Lim} {h : Array Obj} (hok : ∀ b o, lim.ok b o → lim'.ok b o) {v : Value} {x : AV} (r : Rep lim h v x) : Rep lim' h v (x.rg none) := by
  induction r with
  | bool b => exact .bool b
  | int k n => exact .int k n
  | str l => exact .str l
  | slice0 p cap => exact .slice0 p cap
  | slice b off cap sz l vs hcap hrow hc hr ih =>
    have e := rgLL_len none l
    have := Rep.slice (lim := lim') (h := h) b off cap sz (AV.rgLL none l) vs (by rw [e]; exact hcap) (fun i r hi => by obtain ⟨y, h1, rfl⟩ := rgLL_get hi; rw [rgL_len]; exact hrow i y h1) (by rw [e]; exact fun j hj => ⟨hok _ _ (hc j hj).1, (hc j hj).2⟩)
      (fun i j r x hi hj => by obtain ⟨y, h1, rfl⟩ := rgLL_get hi; obtain ⟨z, h2, rfl⟩ := rgL_get hj; exact ih i j y z h1 h2)
    rw [e] at this
    exact this
  | agg cs l hl hr ih => exact .agg cs _ (by rw [rgL_len]; exact hl) fun j x hj => by obtain ⟨y, h1, rfl⟩ := rgL_get hj; exact ih j y h1
  | tup cs l hl hr ih => exact .tup cs _ (by rw [rgL_len]; exact hl) fun j x hj => by obtain ⟨y, h1, rfl⟩ := rgL_get hj; exact ih j y h1
  | func f cs l hl hr ih => exact .func f cs _ (by rw [rgL_len]; exact hl) fun j x hj => by obtain ⟨y, h1, rfl⟩ := rgL_get hj; exact ih j y h1
  | nilFunc => exact .nilFunc
  | yld l => exact .yld l
  | ro b off l vs hc hr ih => exact .ro b off _ vs (by rw [rgL_len]; exact fun j hj => ⟨hok _ _ (hc j hj).1, (hc j hj).2⟩) fun j x hj => by obtain ⟨y, h1, rfl⟩ := rgL_get hj; exact ih j y h1
  | nilPtr => exact .nilPtr
  | gp b off => exact .gp b off
  | iface t v x hx ih => exact .iface t v _ ih
  | nilIface => exact .nilIface
  | nilS => exact .nilS
  | bfn f cs l hl hr ih => exact .bfn f cs _ (by rw [rgL_len]; exact hl) fun j x hj => by obtain ⟨y, h1, rfl⟩ := rgL_get hj; exact ih j y h1
  | slX p l hx ih =>
    have := Rep.slX (lim := lim') (h := h) p (AV.rgLL none l) (by rw [rgLL_len]; exact ih)
    rw [rgLL_len] at this
    exact this
  | anyB b => exact .anyB b
  | fr r e z v l hx hr ih => exact ih
  | sr r v l hx hr ih => exact ih
  | any v hv => exact .any v hv
  | gs b n cap => exact .gs b n cap
theorem RepL.weak {lim lim' : Lim} {h : Array Obj} (hok : ∀ b o, lim.ok b o → lim'.ok b o) {vs : List Value} {l : List AV} (r : RepL lim h vs l) : RepL lim' h vs (AV.rgL none l) :=
  ⟨by rw [rgL_len]; exact r.1, fun j x hj => by obtain ⟨y, h1, rfl⟩ := rgL_get hj; exact (r.2 j y h1).weak hok⟩

theorem Rep.mark {lim lim' : Lim} {h : Array Obj} {n0 ρ : Nat} (h0 : ∀ b, b < n0 → ∀ r, lim b ≠ .reg r) (h1 : ∀ b, n0 ≤ b → lim' b = .reg ρ) {v : Value} {x : AV} (r : Rep lim h v x) :
    (x.fresh = true → Rep lim' h v (x.rg (some ρ))) ∧ ∀ l, x = .slice l → AV.freshLL l = true → (∀ b off n cap, v = .slice (some ⟨b, off, none⟩) n cap → l.flatten ≠ [] → n0 ≤ b) → Rep lim' h v (.slice (AV.rgLL (some ρ) l)) := by
  have hall : ∀ {l : List AV} {j : Nat} {y : AV}, AV.freshL l = true → l[j]? = some y → y.fresh = true := fun {l j y} hf hj => by
    rw [freshL_all, List.all_eq_true] at hf
    exact hf y (List.mem_of_getElem? hj)
  induction r with
  | bool b => exact ⟨fun _ => .bool b, fun l he => by cases he⟩
  | int k n => exact ⟨fun _ => .int k n, fun l he => by cases he⟩
  | str l => exact ⟨fun _ => .str l, fun l he => by cases he⟩
  | slice0 p cap => exact ⟨fun _ => .slice0 p cap, fun l he _ _ => by cases he; exact .slice0 p cap⟩
  | slice b off cap sz l vs hcap hrow hc hr ih =>
    refine ⟨fun hf => ?_, fun l' he hf hb => ?_⟩
    · have hl : l = [] := by simpa [AV.fresh] using hf
      subst hl
      exact .slice0 _ _
    · injection he with he; subst he
      have hn : ∀ j, j < l.length * sz → n0 ≤ b := fun j hj => hb b off _ _ rfl (flat_ne hrow hj)
      have e := rgLL_len (some ρ) l
      have := Rep.slice (lim := lim') (h := h) b off cap sz (AV.rgLL (some ρ) l) vs (by rw [e]; exact hcap) (fun i r hi => by obtain ⟨y, h1, rfl⟩ := rgLL_get hi; rw [rgL_len]; exact hrow i y h1)
        (by rw [e]; exact fun j hj => ⟨Lim.reg_ok (h1 b (hn j hj)) _, (hc j hj).2⟩)
        (fun i j r x hi hj => by
          obtain ⟨y, h1, rfl⟩ := rgLL_get hi; obtain ⟨z, h2, rfl⟩ := rgL_get hj
          refine (ih i j y z h1 h2).1 (hall (l := y) ?_ h2)
          rw [freshLL_all, List.all_eq_true] at hf
          exact hf y (List.mem_of_getElem? h1))
      rw [e] at this
      exact this
  | agg cs l hl hr ih => exact ⟨fun hf => .agg cs _ (by rw [rgL_len]; exact hl) fun j x hj => by obtain ⟨y, h1, rfl⟩ := rgL_get hj; exact (ih j y h1).1 (hall hf h1), fun l he => by cases he⟩
  | tup cs l hl hr ih => exact ⟨fun hf => .tup cs _ (by rw [rgL_len]; exact hl) fun j x hj => by obtain ⟨y, h1, rfl⟩ := rgL_get hj; exact (ih j y h1).1 (hall hf h1), fun l he => by cases he⟩
  | func f cs l hl hr ih => exact ⟨fun hf => by simp [AV.fresh] at hf, fun l he => by cases he⟩
  | nilFunc => exact ⟨fun _ => .nilFunc, fun l he => by cases he⟩
  | yld l => exact ⟨fun hf => by simp [AV.fresh] at hf, fun l he => by cases he⟩
  | ro b off l vs hc hr ih => exact ⟨fun hf => by simp [AV.fresh] at hf, fun l he => by cases he⟩
  | nilPtr => exact ⟨fun _ => .nilPtr, fun l he => by cases he⟩
  | gp b off => exact ⟨fun hf => by simp [AV.fresh] at hf, fun l he => by cases he⟩
  | iface t v x hx ih => exact ⟨fun hf => by simp [AV.fresh] at hf, fun l he => by cases he⟩
  | nilIface => exact ⟨fun _ => .nilIface, fun l he => by cases he⟩
  | nilS => exact ⟨fun _ => .nilS, fun l he => by cases he⟩
  | bfn f cs l hl hr ih => exact ⟨fun hf => by simp [AV.fresh] at hf, fun l he => by cases he⟩
  | slX p l hx ih => exact ⟨fun hf => by simp [AV.fresh] at hf, fun l he => by cases he⟩
  | anyB b => exact ⟨fun _ => .anyB b, fun l he => by cases he⟩
  | fr r e z v l hx hr ih =>
    refine ⟨fun hf => ?_, fun l he => by cases he⟩
    have hb : ∀ b off n cap, v = .slice (some ⟨b, off, none⟩) n cap → l.length ≠ 0 → n0 ≤ b := fun b off n cap hv hl => by
      rcases hr with h2 | ⟨b', cap', cur, h2, -, -, -, -, h3⟩
      · exact absurd h2 hl
      · rw [h2] at hv
        injection hv with hv; injection hv with hv; injection hv with hv
        subst hv
        rcases Nat.lt_or_ge b' n0 with h4 | h4
        · exact absurd h3 (h0 b' h4 r)
        · exact h4
    refine .fr _ _ _ _ _ (ih.2 l rfl hf fun b off n cap hv hl => hb b off n cap hv fun h0 => hl (by rw [List.length_eq_zero_iff.1 h0]; rfl)) ?_
    rw [rgLL_len]
    rcases hr with h2 | ⟨b', cap', cur, h2, h3, h4, h5, h6, h7⟩
    · exact .inl h2
    · by_cases h8 : l.length = 0
      · exact .inl h8
      · exact .inr ⟨b', cap', cur, h2, h3, h4, h5, h6, h1 b' (hb _ _ _ _ h2 h8)⟩
  | sr r v l hx hr ih =>
    refine ⟨fun hf => ?_, fun l he => by cases he⟩
    have hb : ∀ b off n cap, v = .slice (some ⟨b, off, none⟩) n cap → l.flatten ≠ [] → CellsB h b ∧ n0 ≤ b := fun b off n cap hv hl => by
      obtain ⟨h2, h3⟩ := hr b off n cap hv hl
      rcases Nat.lt_or_ge b n0 with h4 | h4
      · exact absurd h3 (h0 b h4 r)
      · exact ⟨h2, h4⟩
    refine .sr _ _ _ (ih.2 l rfl hf fun b off n cap hv hl => (hb b off n cap hv hl).2) fun b off n cap hv hl => ?_
    obtain ⟨h2, h3⟩ := hb b off n cap hv (fun he => hl (rgLL_flat he))
    exact ⟨h2, h1 b h3⟩
  | any v hv => exact ⟨fun hf => by simp [AV.fresh] at hf, fun l he => by cases he⟩
  | gs b n cap => exact ⟨fun hf => by simp [AV.fresh] at hf, fun l he => by cases he⟩

def GlPlain (gl : Gl) : Prop := ∀ g c, gl.g g = some c → AV.rgL none c = c
theorem GlOk.weak {gl : Gl} {lim lim' : Lim} {h : Array Obj} (hp : GlPlain gl) (hok : ∀ b o, lim.ok b o → lim'.ok b o) (hg : GlOk gl lim h) : GlOk gl lim' h := fun g c hc => by
  obtain ⟨h1, h2⟩ := hg g c hc
  refine ⟨?_, fun hne => ⟨hok _ _ (h2 hne).1, (h2 hne).2⟩⟩
  have := h1.weak hok
  simp only [AV.rg, hp g c hc] at this
  exact this

theorem Valid.region {P : Program} {gl : Gl} {f : FuncId} {args : List AV} {r : AV} (hp : GlPlain gl) (ρ : Nat) (hf : r.fresh = true) (h : Valid P gl f (AV.rgL none args) r) : Valid P gl f args (r.rg (some ρ)) := by
  refine ⟨h.1, fun lim w cargs hgl hargs _ => ?_⟩
  let lim2 : Lim := fun b => if b < w.heap.size then .all else lim b
  have hok : ∀ b o, lim.ok b o → lim2.ok b o := fun b o ho n hn => by
    simp only [lim2] at hn
    split at hn
    · cases hn
    · exact ho n hn
  refine (h.2 lim2 w cargs (hgl.weak hp hok) (hargs.weak hok) (fun b c hb => by cases hb)).mono fun e w' => ?_
  rintro ⟨v, r', sh', lim', rfl, hfr, hl, hrep, -, ⟨rfl, rfl⟩, -, -⟩
  let lim3 : Lim := fun b => if b < w.heap.size then lim b else .reg ρ
  refine ⟨v, _, [], lim3, rfl, hfr, fun b hb => if_pos hb, ?_, fun b c hb => (by cases hb), ⟨rfl, rfl⟩, fun _ h => h, fun b h => (by cases h)⟩
  refine (Rep.mark (n0 := w.heap.size) (lim' := lim3) (fun b hb q => ?_) (fun b hb => if_neg (Nat.not_lt.2 hb)) hrep).1 hf
  rw [hl b hb, show lim2 b = .all from if_pos hb]
  exact fun h => by cases h
theorem Valid.plain {P : Program} {gl : Gl} {f : FuncId} {args : List AV} {r : AV} (h : Valid P gl f args r) : Valid P gl f args (r.rg none) := by
  refine ⟨h.1, fun lim w cargs hgl hargs hs => (h.2 lim w cargs hgl hargs hs).mono fun e w' => ?_⟩
  rintro ⟨v, r', sh', lim', rfl, hfr, hl, hrep, hs', ⟨rfl, rfl⟩, h3, h4⟩
  exact ⟨v, _, [], lim', rfl, hfr, hl, hrep.weak fun _ _ h => h, hs', ⟨rfl, rfl⟩, h3, h4⟩
end Go.Pv
end

section
/- A region is given up: who writes into it may. -/
namespace Go.Pv
open Go

mutual
def AV.off (ρ : Nat) : AV → Bool
  | .slice l => l.isEmpty
  | .fr r _ _ l => r != ρ && AV.offLL ρ l
  | .sr r l => r != ρ && AV.offLL ρ l
  | .agg l => AV.offL ρ l
  | .tup l => AV.offL ρ l
  | .bool _ | .int _ _ | .str _ | .nilS | .anyB | .nilPtr | .nilFunc | .nilIface | .gp _ _ | .any | .gs _ _ _ => true
  | _ => false
def AV.offL (ρ : Nat) : List AV → Bool
  | [] => true
  | x :: r => AV.off ρ x && AV.offL ρ r
def AV.offLL (ρ : Nat) : List (List AV) → Bool
  | [] => true
  | x :: r => AV.offL ρ x && AV.offLL ρ r
end
theorem offL_all (ρ : Nat) (l : List AV) : AV.offL ρ l = l.all (AV.off ρ) := by
  induction l with
  | nil => rfl
  | cons x r ih => simp [AV.offL, ih]
theorem offLL_all (ρ : Nat) (l : List (List AV)) : AV.offLL ρ l = l.all (AV.offL ρ) := by
  induction l with
  | nil => rfl
  | cons x r ih => simp [AV.offLL, ih]

theorem Rep.off {lim lim' : Lim} {h h' : Array Obj} {ρ : Nat} (hk : ∀ b r, CellsB h b → r ≠ ρ → lim b = .reg r → lim' b = .reg r ∧ h'[b]? = h[b]?) {v : Value} {x : AV} (r : Rep lim h v x) :
    (x.off ρ = true → Rep lim' h' v x) ∧ ∀ l, x = .slice l → AV.offLL ρ l = true → (∀ b off n cap, v = .slice (some ⟨b, off, none⟩) n cap → l.flatten ≠ [] → ∃ r, CellsB h b ∧ r ≠ ρ ∧ lim b = .reg r) → Rep lim' h' v (.slice l) := by
  have hall : ∀ {l : List AV} {j : Nat} {y : AV}, AV.offL ρ l = true → l[j]? = some y → y.off ρ = true := fun {l j y} hf hj => by
    rw [offL_all, List.all_eq_true] at hf
    exact hf y (List.mem_of_getElem? hj)
  induction r with
  | bool b => exact ⟨fun _ => .bool b, fun l he => by cases he⟩
  | int k n => exact ⟨fun _ => .int k n, fun l he => by cases he⟩
  | str l => exact ⟨fun _ => .str l, fun l he => by cases he⟩
  | slice0 p cap => exact ⟨fun _ => .slice0 p cap, fun l he _ _ => by cases he; exact .slice0 p cap⟩
  | slice b off cap sz l vs hcap hrow hc hr ih =>
    refine ⟨fun hf => ?_, fun l' he hf hb => ?_⟩
    · have hl : l = [] := by simpa [AV.off] using hf
      subst hl
      exact .slice0 _ _
    · injection he with he; subst he
      exact .slice b off cap sz l vs hcap hrow (fun j hj => by
          obtain ⟨r', hcb, hr', hlb⟩ := hb b off _ _ rfl (flat_ne hrow hj)
          obtain ⟨k1, k2⟩ := hk b r' hcb hr' hlb
          exact ⟨Lim.reg_ok k1 _, by have := (hc j hj).2; unfold cellAt at this ⊢; rw [k2]; exact this⟩)
        (fun i j r x hi hj => by
          refine (ih i j r x hi hj).1 (hall (l := r) ?_ hj)
          rw [offLL_all, List.all_eq_true] at hf
          exact hf r (List.mem_of_getElem? hi))
  | agg cs l hl hr ih => exact ⟨fun hf => .agg cs _ hl fun j x hj => (ih j x hj).1 (hall hf hj), fun l he => by cases he⟩
  | tup cs l hl hr ih => exact ⟨fun hf => .tup cs _ hl fun j x hj => (ih j x hj).1 (hall hf hj), fun l he => by cases he⟩
  | func f cs l hl hr ih => exact ⟨fun hf => by simp [AV.off] at hf, fun l he => by cases he⟩
  | nilFunc => exact ⟨fun _ => .nilFunc, fun l he => by cases he⟩
  | yld l => exact ⟨fun hf => by simp [AV.off] at hf, fun l he => by cases he⟩
  | ro b off l vs hc hr ih => exact ⟨fun hf => by simp [AV.off] at hf, fun l he => by cases he⟩
  | nilPtr => exact ⟨fun _ => .nilPtr, fun l he => by cases he⟩
  | gp b off => exact ⟨fun _ => .gp b off, fun l he => by cases he⟩
  | iface t v x hx ih => exact ⟨fun hf => by simp [AV.off] at hf, fun l he => by cases he⟩
  | nilIface => exact ⟨fun _ => .nilIface, fun l he => by cases he⟩
  | nilS => exact ⟨fun _ => .nilS, fun l he => by cases he⟩
  | bfn f cs l hl hr ih => exact ⟨fun hf => by simp [AV.off] at hf, fun l he => by cases he⟩
  | slX p l hx ih => exact ⟨fun hf => by simp [AV.off] at hf, fun l he => by cases he⟩
  | anyB b => exact ⟨fun _ => .anyB b, fun l he => by cases he⟩
  | fr r e z v l hx hr ih =>
    refine ⟨fun hf => ?_, fun l he => by cases he⟩
    simp only [AV.off, Bool.and_eq_true, bne_iff_ne, ne_eq] at hf
    have hb : ∀ b off n cap, v = .slice (some ⟨b, off, none⟩) n cap → l.length ≠ 0 → ∃ r, CellsB h b ∧ r ≠ ρ ∧ lim b = .reg r := fun b off n cap hv hl => by
      rcases hr with h2 | ⟨b', cap', cur, h2, hcb, -, -, -, h3⟩
      · exact absurd h2 hl
      · rw [h2] at hv
        injection hv with hv; injection hv with hv; injection hv with hv
        subst hv
        exact ⟨r, ⟨_, _, _, hcb⟩, hf.1, h3⟩
    refine .fr _ _ _ _ _ (ih.2 l rfl hf.2 fun b off n cap hv hl => hb b off n cap hv fun h0 => hl (by rw [List.length_eq_zero_iff.1 h0]; rfl)) ?_
    rcases hr with h2 | ⟨b', cap', cur, h2, h3, h4, h5, h6, h7⟩
    · exact .inl h2
    · obtain ⟨k1, k2⟩ := hk b' r ⟨_, _, _, h3⟩ hf.1 h7
      exact .inr ⟨b', cap', cur, h2, k2.trans h3, h4, h5, h6, k1⟩
  | sr r v l hx hr ih =>
    refine ⟨fun hf => ?_, fun l he => by cases he⟩
    simp only [AV.off, Bool.and_eq_true, bne_iff_ne, ne_eq] at hf
    refine .sr _ _ _ (ih.2 l rfl hf.2 fun b off n cap hv hl => ⟨r, (hr b off n cap hv hl).1, hf.1, (hr b off n cap hv hl).2⟩) fun b off n cap hv hl => ?_
    obtain ⟨h1, h2⟩ := hr b off n cap hv hl
    obtain ⟨k1, k2⟩ := hk b r h1 hf.1 h2
    obtain ⟨cs, e, z, hcb⟩ := h1
    exact ⟨⟨cs, e, z, k2.trans hcb⟩, k1⟩
  | any v hv => exact ⟨fun _ => .any v hv, fun l he => by cases he⟩
  | gs b n cap => exact ⟨fun _ => .gs b n cap, fun l he => by cases he⟩

def AV.kill (ρ : Nat) (x : AV) : AV := if x.off ρ then x else .any
def TV.kill (ρ : Nat) : TV → TV
  | .v x _ => if x.off ρ then .v x none else .un
  | .lp k o => .lp k o
  | _ => .un
def AS.kill (ρ b0 : Nat) (σ : AS) : AS :=
  { σ with tm := σ.tm.map fun p => (p.1, p.2.kill ρ), bx := σ.bx.map fun p => (p.1, p.2.map (AV.kill ρ)), tb := [], sh := (σ.sh.filter fun p => !(p.1 == b0)).map fun p => (p.1, p.2.map (AV.kill ρ)) }
def AS.killOk (ρ : Nat) (σ : AS) : Bool := (σ.bx.all fun p => p.2.all fun x => x.off ρ || x.one) && (σ.sh.all fun p => p.2.all fun x => x.off ρ || x.one)

theorem look_all {α : Type} {p : Nat × α → Bool} : ∀ {l : List (Nat × α)}, l.all p = true → ∀ {k : Nat} {x : α}, look k l = some x → p (k, x) = true
  | [], _, _, _, h => by cases h
  | (j, y) :: r, h, k, x, hx => by
    simp only [List.all_cons, Bool.and_eq_true] at h
    simp only [look] at hx
    split at hx
    · rename_i he; subst he; injection hx with hx; subst hx; exact h.1
    · exact look_all h.2 hx

theorem look_filter_ne' {α : Type} {b0 : Nat} : ∀ (l : List (Nat × α)) (k : Nat), look k (l.filter fun p => !(p.1 == b0)) = if k = b0 then none else look k l
  | [], k => by simp [look]
  | (j, y) :: r, k => by
    simp only [List.filter_cons]
    by_cases hj : j = b0
    · subst hj
      simp only [beq_self_eq_true, Bool.not_true, Bool.false_eq_true, if_false]
      rw [look_filter_ne' r k]
      by_cases hk : k = j
      · simp [hk]
      · simp only [look, if_neg hk, if_neg (Ne.symm hk)]
    · simp only [beq_iff_eq, hj, not_false_eq_true, Bool.not_eq_true', decide_eq_true_eq, if_true, look, show (j == b0) = false by simpa using hj, Bool.not_false]
      rw [look_filter_ne' r k]
      by_cases hk : k = b0
      · subst hk; simp [hj]
      · simp [hk]

theorem RR.kill {cx : Cx} {gh : Gh} {σ : AS} {a : Act} {w w' : World} (r : RR cx gh σ a w) (htop : cx.gl.top = true) (hgy : cx.gl.y = none) (ρ b0 : Nat) (h0 : (look b0 σ.sh).isSome = true) (hok : σ.killOk ρ = true) (hmk : σ.mks = 0)
    (hos : w'.os = w.os) (htape : w'.tape = w.tape) (hout : w'.output = w.output) (hsz : w.heap.size ≤ w'.heap.size) (hoth : Oth w w')
    (hsame : ∀ b, b < w.heap.size → b ≠ b0 → ¬ (cx.B ≤ b ∧ gh.lim b = .reg ρ) → w'.heap[b]? = w.heap[b]?) :
    ∃ gh', RR cx gh' (σ.kill ρ b0) a w' := by
  obtain ⟨ht1, ht2, ht3⟩ := r.ex.top htop
  let lim' : Lim := fun b => if cx.B ≤ b ∧ gh.lim b = .reg ρ then .upto 0 else gh.lim b
  have hlt : ∀ {b : Nat} {o : Obj}, w.heap[b]? = some o → b < w.heap.size := fun h => (Array.getElem?_eq_some_iff.1 h).1
  obtain ⟨c0, hc0⟩ := Option.isSome_iff_exists.1 h0
  obtain ⟨hs0, hl0, cs0, e0, hcs0, -⟩ := r.shs b0 c0 hc0
  have hS0 : b0 < cx.B → cx.S b0 := fun h => hs0.resolve_right (by omega)
  have hlB : ∀ {b}, b < cx.B → lim' b = gh.lim b := fun h => if_neg (by omega)
  have hl : ∀ {b}, gh.lim b ≠ .reg ρ → lim' b = gh.lim b := fun h => if_neg (by simp [h])
  have hreg : ∀ b q, CellsB w.heap b → q ≠ ρ → gh.lim b = .reg q → lim' b = .reg q ∧ w'.heap[b]? = w.heap[b]? := fun b q ⟨cs, e, z, hcb⟩ hq hb => by
    have hne : gh.lim b ≠ .reg ρ := by rw [hb]; intro h; injection h with h; exact hq h
    exact ⟨(hl hne).trans hb, hsame b (hlt hcb) (fun he => by rw [he, hl0] at hb; cases hb) (fun h => hne h.2)⟩
  have hoff : ∀ {v : Value} {x : AV}, Rep gh.lim w.heap v x → x.off ρ = true → Rep lim' w'.heap v x := fun hr hx => (Rep.off hreg hr).1 hx
  have hkeep : Keep cx.lim cx.w0.heap lim' w'.heap := by
    refine ⟨fun b o hc ho => ?_, fun b q hc hq => ?_⟩
    · obtain ⟨cs, e, z, hcb⟩ := hc
      have hbB : b < cx.B := Nat.lt_of_lt_of_le (Array.getElem?_eq_some_iff.1 hcb).1 ht1
      obtain ⟨⟨cs1, e1, z1, k1⟩, k2, k3⟩ := r.ex.keep.1 b o ⟨cs, e, z, hcb⟩ ho
      have hne : b ≠ b0 := fun he => by
        subst he
        rw [r.limB b hbB] at hl0
        exact absurd (ho 0 hl0) (Nat.not_lt_zero _)
      have hs := hsame b (hlt k1) hne (fun h => by omega)
      refine ⟨⟨cs1, e1, z1, hs.trans k1⟩, fun n hn => k2 n (by rw [← hlB hbB]; exact hn), ?_⟩
      rw [← k3]; unfold cellAt; rw [hs]
    · obtain ⟨cs, e, z, hcb⟩ := hc
      have hbB : b < cx.B := Nat.lt_of_lt_of_le (Array.getElem?_eq_some_iff.1 hcb).1 ht1
      obtain ⟨k1, k2⟩ := r.ex.keep.2 b q ⟨cs, e, z, hcb⟩ hq
      have hs := hsame b (hlt (k2.trans hcb)) (fun he => by rw [he, hl0] at k1; cases k1) (fun h => by omega)
      exact ⟨(hlB hbB).trans k1, hs.trans k2⟩
  have hnu : ∀ g e, ¬ AS.uses (σ.kill ρ b0) g e := by
    rintro g e (⟨t, x, h⟩ | ⟨k, j, h⟩)
    · rw [show (σ.kill ρ b0).tm = σ.tm.map fun p => (p.1, p.2.kill ρ) from rfl, look_map] at h
      obtain ⟨y, -, he⟩ := Option.map_eq_some_iff.1 h
      cases y <;> simp only [TV.kill] at he <;> first | cases he | (split at he <;> cases he)
    · cases h
  have hbx : ∀ k, (look k (σ.kill ρ b0).bx).isSome = (look k σ.bx).isSome := fun k => by
    rw [show (σ.kill ρ b0).bx = σ.bx.map fun p => (p.1, p.2.map (AV.kill ρ)) from rfl, look_map]; simp
  have hcells : ∀ {vs : List Value} {l : List AV}, RepL gh.lim w.heap vs l → (l.all fun x => x.off ρ || x.one) = true → RepL lim' w'.heap vs (l.map (AV.kill ρ)) := fun {vs l} hr ha => by
    refine ⟨by rw [List.length_map]; exact hr.1, fun j x hx => ?_⟩
    rw [List.getElem?_map] at hx
    obtain ⟨y, hy, rfl⟩ := Option.map_eq_some_iff.1 hx
    have h1 := hr.2 j y hy
    have h2 := List.all_eq_true.1 ha y (List.mem_of_getElem? hy)
    unfold AV.kill
    split
    · rename_i ho; exact hoff h1 ho
    · rename_i ho
      simp only [ho, Bool.false_or] at h2
      exact .any _ (h1.oneCell (by simpa using h2))
  simp only [AS.killOk, Bool.and_eq_true] at hok
  have hshl : ∀ b c, look b (σ.kill ρ b0).sh = some c → b ≠ b0 ∧ ∃ c1, look b σ.sh = some c1 ∧ c = c1.map (AV.kill ρ) := fun b c h => by
    rw [show (σ.kill ρ b0).sh = (σ.sh.filter fun p => !(p.1 == b0)).map fun p => (p.1, p.2.map (AV.kill ρ)) from rfl, look_map, look_filter_ne'] at h
    obtain ⟨c1, h1, h2⟩ := Option.map_eq_some_iff.1 h
    split at h1
    · cases h1
    · rename_i hne; exact ⟨hne, c1, h1, h2.symm⟩
  refine ⟨{ gh with lim := lim' }, { frm := r.frm.trans ⟨hos, htape, hout, hsz, fun k hk hS => hsame k (Nat.lt_of_lt_of_le hk r.base) (fun he => hS (he ▸ hS0 (he ▸ hk))) (fun h => by omega)⟩, base := Nat.le_trans r.base hsz, limB := fun b hb => (hlB hb).trans (r.limB b hb), size := r.size, ex := ⟨hkeep, r.ex.defers.oth hoth, fun Y hY => (by rw [hgy] at hY; cases hY), ⟨fun t q h => ?_, fun t t' q q' h => ?_⟩, r.ex.fx, fun hy k o h1 h2 h3 => hoth k o (r.ex.oth hy k o h1 h2 h3) h2, r.ex.top⟩, gl := fun g c h => (ht2 g c h).mono hkeep, tmps := fun t x hx => ?_, boxes := fun k c hc => ?_, inj := fun k k' h h' => r.inj k k' (by rw [← hbx]; exact h) (by rw [← hbx]; exact h'), shs := fun b c hb => ?_, apart := fun b k h h' => ?_, tbs := fun k j g e h => (by cases h), own := fun g e h => absurd h (hnu g e), alone := fun g e g' e' h => absurd h (hnu g e) }⟩
  · rw [show (σ.kill ρ b0).tm = σ.tm.map fun p => (p.1, p.2.kill ρ) from rfl, look_map] at h
    obtain ⟨y, -, he⟩ := Option.map_eq_some_iff.1 h
    cases y <;> simp only [TV.kill] at he <;> first | cases he | (split at he <;> cases he)
  · rw [show (σ.kill ρ b0).tm = σ.tm.map fun p => (p.1, p.2.kill ρ) from rfl, look_map] at h
    obtain ⟨y, -, he⟩ := Option.map_eq_some_iff.1 h
    cases y <;> simp only [TV.kill] at he <;> first | cases he | (split at he <;> cases he)
  · rw [show (σ.kill ρ b0).tm = σ.tm.map fun p => (p.1, p.2.kill ρ) from rfl, look_map] at hx
    obtain ⟨y, hy, rfl⟩ := Option.map_eq_some_iff.1 hx
    have h1 := r.tmps t y hy
    cases y with
    | v z q =>
      simp only [TV.kill]
      split
      · rename_i ho; exact ⟨⟨hoff h1.1.1 ho, by simp⟩, by simp⟩
      · exact ⟨trivial, by simp⟩
    | lp k o => exact ⟨h1.1, fun k' o' he => by rw [hbx]; exact h1.2 k' o' he⟩
    | un => exact ⟨trivial, by simp [TV.kill]⟩
    | bld l ns => exact ⟨trivial, by simp [TV.kill]⟩
    | it q => exact ⟨trivial, by simp [TV.kill]⟩
    | cl f ks => exact ⟨trivial, by simp [TV.kill]⟩
  · rw [show (σ.kill ρ b0).bx = σ.bx.map fun p => (p.1, p.2.map (AV.kill ρ)) from rfl, look_map] at hc
    obtain ⟨c1, h1, rfl⟩ := Option.map_eq_some_iff.1 hc
    obtain ⟨k1, k2, cs, e, k3, k4⟩ := r.boxes k c1 h1
    have hne : gh.lim (gh.bl k) ≠ .reg ρ := by rw [k2]; intro h; cases h
    exact ⟨k1, (hl hne).trans k2, cs, e, (hsame _ (hlt k3) (r.apart b0 k h0 (by rw [h1]; rfl)) (fun h => hne h.2)).trans k3, hcells k4 (look_all hok.1 h1)⟩
  · obtain ⟨hne, c1, h1, rfl⟩ := hshl b c hb
    obtain ⟨k1, k2, cs, e, k3, k4⟩ := r.shs b c1 h1
    have hn2 : gh.lim b ≠ .reg ρ := by rw [k2]; intro h; cases h
    exact ⟨k1, (hl hn2).trans k2, cs, e, (hsame _ (hlt k3) hne (fun h => hn2 h.2)).trans k3, hcells k4 (look_all hok.2 h1)⟩
  · obtain ⟨c, hc⟩ := Option.isSome_iff_exists.1 h
    obtain ⟨-, c1, h1, -⟩ := hshl b c hc
    exact r.apart b k (by rw [h1]; rfl) (by rw [← hbx]; exact h')

def ValidW (P : Program) (f : FuncId) (args : List AV) (b0 ρ : Nat) (c : List AV) : Prop :=
  fnOk P f = true ∧ ∀ (lim : Lim) (w : World) (cargs : List Value), RepL lim w.heap cargs args → BoxAt lim w.heap b0 c →
    Calls P f cargs.toArray w fun e w' => ∃ v, e = .returned v ∧ (w'.os = w.os ∧ w'.tape = w.tape ∧ w'.output = w.output ∧ w.heap.size ≤ w'.heap.size) ∧ Oth w w' ∧ ∀ b, b < w.heap.size → b ≠ b0 → lim b ≠ .reg ρ → w'.heap[b]? = w.heap[b]?
def GT (g : Nat → Option (List AV)) : Gl := ⟨g, none, false, true⟩
@[simp] theorem GT_g (g : Nat → Option (List AV)) : (GT g).g = g := rfl
@[simp] theorem GT_y (g : Nat → Option (List AV)) : (GT g).y = none := rfl
@[simp] theorem GT_top (g : Nat → Option (List AV)) : (GT g).top = true := rfl
def ValidT (P : Program) (gl : Gl) (f : FuncId) (args : List AV) (r : AV) : Prop :=
  fnOk P f = true ∧ ∀ (lim : Lim) (w : World) (cargs : List Value), (∀ b r, lim b = .reg r → r = 0) → GlOk gl lim w.heap → RepL lim w.heap cargs args →
    Calls P f cargs.toArray w fun e w' => ∃ v lim', e = .returned v ∧ Frm w.heap.size (fun _ => False) w w' ∧ Rep lim' w'.heap v r
end Go.Pv
end

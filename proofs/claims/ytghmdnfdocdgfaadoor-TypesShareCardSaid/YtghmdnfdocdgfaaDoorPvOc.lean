import Derived.Test.YtghmdnfdocdgfaaDoorPvO
set_option linter.all false
section
/- A drawn region whose last operation comes after all others: that one may see the hints, and whatever else is known by then. Nil slices that are known as such. -/
namespace Go.Pv
open Go

def guardsIn (n : Nat) (l : List Oper) : Bool := l.all fun o => match o.guard with | some (j, _) => decide (j < n) | none => true
def edgesIn : Nat → List Oper → Bool
  | _, [] => true
  | i, o :: r => (edgesOf o).all (fun e => decide (e < i)) && edgesIn (i + 1) r
def lastOk (l : List Oper) (o : Oper) : Bool :=
  guardsIn l.length l && edgesIn 0 (l ++ [o]) && (List.range l.length).all fun i => ((masks (l ++ [o]) []).getD l.length 0).testBit i

section
variable {ops ops' : Array Oper}

end

def Gives (P : Program) (σ σ' : AS) : Prop := ∀ (cx : Cx) (a : Act) (w : World), cx.P = P → R cx σ a w → R cx σ' a w
theorem Gives.refl {P : Program} {σ : AS} : Gives P σ σ := fun _ _ _ _ h => h
theorem Gives.trans {P : Program} {σ1 σ2 σ3 : AS} (h : Gives P σ1 σ2) (k : Gives P σ2 σ3) : Gives P σ1 σ3 := fun cx a w hP r => k cx a w hP (h cx a w hP r)

section
variable {P : Program} {gl : Gl} {σ : AS} {Q : Exit → AS → Prop}

end

def nilled (l : List AV) (ns : List Nat) : List AV := ns.foldl (fun l n => l.set n .nilS) l
attribute [simp] nilled

theorem nilled_rep {lim : Lim} {h : Array Obj} {vs : List Value} : ∀ (ns : List Nat) (l : List AV), RepL lim h vs l → (∀ j ∈ ns, vs[j]? = some (.slice none 0 0)) → RepL lim h vs (nilled l ns)
  | [], l, r, _ => r
  | n :: ns, l, r, hn => by
    refine nilled_rep ns (l.set n .nilS) ?_ (fun j hj => hn j (List.mem_cons_of_mem _ hj))
    have h1 := hn n (List.mem_cons_self ..)
    have e : vs.set n (.slice none 0 0) = vs := by
      apply List.ext_getElem?
      intro i
      rw [List.getElem?_set]
      split
      · rename_i he; subst he
        obtain ⟨h2, -⟩ := List.getElem?_eq_some_iff.1 h1
        rw [if_pos h2, h1]
      · rfl
    have := r.set n (x := .nilS) .nilS
    rwa [e] at this

theorem R.nilled {cx : Cx} {σ : AS} {a : Act} {w : World} (h : R cx σ a w) {t : Nat} {l : List AV} {ns : List Nat} (hl : look t σ.tm = some (.bld l ns)) : R cx { σ with tm := (t, .v (.agg (Pv.nilled l ns)) none) :: σ.tm } a w := by
  obtain ⟨gh, r⟩ := h
  have hu : ∀ {g e}, AS.uses { σ with tm := (t, .v (.agg (Pv.nilled l ns)) none) :: σ.tm } g e → σ.uses g e := by
    rintro g e (⟨s, y, h⟩ | h)
    · simp only [look] at h
      split at h
      · injection h with h; cases h
      · exact .inl ⟨s, y, h⟩
    · exact .inr h
  refine ⟨gh, { frm := r.frm, base := r.base, limB := r.limB, size := r.size, ex := r.ex.sub (fun s q hq => ?_) rfl rfl, gl := r.gl, tmps := fun s y hy => ?_, boxes := r.boxes, inj := r.inj, shs := r.shs, apart := r.apart, tbs := r.tbs, own := fun g e h => r.own g e (hu h), alone := fun g e g' e' h h' => r.alone g e g' e' (hu h) (hu h') }⟩
  · simp only [look] at hq
    split at hq
    · cases hq
    · exact hq
  · simp only [look] at hy
    split at hy
    · rename_i he; subst he
      injection hy with hy; subst hy
      have h1 := (r.tmps t _ hl).1
      obtain ⟨cs, hv, hr⟩ := Rep.agg_iff.1 h1.1
      refine ⟨⟨Rep.agg_iff.2 ⟨cs, hv, nilled_rep ns l hr fun j hj => ?_⟩, by simp⟩, fun k off hk => by cases hk⟩
      have := h1.2 j hj
      rw [hv] at this
      simpa [Value.cells] using this
    · exact r.tmps s y hy

theorem Gives.nilled {P : Program} {σ : AS} (t : Nat) {l : List AV} {ns : List Nat} (hl : look t σ.tm = some (.bld l ns)) : Gives P σ { σ with tm := (t, .v (.agg (Pv.nilled l ns)) none) :: σ.tm } := fun _ _ _ _ r => r.nilled hl
end Go.Pv
end

section
/- A drawn region by all its orders. Shared objects: calls of methods, objects that a function makes. -/
namespace Go.Pv
open Go

section
variable {P : Program} {gl : Gl} {ops : Array Oper} {Q : Exit → AS → Prop} {σ : AS}

def ANY (P : Program) (gl : Gl) (ops : Array Oper) (Q : Exit → AS → Prop) (fuel : Nat) (listed : Array Bool) (σ : AS) : Prop :=
  ∀ (cx : Cx) (ro : Option Nat) (n : Nat) (a : Act) (w : World), cx.P = P → cx.gl = gl → (gl.rnd = false → ro = none) → R cx σ a w →
    wpAnyIn (Fw ro) n P .any ops (fun e a' w' => ∃ σ', Q e σ' ∧ R cx σ' a' w') fuel listed a w

def AnyAll (P : Program) (gl : Gl) (ops : Array Oper) (Q : Exit → AS → Prop) (fuel : Nat) (listed : Array Bool) (σ : AS) (rs : List Nat) : Prop :=
  ∀ i ∈ rs, ∃ o, ops[i]? = some o ∧ nextV P gl ops o σ fun s => ANY P gl ops Q fuel (listed.setIfInBounds i true) s

theorem AnyAll.nil {listed : Array Bool} {fuel : Nat} : AnyAll P gl ops Q fuel listed σ [] := fun _ h => by cases h
theorem AnyAll.cons {listed : Array Bool} {fuel i : Nat} {rs : List Nat} {o : Oper} (ho : ops[i]? = some o) (h : ∀ K : AS → Prop, (∀ s, ANY P gl ops Q fuel (listed.setIfInBounds i true) s → K s) → RV P gl ops [o] σ K) (hs : AnyAll P gl ops Q fuel listed σ rs) :
    AnyAll P gl ops Q fuel listed σ (i :: rs) := fun j hj => by
  rcases List.mem_cons.1 hj with rfl | hj
  · exact ⟨o, ho, h _ fun _ h => h⟩
  · exact hs j hj

end

section
variable {P : Program} {gl : Gl}

def ValidC (P : Program) (gl : Gl) (f : FuncId) (args : List AV) (b : Nat) (c : List AV) (r : AV) (c' : List AV) : Prop :=
  ValidH P gl f (.gp b 0 :: args) [(b, c)] fun r' sh' => r' = r ∧ sh' = [(b, c')]

def ValidN (P : Program) (gl : Gl) (f : FuncId) (args : List AV) (c : List AV) : Prop :=
  ValidH P gl f args [] fun r sh' => ∃ b, r = .gp b 0 ∧ sh' = [(b, c)]

def TV.esc (k b : Nat) : TV → TV
  | .lp k' o => if k' = k then .v (.gp b o) none else .lp k' o
  | x => x
def AS.esc (σ : AS) (k b : Nat) (cells : List AV) : AS := { σ with tm := σ.tm.map fun p => (p.1, p.2.esc k b), bx := σ.bx.filter fun p => !(p.1 == k), sh := (b, cells) :: σ.sh }

theorem look_map_esc {k b t : Nat} : ∀ (tm : List (Nat × TV)), look t (tm.map fun p => (p.1, p.2.esc k b)) = (look t tm).map (·.esc k b)
  | [] => rfl
  | (j, x) :: r => by
    simp only [List.map_cons, look]
    split
    · rfl
    · exact look_map_esc r
theorem look_filter_ne {α : Type} {k k' : Nat} (h : k' ≠ k) : ∀ (l : List (Nat × α)), look k' (l.filter fun p => !(p.1 == k)) = look k' l
  | [] => rfl
  | (j, x) :: r => by
    by_cases hj : j = k
    · subst hj
      simp only [List.filter_cons, BEq.rfl, Bool.not_true, Bool.false_eq_true, if_false, look, if_neg (Ne.symm h)]
      exact look_filter_ne h r
    · have hj' : (j == k) = false := by simpa using hj
      simp only [List.filter_cons, hj', Bool.not_false, if_true, look]
      split
      · rfl
      · exact look_filter_ne h r
theorem look_filter_eq {α : Type} {k : Nat} : ∀ (l : List (Nat × α)), look k (l.filter fun p => !(p.1 == k)) = none
  | [] => rfl
  | (j, x) :: r => by
    by_cases hj : j = k
    · subst hj
      simp only [List.filter_cons, BEq.rfl, Bool.not_true, Bool.false_eq_true, if_false]
      exact look_filter_eq r
    · have hj' : (j == k) = false := by simpa using hj
      simp only [List.filter_cons, hj', Bool.not_false, if_true, look, if_neg hj]
      exact look_filter_eq r

theorem RR.esc {cx : Cx} {gh : Gh} {σ : AS} {a : Act} {w : World} (r : RR cx gh σ a w) {k : Nat} {cells : List AV} (hk : look k σ.bx = some cells) (htb : (σ.tb.all fun q => !(q.1 == k)) = true) (hcl : noClP k σ.tm) :
    RR cx gh (σ.esc k (gh.bl k) cells) a w := by
  have hks : (look k σ.bx).isSome = true := by simp [hk]
  have hne : ∀ {k'}, (look k' (σ.esc k (gh.bl k) cells).bx).isSome = true → k' ≠ k ∧ (look k' σ.bx).isSome = true := by
    intro k' h
    by_cases he : k' = k
    · subst he
      rw [show (σ.esc k' (gh.bl k') cells).bx = σ.bx.filter fun p => !(p.1 == k') from rfl, look_filter_eq] at h; cases h
    · rw [show (σ.esc k (gh.bl k) cells).bx = σ.bx.filter fun p => !(p.1 == k) from rfl, look_filter_ne he] at h
      exact ⟨he, h⟩
  have hin : ∀ {k'}, k' ≠ k → look k' (σ.esc k (gh.bl k) cells).bx = look k' σ.bx := fun he => look_filter_ne he _
  have hu : ∀ {g e}, AS.uses (σ.esc k (gh.bl k) cells) g e → σ.uses g e := by
    rintro g e (⟨t, x, h⟩ | h)
    · rw [show (σ.esc k (gh.bl k) cells).tm = σ.tm.map fun p => (p.1, p.2.esc k (gh.bl k)) from rfl, look_map_esc] at h
      obtain ⟨y, hy, he⟩ := Option.map_eq_some_iff.1 h
      cases y with
      | lp k' o => simp only [TV.esc] at he; split at he <;> simp at he
      | v z g' => simp only [TV.esc] at he; rw [he] at hy; exact .inl ⟨t, x, hy⟩
      | un => cases he
      | bld l ns => cases he
      | it k9 => cases he
      | cl f ks => cases he
    · exact .inr h
  obtain ⟨hB, hbox⟩ := r.boxes k cells hk
  refine { frm := r.frm, base := r.base, limB := r.limB, size := r.size, ex := r.ex.sub (fun t q hq => ?_) rfl rfl, gl := r.gl, tmps := fun t x hx => ?_, boxes := fun k' c hc => ?_, inj := fun k1 k2 h1 h2 => r.inj k1 k2 (hne h1).2 (hne h2).2, shs := fun b c hb => ?_, apart := fun b k' h1 h2 => ?_, tbs := fun k' j g e hq => ?_, own := fun g e h => ?_, alone := fun g e g' e' h h' => r.alone g e g' e' (hu h) (hu h') }
  · rw [show (σ.esc k (gh.bl k) cells).tm = σ.tm.map fun p => (p.1, p.2.esc k (gh.bl k)) from rfl, look_map_esc] at hq
    obtain ⟨y, hy, he⟩ := Option.map_eq_some_iff.1 hq
    cases y with
    | lp k' o => simp only [TV.esc] at he; split at he <;> cases he
    | it k9 => simp only [TV.esc] at he; rw [he] at hy; exact hy
    | v z g' => cases he
    | un => cases he
    | bld l ns => cases he
    | cl f ks => cases he
  · rw [show (σ.esc k (gh.bl k) cells).tm = σ.tm.map fun p => (p.1, p.2.esc k (gh.bl k)) from rfl, look_map_esc] at hx
    obtain ⟨y, hy, rfl⟩ := Option.map_eq_some_iff.1 hx
    have h1 := r.tmps t y hy
    cases y with
    | lp k' o =>
      simp only [TV.esc]
      by_cases he : k' = k
      · subst he
        rw [if_pos rfl]
        have h2 : a.tmps.getD t undef = .pointer (some ⟨gh.bl k', o, none⟩) := h1.1
        refine ⟨⟨?_, by simp⟩, fun k2 off h => by cases h⟩
        rw [h2]; exact .gp _ _
      · rw [if_neg he]
        refine ⟨h1.1, fun k2 off h => ?_⟩
        injection h with e1 e2; subst e1
        rw [hin he]; exact h1.2 k' o rfl
    | v z g' => exact ⟨h1.1, fun k2 off h => by cases h⟩
    | un => exact ⟨h1.1, fun k2 off h => by cases h⟩
    | bld l ns => exact ⟨h1.1, fun k2 off h => by cases h⟩
    | it k9 => exact ⟨h1.1, fun k2 off h => by cases h⟩
    | cl f ks => exact ⟨h1.1, fun k2 off h => by cases h⟩
  · have hn := hne (k' := k') (by rw [hc]; rfl)
    rw [hin hn.1] at hc
    exact r.boxes k' c hc
  · rw [show (σ.esc k (gh.bl k) cells).sh = (gh.bl k, cells) :: σ.sh from rfl] at hb
    simp only [look] at hb
    split at hb
    · rename_i he; subst he
      injection hb with hb; subst hb
      exact ⟨.inr hB, hbox⟩
    · exact r.shs b c hb
  · have hn := hne h2
    rw [show (σ.esc k (gh.bl k) cells).sh = (gh.bl k, cells) :: σ.sh from rfl] at h1
    simp only [look] at h1
    split at h1
    · rename_i he; subst he
      exact fun h => hn.1 (r.inj k' k hn.2 hks h)
    · exact r.apart b k' h1 hn.2
  · have hq' : (k', j, g, e) ∈ σ.tb := hq
    have h1 := r.tbs k' j g e hq'
    have hkk : k' ≠ k := by
      have := List.all_eq_true.1 htb _ hq'
      simpa using this
    exact ⟨by rw [hin hkk]; exact h1.1, h1.2⟩
  · have h1 := r.own g e (hu h)
    refine ⟨h1.1, fun b hb => ⟨fun k' hk' => (h1.2 b hb).1 k' (hne hk').2, ?_⟩⟩
    rw [show (σ.esc k (gh.bl k) cells).sh = (gh.bl k, cells) :: σ.sh from rfl]
    simp only [look]
    rw [if_neg ((h1.2 b hb).1 k hks)]
    exact (h1.2 b hb).2

theorem AT_esc {σ : AS} {Q : Exit → AS → Prop} {c : Code} (k : Nat) {cells : List AV} (hk : look k σ.bx = some cells) (htb : (σ.tb.all fun q => !(q.1 == k)) = true) (hcl : noClP k σ.tm) (h : ∀ b, AT P gl c (σ.esc k b cells) Q) : AT P gl c σ Q := by
  intro cx ro n a w hP hg hro r
  obtain ⟨gh, r⟩ := r
  exact h (gh.bl k) cx ro n a w hP hg hro ⟨gh, r.esc hk htb hcl⟩
end
attribute [simp] TV.esc AS.esc

end Go.Pv
end

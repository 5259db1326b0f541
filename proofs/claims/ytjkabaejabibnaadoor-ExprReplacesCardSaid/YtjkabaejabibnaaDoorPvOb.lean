/- A drawn region whose last operation comes after all others: that one may see the hints, and whatever else is known by then. Nil slices that are known as such. -/
import Derived.Test.YtjkabaejabibnaaDoorPvO
set_option linter.all false
namespace Go.Pv
open Go

def guardsIn (n : Nat) (l : List Oper) : Bool := l.all fun o => match o.guard with | some (j, _) => decide (j < n) | none => true
def edgesIn : Nat → List Oper → Bool
  | _, [] => true
  | i, o :: r => (edgesOf o).all (fun e => decide (e < i)) && edgesIn (i + 1) r
def lastOk (l : List Oper) (o : Oper) : Bool :=
  guardsIn l.length l && edgesIn 0 (l ++ [o]) && (List.range l.length).all fun i => ((masks (l ++ [o]) []).getD l.length 0).testBit i

theorem edgesIn_spec : ∀ (l : List Oper) (i : Nat), edgesIn i l = true → ∀ (k : Nat) (o : Oper), l[k]? = some o → ∀ e ∈ o.after, Region.binds .any e = true → e.on < i + k
  | [], _, _, k, o, h => by simp at h
  | o' :: r, i, h, k, o, hk => by
    simp only [edgesIn, Bool.and_eq_true] at h
    cases k with
    | zero =>
      simp at hk; subst hk
      intro e he hb
      have := List.all_eq_true.1 h.1 e.on (List.mem_map.2 ⟨e, List.mem_filter.2 ⟨by simpa using he, hb⟩, rfl⟩)
      simpa using this
    | succ k =>
      intro e he hb
      have := edgesIn_spec r (i + 1) h.2 k o (by simpa using hk) e he hb
      omega

section
variable {ops ops' : Array Oper}

theorem ready_nil_all {ops : Array Oper} {listed : Array Bool} (hsz : listed.size = ops.size) (hedge : ∀ (j : Nat) (o : Oper), ops[j]? = some o → ∀ e ∈ o.after, Region.binds .any e = true → e.on < j)
    (h : Region.ready .any ops listed = []) : ∀ i, i < ops.size → listed.getD i false = true := by
  intro i
  induction i using Nat.strongRecOn with
  | _ i ih =>
    intro hi
    cases hl : listed.getD i false with
    | true => rfl
    | false =>
      exfalso
      have hm : i ∈ Region.ready .any ops listed := by
        refine mem_ready.2 ⟨?_, ops[i], by simp [hi], fun e he hb => ?_⟩
        · have : i < listed.size := by omega
          simpa [this] using hl
        · have h1 := hedge i ops[i] (by simp [hi]) e he hb
          exact ih e.on h1 (by omega)
      rw [h] at hm
      cases hm

theorem all_ready_nil {ops : Array Oper} {listed : Array Bool} (hsz : listed.size = ops.size) (h : ∀ i, i < ops.size → listed.getD i false = true) : Region.ready .any ops listed = [] := by
  cases hr : Region.ready .any ops listed with
  | nil => rfl
  | cons i r =>
    exfalso
    have hi : i ∈ Region.ready .any ops listed := by rw [hr]; simp
    obtain ⟨h1, o, ho, _⟩ := mem_ready.1 hi
    have hlt := (Array.getElem?_eq_some_iff.1 ho).1
    have h2 := h i hlt
    have : i < listed.size := by omega
    simp [this] at h1 h2
    rw [h2] at h1
    cases h1

theorem push_getD {l : Array Bool} {i : Nat} (h : i < l.size) (d b : Bool) : (l.push b).getD i d = l.getD i d := by
  simp [Array.getElem?_push, Nat.ne_of_lt h]
theorem push_set {l : Array Bool} {i : Nat} (h : i < l.size) (a b : Bool) : (l.push b).setIfInBounds i a = (l.setIfInBounds i a).push b := by
  apply Array.ext_getElem?
  intro j
  simp only [Array.getElem?_setIfInBounds, Array.getElem?_push, Array.size_push, Array.size_setIfInBounds]
  by_cases hij : i = j
  · subst hij
    simp [h, Nat.lt_succ_of_lt h, Nat.ne_of_lt h]
  · simp [hij]

theorem push_ready {oL : Oper} (hops : ops = ops'.push oL) (hedge : ∀ (j : Nat) (o : Oper), ops[j]? = some o → ∀ e ∈ o.after, Region.binds .any e = true → e.on < j) {listed : Array Bool} (hsz : listed.size = ops'.size) {i : Nat} (hi : i < ops'.size) :
    i ∈ Region.ready .any ops (listed.push false) ↔ i ∈ Region.ready .any ops' listed := by
  have ho : ops[i]? = ops'[i]? := by rw [hops, Array.getElem?_push]; simp [Nat.ne_of_lt hi]
  rw [mem_ready, mem_ready, push_getD (by omega), ho]
  refine and_congr_right fun _ => exists_congr fun o => and_congr_right fun h => ?_
  have hlt : ∀ e ∈ o.after, Region.binds .any e = true → (listed.push false).getD e.on false = listed.getD e.on false := fun e he hb => by
    have := hedge i o (ho.trans h) e he hb
    exact push_getD (by omega) _ _
  constructor
  · intro h e he hb
    rw [← hlt e he hb]; exact h e he hb
  · intro h e he hb
    rw [hlt e he hb]; exact h e he hb

theorem anyA_last {cx : Cx} {ro : Option Nat} {n : Nat} {oL : Oper} {Q : Exit → Act → World → Prop} {K : AS → Prop} (hops : ops = ops'.push oL)
    (hg : ∀ (j : Nat) (o : Oper), ops'[j]? = some o → ∀ i b, o.guard = some (i, b) → i < ops'.size)
    (hedge : ∀ (j : Nat) (o : Oper), ops[j]? = some o → ∀ e ∈ o.after, Region.binds .any e = true → e.on < j)
    (hreach : ∀ i, i < ops'.size → Reach ops ops'.size i)
    (hQ : ∀ σ a w, K σ → R cx σ a w → wpOpIn (Fw ro) n cx.P ops Q ops'.size (fun a w => Q .normal a w) a w) :
    ∀ (fuel : Nat) (listed : Array Bool) (σ : AS) (a : Act) (w : World), listed.size = ops'.size → DC ops (listed.push false) → R cx σ a w → anyA cx.P cx.gl ops' K fuel listed σ →
      wpAnyIn (Fw ro) n cx.P .any ops Q (fuel + 1) (listed.push false) a w := by
  have hsize : ops.size = ops'.size + 1 := by rw [hops]; simp
  have hL : ops[ops'.size]? = some oL := by rw [hops]; simp
  have hedge' : ∀ (j : Nat) (o : Oper), ops'[j]? = some o → ∀ e ∈ o.after, Region.binds .any e = true → e.on < j := fun j o ho => by
    have hlt := (Array.getElem?_eq_some_iff.1 ho).1
    exact hedge j o (by rw [hops, Array.getElem?_push, if_neg (Nat.ne_of_lt hlt)]; exact ho)
  have hguard : ∀ (j : Nat) (o : Oper), ops'[j]? = some o → ∀ σ, guardB ops' o σ = guardB ops o σ := fun j o ho σ => by
    unfold guardB
    cases hgd : o.guard with
    | none => rfl
    | some p =>
      obtain ⟨i, b⟩ := p
      have := hg j o ho i b hgd
      simp only [hops, Array.getElem?_push, if_neg (Nat.ne_of_lt this)]
  -- when only the last one is left
  have hend : ∀ (listed : Array Bool), listed.size = ops'.size → Region.ready .any ops (listed.push false) ≠ [] := by
    intro listed hsz h
    cases hr : Region.ready .any ops' listed with
    | nil =>
      have hall := ready_nil_all hsz hedge' hr
      have hm : ops'.size ∈ Region.ready .any ops (listed.push false) := by
        refine mem_ready.2 ⟨by simp [← hsz], oL, hL, fun e he hb => ?_⟩
        have h1 := hedge _ oL hL e he hb
        rw [push_getD (by omega)]
        exact hall _ h1
      rw [h] at hm; cases hm
    | cons i r =>
      have hi : i ∈ Region.ready .any ops' listed := by rw [hr]; simp
      obtain ⟨_, o, ho, _⟩ := mem_ready.1 hi
      have hlt := (Array.getElem?_eq_some_iff.1 ho).1
      have := (push_ready hops hedge hsz hlt).2 hi
      rw [h] at this; cases this
  have hlast : ∀ (fuel : Nat) (listed : Array Bool) (σ : AS) (a : Act) (w : World), listed.size = ops'.size → (∀ i, i < ops'.size → listed.getD i false = true) → K σ → R cx σ a w →
      wpOpIn (Fw ro) n cx.P ops Q ops'.size (wpAnyIn (Fw ro) n cx.P .any ops Q fuel ((listed.push false).setIfInBounds ops'.size true)) a w := by
    intro fuel listed σ a w hsz hall hk r
    refine wpOpIn_mono (fun a w hq => ?_) (hQ σ a w hk r)
    have hnil : Region.ready .any ops ((listed.push false).setIfInBounds ops'.size true) = [] := by
      refine all_ready_nil (by simp [hsz, hsize]) fun i hi => ?_
      by_cases hil : i = ops'.size
      · subst hil
        simp [← hsz]
      · rw [getD_set_ne false (fun h => hil h.symm), push_getD (by omega)]
        exact hall i (by omega)
    cases fuel with
    | zero => exact ⟨hnil, hq⟩
    | succ m => exact ⟨fun _ => hq, fun i hi => by rw [hnil] at hi; cases hi⟩
  intro fuel
  induction fuel with
  | zero =>
    intro listed σ a w hsz hdc r h
    refine ⟨fun h0 => absurd h0 (hend listed hsz), fun i hi => ?_⟩
    have hall := ready_nil_all hsz hedge' h.1
    obtain ⟨_, o, ho, _⟩ := mem_ready.1 hi
    have hlt := (Array.getElem?_eq_some_iff.1 ho).1
    by_cases hil : i = ops'.size
    · subst hil
      exact hlast 0 listed σ a w hsz hall h.2 r
    · have hm := (push_ready hops hedge hsz (by omega)).1 hi
      rw [h.1] at hm; cases hm
  | succ m ih =>
    intro listed σ a w hsz hdc r h
    refine ⟨fun h0 => absurd h0 (hend listed hsz), fun i hi => ?_⟩
    obtain ⟨_, o, ho, _⟩ := mem_ready.1 hi
    have hlt := (Array.getElem?_eq_some_iff.1 ho).1
    by_cases hil : i = ops'.size
    · subst hil
      have hall : ∀ i, i < ops'.size → listed.getD i false = true := fun i h => by
        have := hdc.ready (hreach i h) hi
        rwa [push_getD (by omega)] at this
      exact hlast (m + 1) listed σ a w hsz hall (h.1 (all_ready_nil hsz hall)) r
    · have hlt' : i < ops'.size := by omega
      have hm := (push_ready hops hedge hsz hlt').1 hi
      obtain ⟨o', ho', hn⟩ := h.2 i hm
      have hoo : ops[i]? = some o' := by rw [hops, Array.getElem?_push, if_neg (Nat.ne_of_lt hlt')]; exact ho'
      have hn2 : nextV cx.P cx.gl ops o' σ (anyA cx.P cx.gl ops' K m (listed.setIfInBounds i true)) := by
        have := nextV_of hn
        unfold nextV at this ⊢
        rw [← hguard i o' ho']
        exact this
      refine wpOpIn_mono (fun a' w' hh => ?_) (opIn_sound (ro := ro) (n := n) (Q := Q) hoo r hn2)
      obtain ⟨σ', hk, r'⟩ := hh
      rw [push_set (by omega)]
      refine ih _ σ' a' w' (by simpa using hsz) ?_ r' hk
      rw [← push_set (by omega)]
      exact hdc.set hi
end

/-- Whatever σ describes, σ' describes too. -/
def Gives (P : Program) (σ σ' : AS) : Prop := ∀ (cx : Cx) (a : Act) (w : World), cx.P = P → R cx σ a w → R cx σ' a w
theorem Gives.refl {P : Program} {σ : AS} : Gives P σ σ := fun _ _ _ _ h => h
theorem Gives.trans {P : Program} {σ1 σ2 σ3 : AS} (h : Gives P σ1 σ2) (k : Gives P σ2 σ3) : Gives P σ1 σ3 := fun cx a w hP r => k cx a w hP (h cx a w hP r)

theorem region_draw_last {cx : Cx} {ro : Option Nat} {n : Nat} {id : Nat} {l : List Oper} {oL : Oper} {Q : Exit → Act → World → Prop} {K : AS → Prop} {σ : AS} {a : Act} {w : World} (b : Bool) (m : List (Nat × Nat)) (hm : cx.P.follows .mixedOrders = true) (hok : lexOkM b m l.toArray = true) (hl : lastOk l oL = true) (him : Iv b m σ)
    (hQ : ∀ s a w, K s → R cx s a w → Q .normal a w) (r : R cx σ a w) (h : RVd cx.P cx.gl l.toArray l { σ with hint := [] } fun s => ∃ s', Gives cx.P { s with hint := σ.hint } s' ∧ nextV cx.P cx.gl (l ++ [oL]).toArray oL s' K) : (Code.region id (l ++ [oL]).toArray true).wpIn (Fw ro) n cx.P Q a w := by
  refine wpIn_region_any hm ?_
  let K0 : AS → Prop := fun s => ∃ s', Gives cx.P { s with hint := σ.hint } s' ∧ nextV cx.P cx.gl (l ++ [oL]).toArray oL s' K
  let K' : AS → Prop := fun s => ∃ s0, Eqv s0 s ∧ K0 s0
  have hK' : ∀ s s', Eqv s s' → K' s → K' s' := fun s s' e ⟨s0, e0, hk⟩ =>
    ⟨s0, ⟨⟨e.ex.1.trans e0.ex.1, e.ex.2.1.trans e0.ex.2.1, e.ex.2.2.trans e0.ex.2.2⟩, e.n.trans e0.n, fun t => (e.tm t).trans (e0.tm t), e.bx.trans e0.bx, e.tb.trans e0.tb, e.sh.trans e0.sh, e0.hint.1, e.hint.2⟩, hk⟩
  have hmono : ∀ (q : List Oper) (s : AS), s.hint = [] → RVd cx.P cx.gl l.toArray q s K0 → RVd cx.P cx.gl l.toArray q s K' := by
    intro q
    induction q with
    | nil => intro s hs h; exact ⟨s, ⟨⟨rfl, rfl, rfl⟩, rfl, fun _ => rfl, rfl, rfl, rfl, hs, hs⟩, h⟩
    | cons o q ih =>
      intro s hs h
      have h2 := eff_hint hs h
      exact nextVd_eqv ⟨⟨rfl, rfl, rfl⟩, rfl, fun _ => rfl, rfl, rfl, rfl, hs, hs⟩ (fun s1 s2 e hk => by
        have h3 := ih s1 hk.1 hk.2
        exact region_draw_sound.RVd_eqv hK' q s1 s2 e h3) h2
  have h' := hmono l _ rfl h
  have hok2 := hok
  simp only [lexOkM, Bool.and_eq_true, Bool.or_eq_true, Bool.not_eq_true'] at hok2
  have hom : OkM b m l.toArray := ⟨hok2.1.1.elim (fun h => .inl (List.isEmpty_iff.1 h)) fun h => .inr fun j o ho => List.all_eq_true.1 h o (List.mem_of_getElem? (by simpa using ho)), hok2.1.2.elim .inl fun h => .inr fun j o ho => List.all_eq_true.1 h o (List.mem_of_getElem? (by simpa using ho))⟩
  have ha := anyA_lex hom hK' l 0 (Array.replicate l.length false) { σ with hint := [] } (by simp) (by simpa using hok2.2) (by simp) (by simp) (fun j hj => by simp at hj; simp [hj]) (fun j o _ hj => by rw [Array.getD_eq_getD_getElem?, Array.getElem?_replicate] at hj; split at hj <;> simp at hj) rfl him h'
  simp only [lastOk, Bool.and_eq_true] at hl
  obtain ⟨⟨hg, he⟩, hr⟩ := hl
  have hedge : ∀ (j : Nat) (o : Oper), ((l ++ [oL]).toArray)[j]? = some o → ∀ e ∈ o.after, Region.binds .any e = true → e.on < j := fun j o ho e hm hb => by
    have := edgesIn_spec (l ++ [oL]) 0 he j o (by simpa using ho) e hm hb
    omega
  have hpush : (l ++ [oL]).toArray = l.toArray.push oL := by simp
  have hs := anyA_last (cx := cx) (ro := ro) (n := n) (Q := Q) (K := K') hpush
    (fun j o ho i b hgd => by
      have := List.all_eq_true.1 hg o (List.mem_of_getElem? (by simpa using ho))
      rw [hgd] at this
      simpa using this) hedge
    (fun i hi => by
      have h1 := List.all_eq_true.1 hr i (by simpa using hi)
      have := masks_spec (ops := (l ++ [oL]).toArray) (l ++ [oL]) [] (by simp) (by simp) l.length i h1
      simpa using this)
    (fun s a w ⟨s0, e0, s', hstr, hn⟩ r => by
      have r1 := hstr cx a w rfl ((r.eqv e0.symm).setHint σ.hint)
      refine wpOpIn_mono (fun a' w' hh => ?_) (opIn_sound (ro := ro) (n := n) (Q := Q) (by simp) r1 hn)
      obtain ⟨σ', hk, r'⟩ := hh
      exact hQ σ' a' w' hk r') l.length (Array.replicate l.length false) _ a _ (by simp)
    (fun j o ho hj => by
      rw [Array.getD_eq_getD_getElem?, Array.getElem?_push, Array.getElem?_replicate] at hj
      split at hj <;> first | (simp at hj; done) | (split at hj <;> simp at hj)) ((r.setHint []).drew (w.drawn + 1)) ha
  have e1 : (Array.replicate l.length false).push false = Array.replicate ((l ++ [oL]).toArray).size false := by
    simp [Array.replicate_succ]
  rw [← e1]
  simpa using hs

section
variable {P : Program} {gl : Gl} {σ : AS} {Q : Exit → AS → Prop}

theorem AT_str {c : Code} {σ' : AS} (hs : Gives P σ σ') (h : AT P gl c σ' Q) : AT P gl c σ Q := fun cx ro n a w hP hg hro r => h cx ro n a w hP hg hro (hs cx a w hP r)

theorem AT_draw_last {id : Nat} {l : List Oper} {oL : Oper} (b : Bool) (m : List (Nat × Nat)) (hm : P.follows .mixedOrders = true) (hok : lexOkM b m l.toArray = true) (hl : lastOk l oL = true) (him : Iv b m σ)
    (h : RVd P gl l.toArray l { σ with hint := [] } fun s => ∃ s', Gives P { s with hint := σ.hint } s' ∧ nextV P gl (l ++ [oL]).toArray oL s' (Q .normal)) : AT P gl (.region id (l ++ [oL]).toArray true) σ Q := by
  intro cx ro n a w hP hg hro r
  subst hP; subst hg
  exact region_draw_last (K := Q .normal) b m hm hok hl him (fun s a w hk r => ⟨s, hk, r⟩) r h

/-- A drawn region whose last operation sees the hints. -/
theorem AT_seq_draw_last {id : Nat} {l : List Oper} {y : Code} (hne : l ≠ []) (b : Bool) (m : List (Nat × Nat)) (hm : P.follows .mixedOrders = true) (hok : lexOkM b m l.dropLast.toArray = true) (hl : lastOk l.dropLast (l.getLast hne) = true) (him : Iv b m σ)
    (h : ∀ K : AS → Prop, (∀ s s', Gives P { s with hint := σ.hint } s' → (∀ K2 : AS → Prop, (∀ s, AT P gl y s Q → K2 s) → RV P gl l.toArray [l.getLast hne] s' K2) → K s) → RVd P gl l.dropLast.toArray l.dropLast { σ with hint := [] } K) : AT P gl (.seq (.region id l.toArray true) y) σ Q := by
  have e : l.dropLast ++ [l.getLast hne] = l := List.dropLast_concat_getLast hne
  have := AT_draw_last (Q := thenA (fun s => AT P gl y s Q) Q) (id := id) b m hm hok hl him (h _ fun s s' hs hn => ⟨s', hs, by
    have h2 := hn _ (fun _ h => h)
    rw [e]
    exact h2⟩)
  rw [e] at this
  exact AT_seq this
end

/-! ### Nil slices -/
def nilled (l : List AV) (ns : List Nat) : List AV := ns.foldl (fun l n => l.set n .nilS) l
attribute [simp] nilled

theorem rep_nilS {lim : Lim} {h : Array Obj} {v : Value} (r : Rep lim h v .nilS) : v = .slice none 0 0 := by cases r; rfl

theorem nilled_rep {lim : Lim} {h : Array Obj} {vs : List Value} : ∀ (ns : List Nat) (l : List AV), RepL lim h vs l → (∀ j ∈ ns, vs[j]? = some (.slice none 0 0)) → RepL lim h vs (nilled l ns)
  | [], l, r, _ => r
  | n :: ns, l, r, hn => by
    refine nilled_rep ns (l.set n .nilS) ?_ (fun j hj => hn j (List.mem_cons_of_mem _ hj))
    have h1 := hn n (List.mem_cons_self ..)
    have e : vs.set n (.slice none 0 0) = vs := by
      apply List.ext_getElem?
      intro i
      rw [List.getElem?_set]
      split
      · rename_i he; subst he
        obtain ⟨h2, -⟩ := List.getElem?_eq_some_iff.1 h1
        rw [if_pos h2, h1]
      · rfl
    have := r.set n (x := .nilS) .nilS
    rwa [e] at this

theorem R.nilled {cx : Cx} {σ : AS} {a : Act} {w : World} (h : R cx σ a w) {t : Nat} {l : List AV} {ns : List Nat} (hl : look t σ.tm = some (.bld l ns)) : R cx { σ with tm := (t, .v (.agg (Pv.nilled l ns)) none) :: σ.tm } a w := by
  obtain ⟨gh, r⟩ := h
  have hu : ∀ {g e}, AS.uses { σ with tm := (t, .v (.agg (Pv.nilled l ns)) none) :: σ.tm } g e → σ.uses g e := by
    rintro g e (⟨s, y, h⟩ | h)
    · simp only [look] at h
      split at h
      · injection h with h; cases h
      · exact .inl ⟨s, y, h⟩
    · exact .inr h
  refine ⟨gh, { frm := r.frm, base := r.base, limB := r.limB, size := r.size, ex := r.ex.sub (fun s q p hq => ?_) rfl rfl, gl := r.gl, tmps := fun s y hy => ?_, boxes := r.boxes, inj := r.inj, shs := r.shs, apart := r.apart, tbs := r.tbs, own := fun g e h => r.own g e (hu h), alone := fun g e g' e' h h' => r.alone g e g' e' (hu h) (hu h') }⟩
  · simp only [look] at hq
    split at hq
    · cases hq
    · exact hq
  · simp only [look] at hy
    split at hy
    · rename_i he; subst he
      injection hy with hy; subst hy
      have h1 := (r.tmps t _ hl).1
      obtain ⟨cs, hv, hr⟩ := Rep.agg_iff.1 h1.1
      refine ⟨⟨Rep.agg_iff.2 ⟨cs, hv, nilled_rep ns l hr fun j hj => ?_⟩, by simp⟩, fun k off hk => by cases hk⟩
      have := h1.2 j hj
      rw [hv] at this
      simpa [Value.cells] using this
    · exact r.tmps s y hy

theorem R.openN {cx : Cx} {σ : AS} {a : Act} {w : World} (h : R cx σ a w) (k j e : Nat) {cells : List AV} (hk : look k σ.bx = some cells) (hj : cells[j]? = some .nilS) (hu : σ.usesB (gid k j) = false) :
    R cx { σ with bx := (k, cells.set j (.slice [])) :: σ.bx, tb := (k, j, gid k j, e) :: σ.tb } a w := by
  obtain ⟨gh, r⟩ := h
  have hlk : ∀ k', (look k' ((k, cells.set j (.slice [])) :: σ.bx)).isSome = (look k' σ.bx).isSome := by
    intro k'
    simp only [look]
    split
    · rename_i h; subst h; rw [hk]; rfl
    · rfl
  obtain ⟨hB, hlim, cs, ee, hcs, hrep⟩ := r.boxes k cells hk
  obtain ⟨v, hv, hrv⟩ := hrep.get hj
  obtain rfl := rep_nilS hrv
  have hset : cs.toList.set j (.slice none 0 0) = cs.toList := by
    apply List.ext_getElem?
    intro i
    rw [List.getElem?_set]
    split
    · rename_i he; subst he
      obtain ⟨h2, -⟩ := List.getElem?_eq_some_iff.1 hv
      rw [if_pos h2, hv]
    · rfl
  have r1 : RR cx gh { σ with bx := (k, cells.set j (.slice [])) :: σ.bx } a w := by
    refine { frm := r.frm, base := r.base, limB := r.limB, size := r.size, ex := r.ex.sub (fun _ _ _ h => h) rfl rfl, gl := r.gl, tmps := fun t x hx => ⟨(r.tmps t x hx).1, fun k' o h => by rw [hlk]; exact (r.tmps t x hx).2 k' o h⟩, boxes := fun k' c hc => ?_, inj := fun k1 k2 h1 h2 => by rw [hlk] at h1 h2; exact r.inj k1 k2 h1 h2, shs := r.shs, apart := fun b k' h1 h2 => by rw [hlk] at h2; exact r.apart b k' h1 h2, tbs := fun k' i g e h => ⟨by rw [hlk]; exact (r.tbs k' i g e h).1, (r.tbs k' i g e h).2⟩, own := fun g e h => ⟨(r.own g e h).1, fun b hb => ⟨fun k' h' => by rw [hlk] at h'; exact ((r.own g e h).2 b hb).1 k' h', ((r.own g e h).2 b hb).2⟩⟩, alone := r.alone }
    simp only [look] at hc
    split at hc
    · rename_i he; subst he
      injection hc with hc; subst hc
      have := hrep.set j (x := .slice []) (.slice0 none 0)
      rw [hset] at this
      exact ⟨hB, hlim, cs, ee, hcs, this⟩
    · exact r.boxes k' c hc
  obtain ⟨gh', r2⟩ := RR.openB k [(gid k j, e)] [j] _ gh r1 (by simp [look]) (fun i hi => by
    simp at hi; subst hi
    show cellAt w.heap (gh.bl k) i = _
    unfold cellAt
    rw [hcs]
    simpa using hv)
  refine ⟨gh', ?_⟩
  have hu' : AS.usesB { σ with bx := (k, cells.set j (.slice [])) :: σ.bx } (gid k j) = false := hu
  simpa [AS.openB, look, hu'] using r2

theorem Gives.nilled {P : Program} {σ : AS} (t : Nat) {l : List AV} {ns : List Nat} (hl : look t σ.tm = some (.bld l ns)) : Gives P σ { σ with tm := (t, .v (.agg (Pv.nilled l ns)) none) :: σ.tm } := fun _ _ _ _ r => r.nilled hl
theorem Gives.openN {P : Program} {σ : AS} (k j e : Nat) {cells : List AV} (hk : look k σ.bx = some cells) (hj : cells[j]? = some .nilS) (hu : σ.usesB (gid k j) = false) :
    Gives P σ { σ with bx := (k, cells.set j (.slice [])) :: σ.bx, tb := (k, j, gid k j, e) :: σ.tb } := fun _ _ _ _ r => r.openN k j e hk hj hu

end Go.Pv

/- Ranges over functions. -/
import Derived.Test.YtoehgdamenpclaaDoorPvO
namespace Go.Pv
open Go

/-- From one description to another, over a step that turns no row of cells and no iterator. -/
theorem RR.recx {cxA cxB : Cx} {gh : Gh} {τ : AS} {a : Act} {w w' : World} (r : RR cxA gh τ a w) (hP : cxB.P = cxA.P) (hB : cxB.B = cxA.B) (hS : cxB.S = cxA.S) (hg : cxB.gl.g = cxA.gl.g) (hy : cxB.gl.y = none) (hlim : cxB.lim = gh.lim) (hw : cxB.w0 = w')
    (hc : ∀ (k : Nat) (cs : Array Value) (e : TypeId) (g : Nat × Nat), w.heap[k]? = some (.cells cs e g) → w'.heap[k]? = w.heap[k]?) (hi : ∀ (k : Nat) (s : ByteArray) (p : Nat), w.heap[k]? = some (.stringIter s p) → w'.heap[k]? = w.heap[k]?) (hsz : w.heap.size ≤ w'.heap.size)
    (m : Nat) (fx' : List Nat) (ds : List Deferred) (hfx : ∀ t v, cxB.fx t = some v → t ∈ fx' ∧ a.tmps.getD t undef = v) (hd : DefOk cxB.B cxB.df m ds w') : RR cxB gh { τ with mks := m, fx := fx' } { a with defers := ds } w' := by
  have hkeep : Keep gh.lim w.heap gh.lim w'.heap := Keep.of_cells hc _
  refine { frm := by rw [hw]; exact Frm.refl _ _ _, base := by rw [hB]; exact Nat.le_trans r.base hsz, limB := fun b _ => by rw [hlim], size := r.size, ex := ⟨by rw [hw, hlim]; exact Keep.refl _ _, hd, fun Y hY => (by rw [hy] at hY; cases hY), ⟨fun t s p h => ?_, r.ex.its.inj⟩, hfx, fun _ k o hk _ _ => by rw [← hw]; exact hk⟩, gl := fun g c h => (r.gl g c (by rw [← hg]; exact h)).mono hkeep, tmps := ?_, boxes := ?_, inj := r.inj, shs := ?_, apart := r.apart, tbs := ?_, own := ?_, alone := r.alone }
  · obtain ⟨b, q1, q2, q3⟩ := r.ex.its.at_ t s p h
    exact ⟨b, q1, by rw [hB]; exact q2, (hi b _ _ q3).trans q3⟩
  · intro t x h
    have h' := r.tmps t x h
    refine ⟨?_, h'.2⟩
    cases x with
    | un => trivial
    | v y g => exact ⟨h'.1.1.mono hkeep, h'.1.2⟩
    | bld l ns => exact ⟨h'.1.1.mono hkeep, h'.1.2⟩
    | lp k off => exact h'.1
    | it s p => trivial
    | cl f ks => exact h'.1
  · intro k cells h
    obtain ⟨q1, q2, cs, e, q3, q4⟩ := r.boxes k cells h
    exact ⟨by rw [hB]; exact q1, q2, cs, e, (hc _ _ _ _ q3).trans q3, q4.mono hkeep⟩
  · intro b cells h
    obtain ⟨q1, q2, cs, e, q3, q4⟩ := r.shs b cells h
    exact ⟨by rw [hB, hS]; exact q1, q2, cs, e, (hc _ _ _ _ q3).trans q3, q4.mono hkeep⟩
  · intro k j g e h
    obtain ⟨q1, q2⟩ := r.tbs k j g e h
    exact ⟨q1, (hkeepC hc q2).trans rfl⟩
  · intro g e h
    obtain ⟨⟨m', xs, q1, q2⟩, q3⟩ := r.own g e h
    rw [hP, hB]
    refine ⟨⟨m', xs, ⟨q1.1, ?_⟩, q2⟩, q3⟩
    rcases q1.2 with hn | ⟨g', cap, cur, hv, hbg, hg', rest⟩
    · exact .inl hn
    · exact .inr ⟨g', cap, cur, hv, hbg, (hc _ _ _ _ hg').trans hg', rest⟩
where
  hkeepC {w w' : World} (hc : ∀ (k : Nat) (cs : Array Value) (e : TypeId) (g : Nat × Nat), w.heap[k]? = some (.cells cs e g) → w'.heap[k]? = w.heap[k]?) {b o : Nat} {v : Value} (hcell : cellAt w.heap b o = some v) : cellAt w'.heap b o = some v := by
    unfold cellAt at hcell ⊢
    cases hb : w.heap[b]? with
    | none => rw [hb] at hcell; cases hcell
    | some x =>
      rw [hb] at hcell
      cases x <;> first | cases hcell | skip
      rename_i cs e g
      rw [hc b cs e g hb, hb]; exact hcell

/-- The temporaries of the activation, as the round has left them. -/
def tmOk (T : List Nat) (tm0 tm : List (Nat × TV)) : Bool := tm0.all fun q => q.2.bareT || (match q.2 with
  | .lp k o => T.contains q.1 && (match look q.1 tm with | some (.lp k' o') => k' == k && o' == o | _ => false)
  | _ => false)

theorem tmOk_spec {T : List Nat} {tm0 tm : List (Nat × TV)} (h : tmOk T tm0 tm = true) {t : Nat} {x : TV} (hx : look t tm0 = some x) : x.bareT = true ∨ ∃ k o, x = .lp k o ∧ t ∈ T ∧ look t tm = some (.lp k o) := by
  unfold tmOk at h
  induction tm0 with
  | nil => cases hx
  | cons q l ih =>
    obtain ⟨j, y⟩ := q
    simp only [List.all_cons, Bool.and_eq_true] at h
    simp only [look] at hx
    split at hx
    · rename_i he
      injection hx with hx
      subst hx; subst he
      have h1 := h.1
      simp only [Bool.or_eq_true] at h1
      rcases h1 with h1 | h1
      · exact .inl h1
      · right
        split at h1
        · rename_i k o
          simp only [Bool.and_eq_true, List.contains_eq_mem, decide_eq_true_eq] at h1
          refine ⟨k, o, rfl, h1.1, ?_⟩
          have h2 := h1.2
          split at h2
          · rename_i k' o' he
            simp only [Bool.and_eq_true, beq_iff_eq] at h2
            rw [he, h2.1, h2.2]
          · cases h2
        · cases h1
    · exact ih h.2 hx

def AS.out (σ : AS) (bs : List Nat) (τ : AS) (m : Nat) : AS := { σ with bx := pick bs τ.bx, tb := τ.tb.filter fun q => (look q.1 (pick bs τ.bx)).isSome, sh := [], mks := m }

/-- Back from a round: the temporaries as they were, the boxes as the round has left them. -/
theorem RR.mix {cx cxR : Cx} {gh0 gh2 : Gh} {σ0 τ : AS} {a a2 : Act} {w w4 : World} (r0 : RR cx gh0 σ0 a w) (hy : cx.gl.y = none) (hf : Frm cx.B cx.S w w4) (hk : Keep gh0.lim w.heap gh2.lim w4.heap) (hl : ∀ b, b < cx.B → gh2.lim b = gh0.lim b)
    (ho : ∀ (k : Nat) (o : Obj), cx.w0.heap[k]? = some o → o.isCells = false → o.isWalk = false → w4.heap[k]? = some o) (r2 : RR cxR gh2 τ a2 w4) (hP : cxR.P = cx.P) (hB : cxR.B = cx.B) (T : List Nat) (hT : ∀ t ∈ T, a2.tmps.getD t undef = a.tmps.getD t undef)
    (htm : tmOk T σ0.tm τ.tm = true) (bs : List Nat) (hlp : lpOk (pick bs τ.bx) σ0.tm = true) (m : Nat) (ds : List Deferred) (hd : DefOk cx.B cx.df m ds w4) : RR cx gh2 (σ0.out bs τ m) { a with defers := ds } w4 := by
  have hsome : ∀ {k}, (look k (pick bs τ.bx)).isSome = true → (look k τ.bx).isSome = true := fun h => by
    obtain ⟨c, hc⟩ := Option.isSome_iff_exists.1 h
    simp [look_pick τ.bx _ c bs hc]
  have huses : ∀ {g e}, (σ0.out bs τ m).uses g e → τ.uses g e ∧ ∃ k j, (k, j, g, e) ∈ τ.tb := by
    rintro g e (⟨t, x, h⟩ | ⟨k, j, h⟩)
    · rcases tmOk_spec htm (show look t σ0.tm = _ from h) with h1 | ⟨k, o, h1, -⟩
      · cases h1
      · cases h1
    · have := (List.mem_filter.1 h).1
      exact ⟨.inr ⟨k, j, this⟩, k, j, this⟩
  refine { frm := r0.frm.trans hf, base := Nat.le_trans r0.base hf.size, limB := fun b hb => (hl b hb).trans (r0.limB b hb), size := r0.size, ex := ⟨r0.ex.keep.trans hk, hd, fun Y hY => (by rw [hy] at hY; cases hY), ⟨fun t s p h => ?_, fun t t' s p s' p' h => ?_⟩, r0.ex.fx, fun _ => ho⟩, gl := fun g c h => (r0.gl g c h).mono hk, tmps := ?_, boxes := fun k c h => ?_, inj := fun k k' h h' => r2.inj k k' (hsome h) (hsome h'), shs := fun b c h => (by cases h), apart := fun b k h => (by cases h), tbs := ?_, own := ?_, alone := fun g e g' e' h h' => r2.alone g e g' e' (huses h).1 (huses h').1 }
  · rcases tmOk_spec htm (show look t σ0.tm = _ from h) with h1 | ⟨k, o, h1, -⟩ <;> cases h1
  · rcases tmOk_spec htm (show look t σ0.tm = _ from h) with h1 | ⟨k, o, h1, -⟩ <;> cases h1
  · intro t x h
    have h0 : look t σ0.tm = some x := h
    have hs := tmOk_spec htm h0
    refine ⟨?_, fun k off he => by subst he; exact lpOk_spec hlp t k off h0⟩
    have h' := (r0.tmps t x h0).1
    cases x with
    | un => trivial
    | v y g =>
      rcases hs with hs | ⟨k, o, hs, -⟩
      · cases g with
        | none => exact ⟨h'.1.mono hk, by simp⟩
        | some g => cases hs
      · cases hs
    | bld l ns => exact ⟨h'.1.mono hk, h'.2⟩
    | it s p => trivial
    | cl f ks => rcases hs with hs | ⟨_, _, hs, -⟩ <;> cases hs
    | lp k off =>
      rcases hs with hs | ⟨k', o', hs, ht, hl2⟩
      · cases hs
      · injection hs with e1 e2
        subst e1; subst e2
        have := (r2.tmps t _ hl2).1
        simp only [TRep] at this ⊢
        rw [hT t ht] at this
        exact this
  · have := r2.boxes k c (look_pick τ.bx k c bs h)
    rw [hB] at this
    exact this
  · intro k j g e h
    obtain ⟨h1, h2⟩ := List.mem_filter.1 h
    exact ⟨h2, (r2.tbs k j g e h1).2⟩
  · intro g e h
    have := r2.own g e (huses h).1
    rw [hP, hB] at this
    exact ⟨this.1, fun b hb => ⟨fun k hk' => (this.2 b hb).1 k (hsome hk'), rfl⟩⟩

end Go.Pv

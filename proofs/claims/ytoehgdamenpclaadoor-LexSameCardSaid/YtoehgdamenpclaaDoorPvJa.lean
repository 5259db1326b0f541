/- Boxes that nobody writes, and the iterators of strings. -/
import Derived.Test.YtoehgdamenpclaaDoorPvJ
namespace Go.Pv
open Go

variable {cx : Cx} {gh : Gh} {σ : AS} {a : Act} {w : World} {o : Oper}

theorem ok_froz (r : RR cx gh σ a w) {t : Nat} {x : Operand} (ho : o.op = .box t x) {c : Prop} {z : TV} (h : frozR (Pv.ev cx.gl σ x) = .val c z) (_ : c) : ValOk cx σ a w o z := by
  have hrun : (execOp a.eval o).run cx.P w = .ok (.value (.pointer (some ⟨w.heap.size, 0, none⟩))) (w.alloc (.cells (a.eval x).cells t)) := by simp [execOp, ho, Instr.box, newVar, newRow]
  have hx := r.ev x
  unfold frozR at h
  split at h
  · rename_i y g hx'
    rw [hx'] at hx
    simp only [OR.val.injEq] at h
    obtain ⟨-, rfl⟩ := h
    refine ⟨_, _, _, hrun, r.newrow _, ⟨?_, by simp⟩, by simp, by simp⟩
    refine Rep.ro_iff.2 ⟨w.heap.size, 0, (a.eval x).cells.toList, rfl, (flatRep hx.1).mono (Keep.of_same (fun b hb => limUp_lt hb) (fun b hb => heap_alloc_old w _ hb)), fun j u hu => ⟨fun n hn => ?_, ?_⟩⟩
    · have hn : limUp gh.lim w.heap.size w.heap.size = some n := hn
      rw [limUp_ge (Nat.le_refl _)] at hn; cases hn
    · unfold cellAt
      rw [show (w.alloc (.cells (a.eval x).cells t)).heap[w.heap.size]? = some (.cells (a.eval x).cells t (0, 0)) from heap_alloc_new w _]
      simpa using hu
  · cases h

theorem uses_cons {k : Nat} {x : TV} (hx : ∀ y p, x ≠ .v y (some p)) {g e : Nat} (h : AS.uses { σ with tm := (k, x) :: σ.tm } g e) : σ.uses g e := by
  rcases h with ⟨t, y, h⟩ | h
  · simp only [look] at h
    split at h
    · injection h with h; exact absurd h (hx y (g, e))
    · exact .inl ⟨t, y, h⟩
  · exact .inr h

theorem RR.rebind (r : RR cx gh σ a w) (k : Nat) (x : TV) (hx : ∀ y p, x ≠ .v y (some p)) (ht : TRep gh w.heap (a.tmps.getD k undef) x) (hlp : ∀ k' o', x ≠ .lp k' o') (hi : Its cx.B { σ with tm := (k, x) :: σ.tm } a w) : RR cx gh { σ with tm := (k, x) :: σ.tm } a w := by
  refine { frm := r.frm, base := r.base, limB := r.limB, size := r.size, ex := ⟨r.ex.keep, r.ex.defers, r.ex.yj, hi, r.ex.fx, r.ex.oth⟩, gl := r.gl, tmps := ?_, boxes := r.boxes, inj := r.inj, shs := r.shs, apart := r.apart, tbs := r.tbs, own := fun g e h => r.own g e (uses_cons hx h), alone := fun g e g' e' h h' => r.alone g e g' e' (uses_cons hx h) (uses_cons hx h') }
  intro t y h
  simp only [look] at h
  split at h
  · rename_i he
    injection h with h; subst h; subst he
    exact ⟨ht, fun k' o' h' => absurd h' (hlp k' o')⟩
  · exact r.tmps t y h

theorem RR.forget (r : RR cx gh σ a w) (k : Nat) : RR cx gh { σ with tm := (k, .un) :: σ.tm } a w := by
  refine r.rebind k .un (by simp) trivial (by simp) (r.ex.its.sub fun t s p h => ?_)
  simp only [look] at h
  split at h
  · cases h
  · exact h

theorem RR.rebind2 {k : Nat} {z : TV} (r : RR cx gh { σ with tm := (k, z) :: σ.tm } a w) (x : TV) (hx : ∀ y p, x ≠ .v y (some p)) (ht : TRep gh w.heap (a.tmps.getD k undef) x) (hlp : ∀ k' o', x ≠ .lp k' o') (hi : Its cx.B { σ with tm := (k, x) :: σ.tm } a w) : RR cx gh { σ with tm := (k, x) :: σ.tm } a w := by
  have hu : ∀ {g e}, AS.uses { σ with tm := (k, x) :: σ.tm } g e → AS.uses { σ with tm := (k, z) :: σ.tm } g e := by
    rintro g e (⟨t, y, h⟩ | h)
    · simp only [look] at h
      split at h
      · injection h with h; exact absurd h (hx y (g, e))
      · rename_i hne; exact .inl ⟨t, y, by simp only [look, if_neg hne]; exact h⟩
    · exact .inr h
  refine { frm := r.frm, base := r.base, limB := r.limB, size := r.size, ex := ⟨r.ex.keep, r.ex.defers, r.ex.yj, hi, r.ex.fx, r.ex.oth⟩, gl := r.gl, tmps := ?_, boxes := r.boxes, inj := r.inj, shs := r.shs, apart := r.apart, tbs := r.tbs, own := fun g e h => r.own g e (hu h), alone := fun g e g' e' h h' => r.alone g e g' e' (hu h) (hu h') }
  intro t y h
  simp only [look] at h
  split at h
  · rename_i he
    injection h with h; subst h; subst he
    exact ⟨ht, fun k' o' h' => absurd h' (hlp k' o')⟩
  · rename_i hne; exact r.tmps t y (by simp only [look, if_neg hne]; exact h)

theorem eff_range (r : RR cx gh σ a w) {t : Nat} {x : Operand} (ho : o.op = .range t x) (hd : ∀ t, o.dst = some t → t < σ.n ∧ t ∉ σ.fx) {c : Prop} {σ' : AS} (h : rangeR cx.P σ o.dst t (Pv.ev cx.gl σ x).av = .eff c σ') (_ : c) : EffOk cx a w o σ' := by
  unfold rangeR at h
  split at h
  · rename_i k s hu hk hx
    simp only [OR.eff.injEq] at h
    obtain ⟨-, rfl⟩ := h
    have hv := rep_str (r.av x _ hx)
    have hrun : (execOp a.eval o).run cx.P w = .ok (.value (.pointer (some ⟨w.heap.size, 0, none⟩))) (w.alloc (.stringIter ⟨s.toArray⟩ 0)) := by
      simp only [execOp, ho, hv, Sem.run_bind, run_range_string w t _ hu, Result.andThen_ok, Sem.run_pure]; rfl
    refine .inl ⟨_, _, hrun, ?_⟩
    have r1 := r.newrow (.stringIter ⟨s.toArray⟩ 0)
    have hd1 := hd k hk
    rw [hk]
    have r2 := r1.put (some k) (fun t ht => hd t (by rw [hk]; exact ht)) (v := .pointer (some ⟨w.heap.size, 0, none⟩)) (x := .un) rfl trivial (by simp) (by simp)
    refine ⟨_, r2.rebind2 (.it s 0) (by simp) trivial (by simp) ?_⟩
    have hsz : (a.put (some k) (.pointer (some ⟨w.heap.size, 0, none⟩))).tmps.getD k undef = .pointer (some ⟨w.heap.size, 0, none⟩) := by
      have := r.size
      simp [Act.put, hd1.1, this]
    have hold : ∀ t s' p', look t ((k, TV.it s 0) :: σ.tm) = some (.it s' p') → k ≠ t → ∃ r', (a.put (some k) (.pointer (some ⟨w.heap.size, 0, none⟩))).tmps.getD t undef = .pointer (some ⟨r', 0, none⟩) ∧ r' < w.heap.size ∧ cx.B ≤ r' ∧ (w.alloc (.stringIter ⟨s.toArray⟩ 0)).heap[r']? = some (.stringIter ⟨s'.toArray⟩ p') ∧ look t σ.tm = some (.it s' p') := by
      intro t s' p' h hne
      simp only [look, if_neg hne] at h
      obtain ⟨r', h1, h2, h3⟩ := r.ex.its.at_ t s' p' h
      have hlt := (Array.getElem?_eq_some_iff.1 h3).1
      exact ⟨r', by rw [getD_put_ne a hne]; exact h1, hlt, h2, (heap_alloc_old w _ hlt).trans h3, h⟩
    refine ⟨fun t s' p' h => ?_, fun t t' s1 p1 s2 p2 h1 h2 h3 => ?_⟩
    · by_cases he : k = t
      · subst he
        simp only [look, if_true, Option.some.injEq, TV.it.injEq] at h
        obtain ⟨rfl, rfl⟩ := h
        exact ⟨w.heap.size, hsz, r.base, heap_alloc_new w _⟩
      · obtain ⟨r', q1, q2, q3, q4, -⟩ := hold t s' p' h he
        exact ⟨r', q1, q3, q4⟩
    · by_cases e1 : k = t <;> by_cases e2 : k = t'
      · exact e1.symm.trans e2
      · obtain ⟨r', q1, q2, -⟩ := hold t' s2 p2 h2 e2
        rw [← e1, hsz, q1] at h3
        injection h3 with h3; injection h3 with h3; injection h3 with h3; omega
      · obtain ⟨r', q1, q2, -⟩ := hold t s1 p1 h1 e1
        rw [← e2, hsz, q1] at h3
        injection h3 with h3; injection h3 with h3; injection h3 with h3; omega
      · obtain ⟨r1, q1, -, -, -, q5⟩ := hold t s1 p1 h1 e1
        obtain ⟨r2, q1', -, -, -, q5'⟩ := hold t' s2 p2 h2 e2
        rw [getD_put_ne a e1, getD_put_ne a e2] at h3
        exact r.ex.its.inj t t' _ _ _ _ q5 q5' h3
  · cases h

theorem RR.nextit (r : RR cx gh σ a w) (hy : cx.gl.y = none) {t : Nat} {s : List UInt8} {p : Nat} (h : look t σ.tm = some (.it s p)) (p' : Nat) :
    ∃ b, a.tmps.getD t undef = .pointer (some ⟨b, 0, none⟩) ∧ w.heap[b]? = some (.stringIter ⟨s.toArray⟩ p) ∧ RR cx gh { σ with tm := (t, .it s p') :: σ.tm } a (w.putObj b (.stringIter ⟨s.toArray⟩ p')) := by
  obtain ⟨b, h1, h2, h3⟩ := r.ex.its.at_ t s p h
  refine ⟨b, h1, h3, ?_⟩
  have hlt := (Array.getElem?_eq_some_iff.1 h3).1
  have hother : ∀ {k : Nat}, k ≠ b → (w.putObj b (.stringIter ⟨s.toArray⟩ p')).heap[k]? = w.heap[k]? := fun hk => World.putObj_heap_other hk
  have hcells : ∀ {k : Nat} {cs : Array Value} {e : TypeId} {g : Nat × Nat}, w.heap[k]? = some (.cells cs e g) → (w.putObj b (.stringIter ⟨s.toArray⟩ p')).heap[k]? = w.heap[k]? := fun hk => hother (fun he => by rw [he, h3] at hk; cases hk)
  have hkeep : Keep gh.lim w.heap gh.lim (w.putObj b (.stringIter ⟨s.toArray⟩ p')).heap := Keep.of_cells (fun k cs e g hk => hcells hk) _
  have r0 := r.forget t
  have hits : ∀ t' s' q', look t' ((t, TV.un) :: σ.tm) = some (.it s' q') → ∃ r', a.tmps.getD t' undef = .pointer (some ⟨r', 0, none⟩) ∧ cx.B ≤ r' ∧ r' ≠ b ∧ w.heap[r']? = some (.stringIter ⟨s'.toArray⟩ q') := by
    intro t' s' q' h'
    simp only [look] at h'
    split at h'
    · cases h'
    · rename_i hne
      obtain ⟨r', q1, q2, q3⟩ := r.ex.its.at_ t' s' q' h'
      refine ⟨r', q1, q2, fun he => ?_, q3⟩
      subst he
      exact hne (r.ex.its.inj t t' _ _ _ _ h h' (by rw [h1, q1]))
  have hex : Ex cx gh.lim { σ with tm := (t, .un) :: σ.tm } a (w.putObj b (.stringIter ⟨s.toArray⟩ p')) := by
    refine ⟨r.ex.keep.trans hkeep, ?_, fun Y hY => (by rw [hy] at hY; cases hY), ⟨fun t' s' q' h' => ?_, r0.ex.its.inj⟩, r.ex.fx, fun hy k o hk hc hw => (hother (fun he => by have := r.ex.oth hy k o hk hc hw; rw [he, h3] at this; cases this; cases hw)).trans (r.ex.oth hy k o hk hc hw)⟩
    · obtain ⟨Ds, e1, e2, e3⟩ := r.ex.defers
      exact ⟨Ds, e1, e2, fun D hD => ⟨(e3 D hD).1, (hother (fun he => by have := (e3 D hD).2; rw [he, h3] at this; cases this)).trans (e3 D hD).2⟩⟩
    · obtain ⟨r', q1, q2, q3, q4⟩ := hits t' s' q' h'
      exact ⟨r', q1, q2, (hother q3).trans q4⟩
  have r1 := r0.world (w' := w.putObj b (.stringIter ⟨s.toArray⟩ p')) gh.lim hkeep ⟨rfl, rfl, rfl, by simp, fun k hk _ => hother (by omega)⟩ (fun _ _ => rfl) hex
    (fun k hk => by
      obtain ⟨cells, hc⟩ := Option.isSome_iff_exists.1 hk
      obtain ⟨_, _, cs, e, q3, _⟩ := r.boxes k cells hc
      exact hcells q3)
    (fun b' hb => by
      obtain ⟨cells, hc⟩ := Option.isSome_iff_exists.1 hb
      obtain ⟨_, _, cs, e, q3, _⟩ := r.shs b' cells hc
      exact hcells q3)
    (fun g e hg b' hb => by
      obtain ⟨⟨m, xs, q1, _⟩, _⟩ := r0.own g e hg
      rcases q1.2 with ⟨hn, -⟩ | ⟨g', cap, cur, hv, _, hg', _⟩
      · rw [show ({ gh with lim := gh.lim } : Gh).gv g = gh.gv g from rfl] at *; rw [hn] at hb; cases hb
      · rw [hv] at hb
        simp only [Value.ownBlock, Option.some.injEq] at hb
        subst hb
        exact hcells hg')
  refine r1.rebind2 (.it s p') (by simp) trivial (by simp) ⟨fun t' s' q' h' => ?_, fun t1 t2 s1 p1 s2 p2 g1 g2 g3 => ?_⟩
  · simp only [look] at h'
    split at h'
    · rename_i he
      subst he
      simp only [Option.some.injEq, TV.it.injEq] at h'
      obtain ⟨rfl, rfl⟩ := h'
      exact ⟨b, h1, h2, World.putObj_heap_same hlt⟩
    · rename_i hne
      obtain ⟨r', q1, q2, q3, q4⟩ := hits t' s' q' (by simp only [look, if_neg hne]; exact h')
      exact ⟨r', q1, q2, (hother q3).trans q4⟩
  · have conv : ∀ t' s' q', look t' ((t, TV.it s p') :: σ.tm) = some (.it s' q') → ∃ s'' q'', look t' σ.tm = some (.it s'' q'') := by
      intro t' s' q' h'
      simp only [look] at h'
      split at h'
      · rename_i he; subst he; exact ⟨s, p, h⟩
      · exact ⟨s', q', h'⟩
    obtain ⟨_, _, c1⟩ := conv _ _ _ g1
    obtain ⟨_, _, c2⟩ := conv _ _ _ g2
    exact r.ex.its.inj t1 t2 _ _ _ _ c1 c2 g3

theorem eff_next (r : RR cx gh σ a w) (hy : cx.gl.y = none) {x : Operand} {str : Bool} (ho : o.op = .next x str) (hd : ∀ t, o.dst = some t → t < σ.n ∧ t ∉ σ.fx) {c : Prop} {σ' : AS} (h : nextR σ o.dst x str = .eff c σ') (_ : c) : EffOk cx a w o σ' := by
  unfold nextR at h
  split at h
  · rename_i t
    split at h
    · rename_i s p hl
      split at h
      · rename_i hp
        simp only [OR.eff.injEq] at h
        obtain ⟨-, rfl⟩ := h
        obtain ⟨b, h1, h3, r1⟩ := r.nextit hy hl (p + (dec s p).2)
        have hrun : (execOp a.eval o).run cx.P w = .ok (.value (.tuple #[.bool true, .int .i64 p, .int .i32 (dec s p).1])) (w.putObj b (.stringIter ⟨s.toArray⟩ (p + (dec s p).2))) := by
          have hev : a.eval (.tmp t) = .pointer (some ⟨b, 0, none⟩) := h1
          simp only [execOp, ho, hev, Instr.next, getObj, setObj, Sem.run_bind, Sem.run, h3, Result.andThen, dec]
          simp [hp, goInt, Sem.run, h3, World.putObj, ByteArray.size]
        exact .inl ⟨_, _, hrun, gh, r1.put_v o.dst hd (Rep.tup_iff.2 ⟨_, rfl, .cons (.bool _) (.cons (.int _ _) (.cons (.int _ _) (RepL.nil _ _)))⟩)⟩
      · rename_i hp
        simp only [OR.eff.injEq] at h
        obtain ⟨-, rfl⟩ := h
        obtain ⟨b, h1, h2, h3⟩ := r.ex.its.at_ t s p hl
        have hrun : (execOp a.eval o).run cx.P w = .ok (.value (.tuple #[.bool false])) w := by
          have hev : a.eval (.tmp t) = .pointer (some ⟨b, 0, none⟩) := h1
          simp only [execOp, ho, hev, Instr.next, getObj, setObj, Sem.run_bind, Sem.run, h3, Result.andThen]
          simp [hp, Sem.run, ByteArray.size]
        exact .inl ⟨_, _, hrun, gh, r.put_v o.dst hd (Rep.tup_iff.2 ⟨_, rfl, .cons (.bool _) (RepL.nil _ _)⟩)⟩
    · cases h
  · cases h

end Go.Pv

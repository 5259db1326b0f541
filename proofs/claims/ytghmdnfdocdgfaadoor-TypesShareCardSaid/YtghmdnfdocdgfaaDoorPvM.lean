import Derived.Test.YtghmdnfdocdgfaaDoorPvK
set_option linter.all false
section
/- Regions: in the order of the text, and in any order. -/
namespace Go.Pv
open Go

theorem opR_call {P : Program} {gl : Gl} {σ : AS} {o : Oper} :
    (∀ f args, opR P gl σ o = .call f args → ∃ c fo caps l g, o.op = .call c ∧ c.callee = .value fo ∧ avs (evN gl σ) c.args.toList = some l ∧ ((ev gl σ fo = .v (.func f caps) g ∧ args = l ++ caps) ∨ (ev gl σ fo = .v (.bfn f caps) g ∧ args = caps ++ l))) ∧
    (∀ f x, opR P gl σ o = .yld f x → ∃ c fo g, o.op = .call c ∧ c.callee = .value fo ∧ ev gl σ fo = .v (.yld f) g ∧ avs (evN gl σ) c.args.toList = some [x]) := by
  have noc : ∀ {r : OR}, (∀ f l, r ≠ .call f l) → (∀ f x, r ≠ .yld f x) → (∀ f args, r = .call f args → ∃ c fo caps l g, o.op = .call c ∧ c.callee = .value fo ∧ avs (evN gl σ) c.args.toList = some l ∧ ((ev gl σ fo = .v (.func f caps) g ∧ args = l ++ caps) ∨ (ev gl σ fo = .v (.bfn f caps) g ∧ args = caps ++ l))) ∧
    (∀ f x, r = .yld f x → ∃ c fo g, o.op = .call c ∧ c.callee = .value fo ∧ ev gl σ fo = .v (.yld f) g ∧ avs (evN gl σ) c.args.toList = some [x]) := fun h1 h2 => ⟨fun f a h => absurd h (h1 f a), fun f x h => absurd h (h2 f x)⟩
  have hl : ∀ {t l}, (∀ f m, loadR P t l ≠ .call f m) ∧ ∀ f x, loadR P t l ≠ .yld f x := by
    intro t l
    constructor <;> intro f m h <;> unfold loadR at h <;> split at h <;> first | cases h | (split at h <;> cases h)
  have hb : ∀ {op x y}, (∀ f m, binR op x y ≠ .call f m) ∧ ∀ f m, binR op x y ≠ .yld f m := by
    intro op x y
    constructor <;> intro f l h <;> unfold binR at h <;> split at h <;> first | cases h | (split at h <;> first | cases h | (unfold intOp at h; split at h <;> cases h)) | (unfold strOp at h; split at h <;> cases h)
  have hlen : ∀ {t x}, (∀ f m, lenR P t x ≠ .call f m) ∧ ∀ f m, lenR P t x ≠ .yld f m := by
    intro t x
    constructor <;> intro f l h <;> unfold lenR at h <;> split at h <;> first | cases h | (split at h <;> first | cases h | (simp only [if_true] at h; cases h) | (simp at h; done))
  unfold opR
  split
  case h_21 c hc =>
    unfold callR
    split
    · rename_i fo hfo
      split
      · rename_i g caps g' l hg1 hl
        refine ⟨fun f args h => ?_, fun f x h => (by cases h)⟩
        simp only [OR.call.injEq] at h
        obtain ⟨rfl, rfl⟩ := h
        exact ⟨c, fo, caps, l, g', hc, hfo, hl, .inl ⟨hg1, rfl⟩⟩
      · rename_i l g x hg1 hl
        refine ⟨fun f args h => (by cases h), fun f y h => ?_⟩
        simp only [OR.yld.injEq] at h
        obtain ⟨rfl, rfl⟩ := h
        exact ⟨c, fo, g, hc, hfo, hg1, hl⟩
      · exact noc (by simp) (by simp)
      · rename_i g fs g' l hg1 hl
        refine ⟨fun f args h => ?_, fun f x h => (by cases h)⟩
        simp only [OR.call.injEq] at h
        obtain ⟨rfl, rfl⟩ := h
        exact ⟨c, fo, fs, l, g', hc, hfo, hl, .inr ⟨hg1, rfl⟩⟩
      · exact noc (by simp) (by simp)
    · split
      · exact noc hlen.1 hlen.2
      · exact noc (fun f l h => by unfold mxR at h; split at h <;> cases h) (fun f l h => by unfold mxR at h; split at h <;> cases h)
      · exact noc (fun f l h => by unfold mxR at h; split at h <;> cases h) (fun f l h => by unfold mxR at h; split at h <;> cases h)
      · split
        · exact noc (fun f l h => by unfold appendR at h; split at h <;> first | (split at h <;> cases h) | cases h) (fun f l h => by unfold appendR at h; split at h <;> first | (split at h <;> cases h) | cases h)
        · exact noc (by simp) (by simp)
      · exact noc (by simp) (by simp)
    · exact noc (by simp) (by simp)
  case h_1 => exact noc (by simp) (by simp)
  case h_2 => 
    constructor <;> intro f l h <;> unfold assignR at h <;> split at h <;> first | cases h | (split at h <;> first | cases h | (split at h <;> first | cases h | (split at h <;> first | cases h | (split at h <;> cases h))))
  case h_3 => exact noc (fun f l h => by unfold pickR at h; split at h <;> cases h) (fun f l h => by unfold pickR at h; split at h <;> cases h)
  case h_4 =>
    unfold orR
    split
    · split
      · exact noc (fun f l h => by unfold nilSR at h; repeat' (split at h)
                                   all_goals cases h) (fun f l h => by unfold nilSR at h; repeat' (split at h)
                                                                       all_goals cases h)
      · exact noc (fun f l h => by unfold eqR at h; split at h <;> first | (split at h <;> cases h) | cases h) (fun f l h => by unfold eqR at h; split at h <;> first | (split at h <;> cases h) | cases h)
    · exact noc hb.1 hb.2
  case h_5 => constructor <;> intro f l h <;> unfold unR at h <;> split at h <;> first | (split at h <;> cases h) | cases h
  case h_6 => constructor <;> intro f l h <;> unfold fieldAddrR at h <;> split at h <;> first | (split at h <;> cases h) | cases h
  case h_7 => constructor <;> intro f l h <;> unfold indexAddrR at h <;> split at h <;> first | (split at h <;> cases h) | cases h
  case h_8 =>
    have hr : ∀ {g t l}, (∀ f m, retag g (loadR P t l) ≠ .call f m) ∧ ∀ f m, retag g (loadR P t l) ≠ .yld f m := by
      intro g t l
      constructor <;> intro f m h <;> unfold retag at h <;> split at h <;> first | cases h | exact absurd h (hl.1 f m) | exact absurd h (hl.2 f m)
    unfold loadOpR
    split
    · exact noc hl.1 hl.2
    · split
      · split
        · exact noc hl.1 hl.2
        · exact noc hr.1 hr.2
        · exact noc (by simp) (by simp)
      · exact noc (by simp) (by simp)
    · split
      · exact noc hl.1 hl.2
      · exact noc (by simp) (by simp)
    · exact noc (by simp) (by simp)
  case h_9 => constructor <;> intro f l h <;> unfold indexR at h <;> split at h <;> first | cases h | (split at h <;> first | cases h | (simp only [if_true] at h; cases h) | (simp at h; done))
  case h_10 =>
    constructor <;> intro f l h <;> unfold sliceR at h <;> split at h <;> first | cases h | (split at h <;> first | cases h | (simp only [if_true] at h; split at h <;> cases h) | (split at h <;> cases h) | (simp at h; done))
  case h_11 => constructor <;> intro f l h <;> unfold nilCheckR at h <;> split at h <;> cases h
  case h_12 => constructor <;> intro f l h <;> unfold convertR at h <;> split at h <;> first | (split at h <;> first | cases h | (split at h <;> cases h)) | cases h
  case h_13 => constructor <;> intro f l h <;> unfold buildR at h <;> split at h <;> first | (split at h <;> first | (split at h <;> cases h) | cases h) | cases h
  case h_14 =>
    unfold orR
    split
    · constructor <;> intro f l h <;> unfold makeClR at h <;> split at h <;> first | (split at h <;> cases h) | cases h
    · constructor <;> intro f l h <;> unfold makeFuncR at h <;> split at h <;> first | (split at h <;> cases h) | cases h
  case h_15 => constructor <;> intro f l h <;> unfold makeIfaceR at h <;> split at h <;> first | (split at h <;> cases h) | cases h
  case h_16 => constructor <;> intro f l h <;> unfold extractR at h <;> split at h <;> first | (split at h <;> cases h) | cases h
  case h_17 =>
    split
    · exact noc (fun f l h => by unfold frozR at h; split at h <;> cases h) (fun f l h => by unfold frozR at h; split at h <;> cases h)
    · constructor <;> intro f l h <;> unfold boxR at h <;> split at h <;> first | (split at h <;> first | (split at h <;> cases h) | cases h) | cases h
  case h_18 => constructor <;> intro f l h <;> unfold allocR at h <;> split at h <;> first | (split at h <;> cases h) | cases h
  case h_19 => constructor <;> intro f l h <;> unfold storeR at h <;> split at h <;> first | cases h | (split at h <;> first | (split at h <;> cases h) | cases h)
  case h_20 => constructor <;> intro f l h <;> unfold buildSliceR at h <;> split at h <;> first | cases h | (split at h <;> first | cases h | (split at h <;> first | cases h | (split at h <;> first | cases h | (split at h <;> cases h))))
  case h_22 => constructor <;> intro f l h <;> unfold rangeR at h <;> split at h <;> cases h
  case h_23 => constructor <;> intro f l h <;> unfold nextR at h <;> split at h <;> first | cases h | (split at h <;> first | cases h | (split at h <;> cases h))
  case h_24 =>
    constructor <;> intro f l h <;> unfold fieldR loadR at h <;> split at h <;> first | cases h | (split at h <;> first | cases h | (split at h <;> first | cases h | (split at h <;> cases h)))
  · exact noc (by simp) (by simp)

def OR.noB : OR → Prop
  | .callB _ _ _ => False
  | _ => True

theorem opR_callB {P : Program} {gl : Gl} {σ : AS} {o : Oper} {f : FuncId} {args : List AV} {ks : List Nat} (h : opR P gl σ o = .callB f args ks) :
    ∃ c fo, o.op = .call c ∧ c.callee = .value fo ∧ ev gl σ fo = .cl f ks ∧ avs (evN gl σ) c.args.toList = some args := by
  have hl : ∀ {t l}, (loadR P t l).noB := by
    intro t l
    unfold loadR
    repeat' (first | exact trivial | split)
  have hh : (opR P gl σ o).noB ∨ ∃ c fo f args ks, opR P gl σ o = .callB f args ks ∧ o.op = .call c ∧ c.callee = .value fo ∧ ev gl σ fo = .cl f ks ∧ avs (evN gl σ) c.args.toList = some args := by
    unfold opR
    split
    case h_21 c hc =>
      unfold callR
      split
      · rename_i fo hfo
        split
        · exact .inl trivial
        · exact .inl trivial
        · rename_i g ks l hg hl
          exact .inr ⟨c, fo, g, l, ks, rfl, hc, hfo, hg, hl⟩
        · exact .inl trivial
        · exact .inl trivial
      · left
        unfold lenR mxR appendR
        repeat' (first | exact trivial | split)
      · exact .inl trivial
    case h_4 =>
      left
      unfold orR
      split
      · split
        · unfold nilSR; repeat' (first | exact trivial | split)
        · unfold eqR; repeat' (first | exact trivial | split)
      · unfold binR; repeat' (first | exact trivial | split | unfold intOp | unfold strOp)
    case h_14 =>
      left
      unfold orR
      split
      · unfold makeClR; repeat' (first | exact trivial | split)
      · unfold makeFuncR; repeat' (first | exact trivial | split)
    case h_8 =>
      left
      unfold loadOpR
      repeat' (first | exact trivial | exact hl | split | unfold retag)
    case h_24 =>
      left
      unfold fieldR
      repeat' (first | exact trivial | exact hl | split)
    all_goals
      left
      repeat' (first | exact trivial | split | unfold assignR | unfold pickR | unfold unR | unfold fieldAddrR | unfold indexAddrR | unfold indexR | unfold sliceR | unfold nilCheckR | unfold convertR | unfold buildR | unfold makeIfaceR | unfold extractR | unfold frozR | unfold boxR | unfold allocR | unfold storeR | unfold buildSliceR | unfold rangeR | unfold nextR)
  rcases hh with hh | ⟨c, fo, f', args', ks', h1, h2⟩
  · rw [h] at hh; exact hh.elim
  · rw [h] at h1
    injection h1 with e1 e2 e3
    subst e1; subst e2; subst e3
    exact ⟨c, fo, h2⟩

theorem opIn_sound {cx : Cx} {ro : Option Nat} {n : Nat} {ops : Array Oper} {Q : Exit → Act → World → Prop} {K : AS → Prop} {i : Nat} {o : Oper} {σ : AS} {a : Act} {w : World} (hi : ops[i]? = some o) (r : R cx σ a w)
    (h : nextV cx.P cx.gl ops o σ K) : wpOpIn (Fw ro) n cx.P ops Q i (fun a' w' => ∃ σ', K σ' ∧ R cx σ' a' w') a w := by
  obtain ⟨gh, r⟩ := r
  obtain ⟨hd, h⟩ := h
  have hd' := dst_of hd
  have hdefer : ∀ c, o.op ≠ .defer c := fun c hc => by simp [dstOk, hc] at hd
  have hab : ∀ f, o.about cx.P w a.eval = some f → (Fw ro).fn f := fun _ _ => trivial
  unfold wpOpIn
  simp only [hi]
  cases hg : guardB ops o σ with
  | none => rw [hg] at h; exact h.elim
  | some g =>
    rw [hg] at h
    have hw := wanted_of r hg
    cases g with
    | false =>
      rw [hw]
      simp only [Bool.false_eq_true, if_false]
      exact ⟨hab, _, h, gh, r.put_v o.dst hd' (Rep.tup_iff.2 ⟨#[], rfl, RepL.nil _ _⟩)⟩
    | true =>
      rw [hw]
      simp only [if_true]
      simp only [] at h
      refine ⟨hab, ?_⟩
      rw [Oper.semAt_eq _ _ _ hdefer]
      obtain ⟨hv, he⟩ := opR_val_eff r hd
      cases ho : opR cx.P cx.gl σ o with
      | stuck => rw [ho] at h; exact h.elim
      | val c x =>
        rw [ho] at h
        obtain ⟨hc, hk⟩ := h
        obtain ⟨v, w', gh', hrun, r', hx, hlp, hu⟩ := hv c x ho hc
        rw [hrun]
        exact ⟨_, hk, gh', r'.put o.dst hd' (opR_nit ho) hx hlp hu⟩
      | eff c σ' =>
        rw [ho] at h
        obtain ⟨hc, hgy, hk⟩ := h
        rcases he c σ' ho hc hgy with ⟨v, w', hrun, hr⟩ | ⟨w', hrun, hr⟩
        · rw [hrun]; exact ⟨σ', hk, hr⟩
        · rw [hrun]; exact ⟨σ', hk, hr⟩
      | call f args =>
        rw [ho] at h
        obtain ⟨c, fo, caps, l, g', hc, hfo, hl, hfv⟩ := opR_call.1 f args ho
        have hargs := avsN_rep r c.args.toList l hl
        have hfr := r.ev fo
        obtain ⟨fs, cs, hfo', hrep, hsame⟩ : ∃ fs cs : Array Value, a.eval fo = .func (.func f) fs cs ∧ RepL gh.lim w.heap (fs.toList ++ c.args.toList.map a.eval ++ cs.toList) args ∧ (fs.toList ++ c.args.toList.map a.eval ++ cs.toList).toArray = fs ++ c.args.map a.eval ++ cs := by
          rcases hfv with ⟨hfv, rfl⟩ | ⟨hfv, rfl⟩
          · rw [hfv] at hfr
            obtain ⟨cs, hfo', hcaps⟩ := Rep.func_iff.1 hfr.1
            exact ⟨#[], cs, hfo', by simpa using hargs.append hcaps, by apply Array.ext'; simp⟩
          · rw [hfv] at hfr
            obtain ⟨fs, hfo', hcaps⟩ := Rep.bfn_iff.1 hfr.1
            exact ⟨fs, #[], hfo', by simpa using hcaps.append hargs, by apply Array.ext'; simp⟩
        have hrun : fnOk cx.P f = true → (execOp a.eval o).run cx.P w = .ok (.enter f (fs ++ c.args.map a.eval ++ cs)) w := by
          intro hfn
          have hfn' : ∃ fn, cx.P.funcs[f]? = some fn ∧ fn.body.isSome = true ∧ (fn.name == "runtime.NumGoroutine") = false := by
            unfold fnOk at hfn
            split at hfn
            · rename_i fn hq
              simp only [Bool.and_eq_true, Bool.not_eq_true'] at hfn
              exact ⟨fn, hq, hfn.1, hfn.2⟩
            · cases hfn
          obtain ⟨fn, hq, hb, hnm⟩ := hfn'
          have hb' : fn.body.isNone = false := by simpa using hb
          have hnm' : ¬ fn.name = "runtime.NumGoroutine" := by simpa using hnm
          simp only [execOp, hc, resolve, hfo, hfo', Deferred.ofValue, invoke, callFunc, Sem.run_bind, Sem.run_pure, Result.andThen_ok, run_program, Array.empty_append, hq, hnm', hb', Bool.false_eq_true, if_false, beq_iff_eq]
        rcases h with ⟨hgy, sh, post, m, ⟨hm, hin⟩, ⟨hfn, hval⟩, hk⟩ | ⟨Y, res, ys', hY, hbare, ⟨hfn, hval⟩, hk⟩ | ⟨hgy, res, el, g, hun, ⟨hfn, hval⟩, hk⟩
        · rw [hrun hfn]
          refine ⟨fun h => (by cases h), callsIn_fw ?_⟩
          have hcalls := hval gh.lim w _ (fun g c hg => r.gl g c hg) hrep (fun b cells hb => (r.shs b cells (hin b cells hb)).2)
          rw [hsame] at hcalls
          refine hcalls.mono fun e w' => ?_
          rintro ⟨v, res, sh', lim', rfl, hf, hlim, hres, hshs, hpost, hcov, hnew⟩
          have r2 := r.called hgy sh sh' hin lim' hf hlim hshs hcov hnew
          have r3 := r2.weak (σ' := { σ with sh := m sh' }) ⟨rfl, fun t x hx => ⟨hx, (r2.tmps t x hx).2⟩, fun k c hk => hk, fun q hq => ⟨hq, (r2.tbs q.1 q.2.1 q.2.2.1 q.2.2.2 hq).1⟩, fun b c hb => hm sh' b c hb, rfl, rfl, rfl⟩
          refine ⟨_, hk res sh' hpost, _, r3.put_v o.dst hd' hres⟩
        · rw [hrun hfn]
          refine ⟨fun h => (by cases h), callsIn_fw ?_⟩
          have hcalls := hval gh.lim w _ (fun g c hg => r.gl g c hg) hrep (r.ex.yj Y hY).2
          rw [hsame] at hcalls
          refine hcalls.mono fun e w' => ?_
          rintro ⟨v, lim', rfl, hf, hkeep, hres, hj⟩
          refine ⟨_, hk, _, (r.calledY hbare hY lim' ys' hkeep hf hj).put_v o.dst hd' hres⟩
        · rw [hrun hfn]
          refine ⟨fun h => (by cases h), callsIn_fw ?_⟩
          have hcalls := hval gh.lim w _ (fun g c hg => r.gl g c hg) hrep
          rw [hsame] at hcalls
          refine hcalls.mono fun e w' => ?_
          rintro ⟨v, m, xs, lim', rfl, hf, hlim, hres, hown, hlb⟩
          have r2 : RR cx { gh with lim := lim' } σ a w' := r.called hgy [] [] (fun b c h => (by cases h)) lim' (hf.mono (Nat.le_refl _) (fun _ _ h => h.elim)) hlim (fun b c h => (by cases h)) (fun _ h => h) (fun b h => (by cases h))
          have r3 := r2.regroup g (AS.not_uses hun) v
          have hlt : ∀ b, v.ownBlock = some b → w.heap.size ≤ b := fun b hb => (hown.lt b hb).1
          have r4 := r3.putTag o.dst hd' g el (x := res) (by dsimp only; rw [upd_same]; exact hres) (by
            dsimp only; rw [upd_same]
            refine ⟨⟨m, xs, ⟨hown.1, ?_⟩, hlb⟩, fun b hb => ⟨fun k hk2 => ?_, ?_⟩, fun g' e' hu hne b hb => ?_⟩
            · rcases hown.2 with h1 | ⟨g1, cap, cur, h1, h2, h3⟩
              · exact .inl h1
              · exact .inr ⟨g1, cap, cur, h1, Nat.le_trans r.base h2, h3⟩
            · have h1 := r.lt_box hk2
              have h2 := hlt b hb
              show gh.bl k ≠ b
              omega
            · have h2 := hlt b hb
              cases hq : look b σ.sh with
              | none => rfl
              | some c2 =>
                have h1 := r.lt_sh (b := b) (by rw [hq]; rfl)
                omega
            · dsimp only
              rw [upd_ne gh.gv v hne]
              intro hb2
              have h1 := (r.lt_own hu hb2).1
              have h2 := hlt b hb
              omega) (fun e' h => absurd h (AS.not_uses hun e'))
          dsimp only at r4
          rw [upd_same] at r4
          exact ⟨_, hk, _, r4⟩
      | callB f args ks =>
        rw [ho] at h
        obtain ⟨c, fo, hc, hfo, hfv, hl⟩ := opR_callB ho
        obtain ⟨x, bx', tb', ⟨hgy, hgt⟩, hst, ⟨hfn, hval⟩, hk⟩ := h
        have hfr := r.ev fo
        rw [hfv] at hfr
        have hfo' : a.eval fo = .func (.func f) #[] (ks.map fun k => Value.pointer (some ⟨gh.bl k, 0, none⟩)).toArray := hfr
        have hargs := avsN_rep r c.args.toList args hl
        have hsame : (c.args.toList.map a.eval ++ ks.map fun k => Value.pointer (some ⟨gh.bl k, 0, none⟩)).toArray = c.args.map a.eval ++ (ks.map fun k => Value.pointer (some ⟨gh.bl k, 0, none⟩)).toArray := by
          apply Array.ext'; simp
        have hrun : (execOp a.eval o).run cx.P w = .ok (.enter f (c.args.map a.eval ++ (ks.map fun k => Value.pointer (some ⟨gh.bl k, 0, none⟩)).toArray)) w := by
          have hfn' : ∃ fn, cx.P.funcs[f]? = some fn ∧ fn.body.isSome = true ∧ (fn.name == "runtime.NumGoroutine") = false := by
            unfold fnOk at hfn
            split at hfn
            · rename_i fn hq
              simp only [Bool.and_eq_true, Bool.not_eq_true'] at hfn
              exact ⟨fn, hq, hfn.1, hfn.2⟩
            · cases hfn
          obtain ⟨fn, hq, hb, hnm⟩ := hfn'
          have hb' : fn.body.isNone = false := by simpa using hb
          have hnm' : ¬ fn.name = "runtime.NumGoroutine" := by simpa using hnm
          simp only [execOp, hc, resolve, hfo, hfo', Deferred.ofValue, invoke, callFunc, Sem.run_bind, Sem.run_pure, Result.andThen_ok, run_program, Array.empty_append, hq, hnm', hb', Bool.false_eq_true, if_false, beq_iff_eq]
        rw [hrun]
        refine ⟨fun h => (by cases h), callsIn_fw ?_⟩
        have hcalls := hval { cx with df := [], fx := fun _ => none, lim := gh.lim, w0 := w } gh w _ rfl rfl rfl (fun _ => rfl) rfl rfl ((r.drop hgy).rebase hgt) hargs
        rw [hsame] at hcalls
        refine hcalls.mono fun e w' => ?_
        rintro ⟨v, gh', rfl, r', hbl, hres⟩
        exact ⟨_, hk, _, (r.calledB hgy hst r' hbl).put_v o.dst hd' hres⟩
      | yld l x =>
        rw [ho] at h
        obtain ⟨c, fo, g', hc, hfo, hfv, hl⟩ := opR_call.2 l x ho
        obtain ⟨Y, hY, rfl, hbare, ⟨hon, hel⟩, hk⟩ := h
        have hfr := r.ev fo
        rw [hfv] at hfr
        have hfo' : a.eval fo = .func (.yield Y.l) #[] #[] := rep_yld hfr.1
        have hargs := avsN_rep r c.args.toList [x] hl
        obtain ⟨v, hv⟩ : ∃ v, c.args.toList.map a.eval = [v] := List.length_eq_one_iff.1 hargs.1
        have hx : Rep gh.lim w.heap v x := by rw [hv] at hargs; exact hargs.head
        have hv' : c.args.map a.eval = #[v] := by apply Array.ext'; simpa using hv
        obtain ⟨⟨-, hP⟩, hj⟩ := r.ex.yj Y hY
        rw [hon] at hj
        obtain ⟨fn, tmps, assign, body, hy, hR⟩ := Y.rd (n - 1) σ.ys.1 gh.lim w v x hj hx hel
        rw [hP] at hy hR
        have hrun : (execOp a.eval o).run cx.P w = .ok (.round Y.l fn tmps assign body) w := by
          simp only [execOp, hc, resolve, hfo, hfo', Deferred.ofValue, invoke, Sem.run_bind, Sem.run_pure, Result.andThen_ok, Array.empty_append, hv', hy]
        rw [hrun]
        refine ⟨fun h => (by cases h), ?_⟩
        have hR' : RoundIn (Fw ro) (n - 1) cx.P Y.l fn tmps assign body w _ := hR
        refine hR'.mono fun e w' => ?_
        rintro ⟨lim', rfl, hj', hkeep, hf⟩
        exact ⟨_, hk, _, (r.calledY hbare hY lim' (σ.ys.1 ++ [x], Y.go σ.ys.1 x) hkeep hf hj').put_v o.dst hd' (.bool _)⟩

def RV (P : Program) (gl : Gl) (ops : Array Oper) : List Oper → AS → (AS → Prop) → Prop
  | [], σ, K => K σ
  | o :: rest, σ, K => nextV P gl ops o σ fun σ' => RV P gl ops rest σ' K

theorem RV_sound {cx : Cx} {ro : Option Nat} {n : Nat} {ops : Array Oper} {Q : Exit → Act → World → Prop} {K : AS → Prop} (hQ : ∀ σ a w, K σ → R cx σ a w → Q .normal a w) :
    ∀ (l : List Oper) (k : Nat) (σ : AS) (a : Act) (w : World), (∀ j, l[j]? = ops[k + j]?) → R cx σ a w → RV cx.P cx.gl ops l σ K → wpOpsIn (Fw ro) n cx.P ops Q (List.range' k l.length) a w
  | [], k, σ, a, w, _, r, h => hQ σ a w h r
  | o :: l, k, σ, a, w, hl, r, h => by
    have h0 : ops[k]? = some o := by simpa using (hl 0).symm
    rw [List.length_cons, List.range'_succ, wpOpsIn_cons]
    refine wpOpIn_mono (fun a' w' hh => ?_) (opIn_sound (ro := ro) (n := n) (Q := Q) h0 r h)
    obtain ⟨σ', hk, r'⟩ := hh
    exact RV_sound hQ l (k + 1) σ' a' w' (fun j => by have := hl (j + 1); simpa [Nat.add_assoc, Nat.add_comm 1 j] using this) r' hk

theorem region_sound {cx : Cx} {ro : Option Nat} {n : Nat} {id : Nat} {ops : Array Oper} {Q : Exit → Act → World → Prop} {K : AS → Prop} {σ : AS} {a : Act} {w : World} (hQ : ∀ σ a w, K σ → R cx σ a w → Q .normal a w)
    (r : R cx σ a w) (h : RV cx.P cx.gl ops ops.toList σ K) : (Code.region id ops false).wpIn (Fw ro) n cx.P Q a w := by
  refine wpIn_region ?_
  have := RV_sound (ro := ro) (n := n) hQ ops.toList 0 σ a w (by simp) r h
  rw [List.range_eq_range']
  simpa using this

end Go.Pv
end

section
/- A region that draws its order: one walk in the order of its text serves every order. -/
namespace Go.Pv
open Go

def quietOp (o : Oper) : Bool :=
  match o.op with
  | .move _ | .assign _ | .pick .. | .binOp .. | .unOp .. | .fieldAddr .. | .indexAddr .. | .load .. | .index .. | .slice .. | .nilCheck _ | .convert .. | .build .. | .makeFunc .. | .makeInterface .. | .extract .. | .buildSlice .. | .field .. => true
  | .call c => match c.callee with
    | .value _ => true
    | .builtin .append => false
    | .builtin _ => true
    | .invoke .. => false
  | _ => false

def orVd (P : Program) (gl : Gl) (o : Oper) (σ : AS) (K : AS → Prop) : OR → Prop
  | .stuck => False
  | .val c x => c ∧ K (σ.put o.dst x)
  | .eff c σ' => quietOp o = false ∧ (c ∧ gl.y = none) ∧ K σ'
  | .call f args => ∃ r, (gl.y = none ∧ Valid P gl f args r) ∧ K (σ.put o.dst (.v r none))
  | .callB _ _ _ => False
  | .yld _ _ => False

def nextVd (P : Program) (gl : Gl) (ops : Array Oper) (o : Oper) (σ : AS) (K : AS → Prop) : Prop :=
  dstOk P o σ = true ∧ match guardB ops o σ with
    | some true => orVd P gl o σ K (opR P gl σ o)
    | some false => K (σ.put o.dst (.v (.tup []) none))
    | none => False

theorem nextV_of {P : Program} {gl : Gl} {ops : Array Oper} {o : Oper} {σ : AS} {K : AS → Prop} (h : nextVd P gl ops o σ K) : nextV P gl ops o σ K := by
  refine ⟨h.1, ?_⟩
  have h := h.2
  cases hg : guardB ops o σ with
  | none => rw [hg] at h; exact h
  | some b =>
    rw [hg] at h
    cases b with
    | false => exact h
    | true =>
      simp only [] at h ⊢
      cases hr : opR P gl σ o with
      | stuck => rw [hr] at h; exact h
      | val c x => rw [hr] at h; exact h
      | eff c s => rw [hr] at h; exact ⟨h.2.1.1, h.2.1.2, h.2.2⟩
      | call f args => rw [hr] at h; obtain ⟨r, h1, h2⟩ := h; exact callV_pure h1.1 r h1.2 h2
      | callB f args ks => rw [hr] at h; exact h.elim
      | yld l x => rw [hr] at h; exact h.elim

structure Eqv (σ σ' : AS) : Prop where
  ex : σ'.ys = σ.ys ∧ σ'.fx = σ.fx ∧ σ'.mks = σ.mks
  n : σ'.n = σ.n
  tm : ∀ t, look t σ'.tm = look t σ.tm
  bx : σ'.bx = σ.bx
  tb : σ'.tb = σ.tb
  sh : σ'.sh = σ.sh
  hint : σ.hint = [] ∧ σ'.hint = []

theorem Eqv.symm {σ σ' : AS} (h : Eqv σ σ') : Eqv σ' σ := ⟨⟨h.ex.1.symm, h.ex.2.1.symm, h.ex.2.2.symm⟩, h.n.symm, fun t => (h.tm t).symm, h.bx.symm, h.tb.symm, h.sh.symm, h.hint.2, h.hint.1⟩

theorem Eqv.put {σ σ' : AS} (h : Eqv σ σ') (d : Option Nat) (x : TV) : Eqv (σ.put d x) (σ'.put d x) := by
  cases d with
  | none => exact h
  | some d => exact ⟨h.ex, h.n, fun t => by simp only [AS.put, look]; split; rfl; exact h.tm t, h.bx, h.tb, h.sh, h.hint⟩

theorem Eqv.swap {σ : AS} (hh : σ.hint = []) {d d' : Option Nat} (x y : TV) (hne : ∀ t, d = some t → d' ≠ some t) : Eqv ((σ.put d x).put d' y) ((σ.put d' y).put d x) := by
  cases d with
  | none => exact ⟨⟨rfl, rfl, rfl⟩, rfl, fun _ => rfl, rfl, rfl, rfl, by cases d' <;> exact hh, by cases d' <;> exact hh⟩
  | some t =>
    cases d' with
    | none => exact ⟨⟨rfl, rfl, rfl⟩, rfl, fun _ => rfl, rfl, rfl, rfl, hh, hh⟩
    | some t' =>
      have : t ≠ t' := fun e => hne t rfl (by rw [e])
      refine ⟨⟨rfl, rfl, rfl⟩, rfl, fun s => ?_, rfl, rfl, rfl, hh, hh⟩
      simp only [AS.put, look]
      by_cases h1 : t = s
      · subst h1; simp [Ne.symm this]
      · simp [h1]

structure Sees (gl : Gl) (ops : Array Oper) (o : Oper) (σ σ' : AS) : Prop where
  ex : σ'.ys = σ.ys ∧ σ'.fx = σ.fx ∧ σ'.mks = σ.mks
  n : σ'.n = σ.n
  tm : ∀ t ∈ o.looksAt ops, σ'.get t = σ.get t
  bx : σ'.bx = σ.bx
  tb : σ'.tb = σ.tb
  sh : σ'.sh = σ.sh
  hint : σ.hint = [] ∧ σ'.hint = []

theorem Sees.ev {gl : Gl} {ops : Array Oper} {o : Oper} {σ σ' : AS} (h : Sees gl ops o σ σ') {x : Operand} (hx : x ∈ o.op.operands) : Pv.ev gl σ' x = Pv.ev gl σ x := by
  cases x with
  | tmp t => exact h.tm t (List.mem_append_left _ (List.mem_filterMap.2 ⟨.tmp t, by simpa using hx, rfl⟩))
  | _ => rfl

theorem Sees.guard {gl : Gl} {ops : Array Oper} {o : Oper} {σ σ' : AS} (h : Sees gl ops o σ σ') : guardB ops o σ' = guardB ops o σ := by
  unfold guardB
  split
  · rfl
  · rename_i j want hg
    cases hd : (ops[j]?).bind (·.dst) with
    | none => rfl
    | some d =>
      dsimp only
      rw [h.tm d (List.mem_append_right _ (by rw [hg]; simp [hd]))]

theorem Sees.dst {gl : Gl} {ops : Array Oper} {o : Oper} {σ σ' : AS} (h : Sees gl ops o σ σ') (P : Program) : dstOk P o σ' = dstOk P o σ := by
  unfold dstOk; rw [h.n, h.ex.2.1]

theorem avs_congr {e e' : Operand → TV} : ∀ (l : List Operand), (∀ x ∈ l, e' x = e x) → avs e' l = avs e l
  | [], _ => rfl
  | x :: l, h => by simp only [avs]; rw [h x (by simp), avs_congr l (fun y hy => h y (by simp [hy]))]

theorem lps_congr {e e' : Operand → TV} : ∀ (l : List Operand), (∀ x ∈ l, e' x = e x) → lps e' l = lps e l
  | [], _ => rfl
  | x :: l, h => by simp only [lps]; rw [h x (by simp), lps_congr l (fun y hy => h y (by simp [hy]))]

theorem fillA_congr {P : Program} {t : Nat} {e e' : Operand → TV} : ∀ (l : List (Nat × Operand)) (cells : List AV), (∀ p ∈ l, e' p.2 = e p.2) → fillA P t e' l cells = fillA P t e l cells
  | [], _, _ => rfl
  | (i, x) :: l, cells, h => by
    simp only [fillA]
    have he : e' x = e x := h (i, x) (by simp)
    rw [he]
    cases foff P t i with
    | none => rfl
    | some o =>
      cases (e x).av with
      | none => rfl
      | some y =>
        simp only []
        rw [fillA_congr l _ (fun y hy => h y (by simp [hy]))]

theorem rowsOf_congr {e e' : Operand → TV} : ∀ (l : List (Nat × Operand)) (i : Nat), (∀ p ∈ l, e' p.2 = e p.2) → rowsOf e' i l = rowsOf e i l
  | [], _, _ => rfl
  | (j, x) :: l, i, h => by
    simp only [rowsOf]
    have he : e' x = e x := h (j, x) (by simp)
    rw [he, rowsOf_congr l _ (fun y hy => h y (by simp [hy]))]

theorem hint_nil_assign {gl : Gl} {σ : AS} (h : σ.hint = []) (d : Option Nat) (v : Value) : assignR gl σ d (.const v) = if isNil v then .val True (.v (.slice []) none) else .val True (cv v) := by
  simp only [assignR, h]
  split
  · cases d <;> rfl
  · rfl

theorem hint_nil_buildSlice {P : Program} {σ σ' : AS} (h : σ.hint = []) (h' : σ'.hint = []) (d : Option Nat) (t len : Nat) (rows : Option (List (List AV))) : buildSliceR P σ' d t len rows = buildSliceR P σ d t len rows := by
  unfold buildSliceR
  rw [h, h']
  cases elemT P t with
  | none => rfl
  | some e =>
    cases rows with
    | none => rfl
    | some l =>
      simp only []
      split
      · cases d <;> rfl
      · rfl

theorem Sees.opR {P : Program} {gl : Gl} {ops : Array Oper} {o : Oper} {σ σ' : AS} (h : Sees gl ops o σ σ') (hq : quietOp o = true) : Pv.opR P gl σ' o = Pv.opR P gl σ o := by
  have hev := fun (x : Operand) (hx : x ∈ o.op.operands) => h.ev hx
  unfold quietOp at hq
  unfold Pv.opR
  cases ho : o.op <;> rw [ho] at hq hev <;> (try exact absurd hq Bool.false_ne_true) <;> (try dsimp only)
  case move x => rw [hev x (by simp [Op.operands])]
  case assign x =>
    cases x with
    | const v => rw [hint_nil_assign h.hint.1, hint_nil_assign h.hint.2]
    | tmp t => simp only [assignR]; rw [hev (.tmp t) (by simp [Op.operands])]
    | global g => rfl
    | func f => rfl
  case pick c a b => rw [hev c (by simp [Op.operands]), hev a (by simp [Op.operands]), hev b (by simp [Op.operands])]
  case load t x =>
    rw [hev x (by simp [Op.operands])]
    unfold loadOpR
    rw [h.bx, h.tb, h.sh]
  case nilCheck x => rw [hev x (by simp [Op.operands])]
  case binOp op t x y t' => rw [hev x (by simp [Op.operands]), hev y (by simp [Op.operands])]
  case unOp op t x => rw [hev x (by simp [Op.operands])]
  case convert s d x => rw [hev x (by simp [Op.operands])]
  case field t x f => rw [hev x (by simp [Op.operands])]
  case makeInterface t x => rw [hev x (by simp [Op.operands])]
  case makeFunc fn first caps => rw [avs_congr first.toList (fun x hx => hev x (by simp only [Op.operands, Array.mem_append]; left; simpa using hx)), avs_congr caps.toList (fun x hx => hev x (by simp only [Op.operands, Array.mem_append]; right; simpa using hx)), lps_congr caps.toList (fun x hx => hev x (by simp only [Op.operands, Array.mem_append]; right; simpa using hx))]
  case slice t x lo hi mx =>
    cases mx with
    | some _ => rfl
    | none =>
      simp only []
      rw [hev x (by simp [Op.operands])]
      have h1 : (lo.map fun y => (Pv.ev gl σ' y).av) = lo.map fun y => (Pv.ev gl σ y).av := by
        cases lo with
        | none => rfl
        | some y => simp only [Option.map_some]; rw [hev y (by simp [Op.operands])]
      have h2 : (hi.map fun y => (Pv.ev gl σ' y).av) = hi.map fun y => (Pv.ev gl σ y).av := by
        cases hi with
        | none => rfl
        | some y => simp only [Option.map_some]; rw [hev y (by simp [Op.operands])]
      rw [h1, h2]
  case fieldAddr t x f => rw [hev x (by simp [Op.operands])]
  case indexAddr t x i => rw [hev x (by simp [Op.operands]), hev i (by simp [Op.operands])]
  case index t x i => rw [hev x (by simp [Op.operands]), hev i (by simp [Op.operands])]
  case extract x i => rw [hev x (by simp [Op.operands])]
  case build t parts =>
    unfold buildR
    have : ∀ z, fillA P t (Pv.ev gl σ') parts.toList z = fillA P t (Pv.ev gl σ) parts.toList z := fun z => fillA_congr _ _ (fun p hp => hev p.2 (by simp only [Op.operands]; exact List.mem_toArray.2 (List.mem_map.2 ⟨p, hp, rfl⟩)))
    simp only [this]
  case buildSlice t len parts =>
    rw [rowsOf_congr (e := Pv.ev gl σ) (e' := Pv.ev gl σ') parts.toList 0 (fun p hp => hev p.2 (by simp only [Op.operands]; exact List.mem_toArray.2 (List.mem_map.2 ⟨p, hp, rfl⟩)))]
    exact hint_nil_buildSlice h.hint.1 h.hint.2 _ _ _ _
  case call c =>
    obtain ⟨callee, args, tys⟩ := c
    have ha : ∀ x ∈ args.toList, Pv.ev gl σ' x = Pv.ev gl σ x := fun x hx => hev x (by simp only [Op.operands, Call.operands, Array.mem_append]; right; simpa using hx)
    unfold callR
    cases callee with
    | invoke r m => rfl
    | value f =>
      simp only []
      rw [hev f (by simp [Op.operands, Call.operands]), avs_congr (e := evN gl σ) (e' := evN gl σ') args.toList (fun x hx => (evN_nohint h.hint.2 x).trans ((ha x hx).trans (evN_nohint h.hint.1 x).symm))]
    | builtin b =>
      simp only []
      split
      · rename_i x t hx _; rw [ha x (by rw [hx]; simp)]
      · rename_i tl x y hx; rw [ha x (by rw [hx]; simp), ha y (by rw [hx]; simp)]
      · rename_i tl x y hx; rw [ha x (by rw [hx]; simp), ha y (by rw [hx]; simp)]
      · exact absurd hq Bool.false_ne_true
      · rfl

theorem Eqv.sees {gl : Gl} {ops : Array Oper} {o : Oper} {σ σ' : AS} (h : Eqv σ σ') : Sees gl ops o σ σ' := ⟨h.ex, h.n, fun t _ => by unfold AS.get; rw [h.tm t], h.bx, h.tb, h.sh, h.hint⟩

theorem ev_eqv {gl : Gl} {σ σ' : AS} (h : Eqv σ σ') : Pv.ev gl σ' = Pv.ev gl σ := by
  funext x
  cases x with
  | tmp t => simp only [Pv.ev, AS.get]; rw [h.tm t]
  | _ => rfl

theorem openB_nil (σ : AS) (k : Nat) : ∀ ns, σ.openB k [] ns = σ
  | [] => rfl
  | j :: ns => by simp only [AS.openB, look]; exact openB_nil σ k ns

theorem Eqv.purge {σ σ' : AS} (h : Eqv σ σ') (g : Nat) : Eqv (σ.purge g) (σ'.purge g) :=
  ⟨h.ex, h.n, fun t => by simp only [AS.purge, look_map]; rw [h.tm t], h.bx, by simp only [AS.purge]; rw [h.tb], h.sh, h.hint⟩

inductive EqR : OR → OR → Prop
  | same (r : OR) (h : ∀ c s, r ≠ .eff c s) : EqR r r
  | eff (c : Prop) (s s' : AS) (h : Eqv s s') : EqR (.eff c s) (.eff c s')

theorem froz_nil {σ : AS} (h : σ.hint = []) (d : Option Nat) : froz σ d = false := by
  unfold froz; rw [h]; cases d <;> rfl

theorem noClP_eqv {σ σ' : AS} (h : Eqv σ σ') (k : Nat) : noClP k σ'.tm = noClP k σ.tm := by
  unfold noClP
  simp only [h.tm]

theorem opR_eqv {P : Program} {gl : Gl} {o : Oper} {σ σ' : AS} (h : Eqv σ σ') (hq : quietOp o = false) : (∃ c s s', Pv.opR P gl σ o = .eff c s ∧ Pv.opR P gl σ' o = .eff c s' ∧ Eqv s s') ∨ Pv.opR P gl σ o = .stuck := by
  have hev := ev_eqv (gl := gl) h
  have hh := h.hint
  unfold quietOp at hq
  unfold Pv.opR
  cases ho : o.op <;> rw [ho] at hq <;> (try exact absurd hq.symm Bool.false_ne_true) <;> (try dsimp only)
  case alloc t =>
    unfold allocR
    simp only [noClP_eqv h]
    rw [h.bx, hh.1, hh.2]
    cases hz : azero P t with
    | none => exact .inr rfl
    | some z =>
      cases hd : o.dst with
      | none => exact .inr rfl
      | some k =>
        simp only []
        cases look k σ.bx with
        | none =>
          refine .inl ⟨_, _, _, rfl, rfl, ?_⟩
          rw [openB_nil, openB_nil]
          exact ⟨h.ex, h.n, fun t => by simp only [AS.put, look]; split; rfl; exact h.tm t, rfl, h.tb, h.sh, by simp [AS.put]⟩
        | some c => exact .inr rfl
  case box t x =>
    rw [froz_nil hh.1, froz_nil hh.2]
    simp only [Bool.false_eq_true, if_false]
    unfold boxR
    simp only [noClP_eqv h]
    rw [hev, h.bx, hh.1, hh.2]
    cases Pv.ev gl σ x with
    | un => exact .inr rfl
    | lp k off => exact .inr rfl
    | it k9 => exact .inr rfl
    | cl f ks => exact .inr rfl
    | bld l ns =>
      cases hd : o.dst with
      | none => exact .inr rfl
      | some k =>
        simp only []
        cases look k σ.bx with
        | none =>
          refine .inl ⟨_, _, _, rfl, rfl, ?_⟩
          rw [openB_nil, openB_nil]
          exact ⟨h.ex, h.n, fun t => by simp only [AS.put, look]; split; rfl; exact h.tm t, rfl, h.tb, h.sh, by simp [AS.put]⟩
        | some c => exact .inr rfl
    | v y g =>
      cases hd : o.dst with
      | none => exact .inr rfl
      | some k =>
        simp only []
        cases look k σ.bx with
        | none => exact .inl ⟨_, _, _, rfl, rfl, ⟨h.ex, h.n, fun t => by simp only [AS.put, look]; split; rfl; exact h.tm t, rfl, h.tb, h.sh, by simp [AS.put]⟩⟩
        | some c => exact .inr rfl
  case store t x y =>
    unfold storeR
    rw [hev, h.bx, h.sh, h.tb, hh.1, hh.2]
    cases (Pv.ev gl σ y).av with
    | none => exact .inr rfl
    | some z =>
      simp only []
      cases Pv.ev gl σ x with
      | un => exact .inr rfl
      | bld l ns => exact .inr rfl
      | it k9 => exact .inr rfl
      | cl f ks => exact .inr rfl
      | lp k off =>
        simp only []
        cases look k σ.bx with
        | none => exact .inr rfl
        | some cells =>
          refine .inl ⟨_, _, _, rfl, rfl, ?_⟩
          rw [openB_nil, openB_nil]
          exact ⟨h.ex, h.n, h.tm, rfl, rfl, rfl, ⟨rfl, rfl⟩⟩
      | v q g =>
        cases q <;> try exact .inr rfl
        case gp b off =>
          simp only []
          cases look b σ.sh with
          | none => exact .inr rfl
          | some cells => exact .inl ⟨_, _, _, rfl, rfl, ⟨h.ex, h.n, h.tm, rfl, rfl, rfl, ⟨rfl, rfl⟩⟩⟩
  case call c =>
    obtain ⟨callee, args, tys⟩ := c
    unfold callR
    cases callee with
    | invoke r m => exact .inr rfl
    | value f => exact absurd hq.symm Bool.false_ne_true
    | builtin b =>
      simp only []
      split
      · exact absurd hq.symm Bool.false_ne_true
      · exact absurd hq.symm Bool.false_ne_true
      · exact absurd hq.symm Bool.false_ne_true
      · rename_i s x t t' ha ht
        split
        · rename_i htt
          subst htt
          rw [hev]
          unfold appendR
          split
          · rename_i l g el ys e hs hx he
            split
            · rename_i hc
              refine .inl ⟨_, _, _, rfl, ?_, (h.purge g).put o.dst _⟩
              simp
            · exact .inr rfl
          · split
            · exact .inl ⟨_, _, _, rfl, rfl, h.put o.dst _⟩
            · exact .inr rfl
          · exact .inr rfl
        · exact .inr rfl
      · exact .inr rfl
  case range t x =>
    unfold rangeR
    rw [hev]
    split
    · exact .inl ⟨_, _, _, rfl, rfl, ⟨h.ex, h.n, fun t => by simp only [look]; split; rfl; exact h.tm t, h.bx, h.tb, h.sh, h.hint⟩⟩
    · exact .inr rfl
  case next x str =>
    unfold nextR
    cases x with
    | tmp t =>
      cases str with
      | false => exact .inr rfl
      | true =>
        simp only []
        rw [h.tm t, h.ex.2.1]
        cases look t σ.tm with
        | none => exact .inr rfl
        | some y =>
          cases y with
          | it k9 =>
            cases k9 with
            | str s p =>
              simp only []
              split
              · refine .inl ⟨_, _, _, rfl, rfl, ?_⟩
                refine Eqv.put ?_ _ _
                exact ⟨⟨h.ex.1, rfl, h.ex.2.2⟩, h.n, fun t => by simp only [look]; split; rfl; exact h.tm t, h.bx, h.tb, h.sh, h.hint⟩
              · exact .inl ⟨_, _, _, rfl, rfl, h.put _ _⟩
            | map es => exact .inr rfl
            | walk es seen => exact .inr rfl
          | un => exact .inr rfl
          | v y g => exact .inr rfl
          | bld l ns => exact .inr rfl
          | lp k o => exact .inr rfl
          | cl f ks => exact .inr rfl
    | const v => exact .inr rfl
    | global g => exact .inr rfl
    | func f => exact .inr rfl
  all_goals exact .inr rfl

theorem nextVd_eqv {P : Program} {gl : Gl} {ops : Array Oper} {o : Oper} {σ σ' : AS} {K K' : AS → Prop} (h : Eqv σ σ') (hk : ∀ s s', Eqv s s' → K s → K' s') (hn : nextVd P gl ops o σ K) : nextVd P gl ops o σ' K' := by
  have hs : Sees gl ops o σ σ' := h.sees
  refine ⟨by rw [hs.dst]; exact hn.1, ?_⟩
  have hn := hn.2
  rw [hs.guard]
  split at hn
  · by_cases hq : quietOp o = true
    · rw [hs.opR hq]
      cases hr : Pv.opR P gl σ o <;> rw [hr] at hn
      · exact hn.elim
      · exact ⟨hn.1, hk _ _ (h.put _ _) hn.2⟩
      · obtain ⟨h1, _⟩ := hn; rw [hq] at h1; cases h1
      · obtain ⟨r, h1, h2⟩ := hn; exact ⟨r, h1, hk _ _ (h.put _ _) h2⟩
      · exact hn.elim
      · exact hn.elim
    · have hq : quietOp o = false := by simpa using hq
      rcases opR_eqv (P := P) (gl := gl) h hq with ⟨c, s, s', h1, h2, h3⟩ | h1
      · rw [h1] at hn
        rw [h2]
        exact ⟨hn.1, hn.2.1, hk _ _ h3 hn.2.2⟩
      · rw [h1] at hn; exact hn.elim
  · exact hk _ _ (h.put _ _) hn
  · exact hn

end Go.Pv
end

import Derived.Test.YtocmdbojefgpbaaGreatDoorPvK
set_option linter.all false
section
/- Regions: in the order of the text, and in any order. -/
namespace Go.Pv
open Go

theorem opR_call {P : Program} {gl : Gl} {σ : AS} {o : Oper} :
    (∀ f args, opR P gl σ o = .call f args → ∃ c fo caps l g, o.op = .call c ∧ c.callee = .value fo ∧ avs (evN gl σ) c.args.toList = some l ∧ ((ev gl σ fo = .v (.func f caps) g ∧ args = l ++ caps) ∨ (ev gl σ fo = .v (.bfn f caps) g ∧ args = caps ++ l))) ∧
    (∀ f x, opR P gl σ o = .yld f x → ∃ c fo g, o.op = .call c ∧ c.callee = .value fo ∧ ev gl σ fo = .v (.yld f) g ∧ avs (evN gl σ) c.args.toList = some [x]) := by
  have noc : ∀ {r : OR}, (∀ f l, r ≠ .call f l) → (∀ f x, r ≠ .yld f x) → (∀ f args, r = .call f args → ∃ c fo caps l g, o.op = .call c ∧ c.callee = .value fo ∧ avs (evN gl σ) c.args.toList = some l ∧ ((ev gl σ fo = .v (.func f caps) g ∧ args = l ++ caps) ∨ (ev gl σ fo = .v (.bfn f caps) g ∧ args = caps ++ l))) ∧
    (∀ f x, r = .yld f x → ∃ c fo g, o.op = .call c ∧ c.callee = .value fo ∧ ev gl σ fo = .v (.yld f) g ∧ avs (evN gl σ) c.args.toList = some [x]) := fun h1 h2 => ⟨fun f a h => absurd h (h1 f a), fun f x h => absurd h (h2 f x)⟩
  have hl : ∀ {t l}, (∀ f m, loadR P t l ≠ .call f m) ∧ ∀ f x, loadR P t l ≠ .yld f x := by
    intro t l
    constructor <;> intro f m h <;> unfold loadR at h <;> split at h <;> first | cases h | (split at h <;> cases h)
  have hb : ∀ {op x y}, (∀ f m, binR op x y ≠ .call f m) ∧ ∀ f m, binR op x y ≠ .yld f m := by
    intro op x y
    constructor <;> intro f l h <;> unfold binR at h <;> split at h <;> first | cases h | (split at h <;> first | cases h | (unfold intOp at h; split at h <;> cases h)) | (unfold strOp at h; split at h <;> cases h)
  have hlen : ∀ {t x}, (∀ f m, lenR P t x ≠ .call f m) ∧ ∀ f m, lenR P t x ≠ .yld f m := by
    intro t x
    constructor <;> intro f l h <;> unfold lenR at h <;> split at h <;> first | cases h | (split at h <;> first | cases h | (simp only [if_true] at h; cases h) | (simp at h; done))
  unfold opR
  split
  case h_21 c hc =>
    unfold callR
    split
    · rename_i fo hfo
      split
      · rename_i g caps g' l hg1 hl
        refine ⟨fun f args h => ?_, fun f x h => (by cases h)⟩
        simp only [OR.call.injEq] at h
        obtain ⟨rfl, rfl⟩ := h
        exact ⟨c, fo, caps, l, g', hc, hfo, hl, .inl ⟨hg1, rfl⟩⟩
      · rename_i l g x hg1 hl
        refine ⟨fun f args h => (by cases h), fun f y h => ?_⟩
        simp only [OR.yld.injEq] at h
        obtain ⟨rfl, rfl⟩ := h
        exact ⟨c, fo, g, hc, hfo, hg1, hl⟩
      · exact noc (by simp) (by simp)
      · rename_i g fs g' l hg1 hl
        refine ⟨fun f args h => ?_, fun f x h => (by cases h)⟩
        simp only [OR.call.injEq] at h
        obtain ⟨rfl, rfl⟩ := h
        exact ⟨c, fo, fs, l, g', hc, hfo, hl, .inr ⟨hg1, rfl⟩⟩
      · exact noc (by simp) (by simp)
    · split
      · exact noc hlen.1 hlen.2
      · exact noc (fun f l h => by unfold mxR at h; split at h <;> cases h) (fun f l h => by unfold mxR at h; split at h <;> cases h)
      · exact noc (fun f l h => by unfold mxR at h; split at h <;> cases h) (fun f l h => by unfold mxR at h; split at h <;> cases h)
      · split
        · exact noc (fun f l h => by unfold appendR at h; split at h <;> first | (split at h <;> cases h) | cases h) (fun f l h => by unfold appendR at h; split at h <;> first | (split at h <;> cases h) | cases h)
        · exact noc (by simp) (by simp)
      · exact noc (by simp) (by simp)
    · exact noc (by simp) (by simp)
  case h_1 => exact noc (by simp) (by simp)
  case h_2 => 
    constructor <;> intro f l h <;> unfold assignR at h <;> split at h <;> first | cases h | (split at h <;> first | cases h | (split at h <;> first | cases h | (split at h <;> first | cases h | (split at h <;> cases h))))
  case h_3 => exact noc (fun f l h => by unfold pickR at h; split at h <;> cases h) (fun f l h => by unfold pickR at h; split at h <;> cases h)
  case h_4 =>
    unfold orR
    split
    · split
      · exact noc (fun f l h => by unfold nilSR at h; repeat' (split at h)
                                   all_goals cases h) (fun f l h => by unfold nilSR at h; repeat' (split at h)
                                                                       all_goals cases h)
      · exact noc (fun f l h => by unfold eqR at h; split at h <;> first | (split at h <;> cases h) | cases h) (fun f l h => by unfold eqR at h; split at h <;> first | (split at h <;> cases h) | cases h)
    · exact noc hb.1 hb.2
  case h_5 => constructor <;> intro f l h <;> unfold unR at h <;> split at h <;> first | (split at h <;> cases h) | cases h
  case h_6 => constructor <;> intro f l h <;> unfold fieldAddrR at h <;> split at h <;> first | (split at h <;> cases h) | cases h
  case h_7 => constructor <;> intro f l h <;> unfold indexAddrR at h <;> split at h <;> first | (split at h <;> cases h) | cases h
  case h_8 =>
    have hr : ∀ {g t l}, (∀ f m, retag g (loadR P t l) ≠ .call f m) ∧ ∀ f m, retag g (loadR P t l) ≠ .yld f m := by
      intro g t l
      constructor <;> intro f m h <;> unfold retag at h <;> split at h <;> first | cases h | exact absurd h (hl.1 f m) | exact absurd h (hl.2 f m)
    unfold loadOpR
    split
    · exact noc hl.1 hl.2
    · split
      · split
        · exact noc hl.1 hl.2
        · exact noc hr.1 hr.2
        · exact noc (by simp) (by simp)
      · exact noc (by simp) (by simp)
    · split
      · exact noc hl.1 hl.2
      · exact noc (by simp) (by simp)
    · exact noc (by simp) (by simp)
  case h_9 => constructor <;> intro f l h <;> unfold indexR at h <;> split at h <;> first | cases h | (split at h <;> first | cases h | (simp only [if_true] at h; cases h) | (simp at h; done))
  case h_10 =>
    constructor <;> intro f l h <;> unfold sliceR at h <;> split at h <;> first | cases h | (split at h <;> first | cases h | (simp only [if_true] at h; split at h <;> cases h) | (split at h <;> cases h) | (simp at h; done))
  case h_11 => constructor <;> intro f l h <;> unfold nilCheckR at h <;> split at h <;> cases h
  case h_12 => constructor <;> intro f l h <;> unfold convertR at h <;> split at h <;> first | (split at h <;> first | cases h | (split at h <;> cases h)) | cases h
  case h_13 => constructor <;> intro f l h <;> unfold buildR at h <;> split at h <;> first | (split at h <;> first | (split at h <;> cases h) | cases h) | cases h
  case h_14 =>
    unfold orR
    split
    · constructor <;> intro f l h <;> unfold makeClR at h <;> split at h <;> first | (split at h <;> cases h) | cases h
    · constructor <;> intro f l h <;> unfold makeFuncR at h <;> split at h <;> first | (split at h <;> cases h) | cases h
  case h_15 => constructor <;> intro f l h <;> unfold makeIfaceR at h <;> split at h <;> first | (split at h <;> cases h) | cases h
  case h_16 => constructor <;> intro f l h <;> unfold extractR at h <;> split at h <;> first | (split at h <;> cases h) | cases h
  case h_17 =>
    split
    · exact noc (fun f l h => by unfold frozR at h; split at h <;> cases h) (fun f l h => by unfold frozR at h; split at h <;> cases h)
    · constructor <;> intro f l h <;> unfold boxR at h <;> split at h <;> first | (split at h <;> first | (split at h <;> cases h) | cases h) | cases h
  case h_18 => constructor <;> intro f l h <;> unfold allocR at h <;> split at h <;> first | (split at h <;> cases h) | cases h
  case h_19 => constructor <;> intro f l h <;> unfold storeR at h <;> split at h <;> first | cases h | (split at h <;> first | (split at h <;> cases h) | cases h)
  case h_20 => constructor <;> intro f l h <;> unfold buildSliceR at h <;> split at h <;> first | cases h | (split at h <;> first | cases h | (split at h <;> first | cases h | (split at h <;> first | cases h | (split at h <;> cases h))))
  case h_22 => constructor <;> intro f l h <;> unfold rangeR at h <;> split at h <;> cases h
  case h_23 => constructor <;> intro f l h <;> unfold nextR at h <;> split at h <;> first | cases h | (split at h <;> first | cases h | (split at h <;> cases h))
  case h_24 =>
    constructor <;> intro f l h <;> unfold fieldR loadR at h <;> split at h <;> first | cases h | (split at h <;> first | cases h | (split at h <;> first | cases h | (split at h <;> cases h)))
  · exact noc (by simp) (by simp)

def OR.noB : OR → Prop
  | .callB _ _ _ => False
  | _ => True

theorem opR_callB {P : Program} {gl : Gl} {σ : AS} {o : Oper} {f : FuncId} {args : List AV} {ks : List Nat} (h : opR P gl σ o = .callB f args ks) :
    ∃ c fo, o.op = .call c ∧ c.callee = .value fo ∧ ev gl σ fo = .cl f ks ∧ avs (evN gl σ) c.args.toList = some args := by
  have hl : ∀ {t l}, (loadR P t l).noB := by
    intro t l
    unfold loadR
    repeat' (first | exact trivial | split)
  have hh : (opR P gl σ o).noB ∨ ∃ c fo f args ks, opR P gl σ o = .callB f args ks ∧ o.op = .call c ∧ c.callee = .value fo ∧ ev gl σ fo = .cl f ks ∧ avs (evN gl σ) c.args.toList = some args := by
    unfold opR
    split
    case h_21 c hc =>
      unfold callR
      split
      · rename_i fo hfo
        split
        · exact .inl trivial
        · exact .inl trivial
        · rename_i g ks l hg hl
          exact .inr ⟨c, fo, g, l, ks, rfl, hc, hfo, hg, hl⟩
        · exact .inl trivial
        · exact .inl trivial
      · left
        unfold lenR mxR appendR
        repeat' (first | exact trivial | split)
      · exact .inl trivial
    case h_4 =>
      left
      unfold orR
      split
      · split
        · unfold nilSR; repeat' (first | exact trivial | split)
        · unfold eqR; repeat' (first | exact trivial | split)
      · unfold binR; repeat' (first | exact trivial | split | unfold intOp | unfold strOp)
    case h_14 =>
      left
      unfold orR
      split
      · unfold makeClR; repeat' (first | exact trivial | split)
      · unfold makeFuncR; repeat' (first | exact trivial | split)
    case h_8 =>
      left
      unfold loadOpR
      repeat' (first | exact trivial | exact hl | split | unfold retag)
    case h_24 =>
      left
      unfold fieldR
      repeat' (first | exact trivial | exact hl | split)
    all_goals
      left
      repeat' (first | exact trivial | split | unfold assignR | unfold pickR | unfold unR | unfold fieldAddrR | unfold indexAddrR | unfold indexR | unfold sliceR | unfold nilCheckR | unfold convertR | unfold buildR | unfold makeIfaceR | unfold extractR | unfold frozR | unfold boxR | unfold allocR | unfold storeR | unfold buildSliceR | unfold rangeR | unfold nextR)
  rcases hh with hh | ⟨c, fo, f', args', ks', h1, h2⟩
  · rw [h] at hh; exact hh.elim
  · rw [h] at h1
    injection h1 with e1 e2 e3
    subst e1; subst e2; subst e3
    exact ⟨c, fo, h2⟩

theorem opIn_sound {cx : Cx} {ro : Option Nat} {n : Nat} {ops : Array Oper} {Q : Exit → Act → World → Prop} {K : AS → Prop} {i : Nat} {o : Oper} {σ : AS} {a : Act} {w : World} (hi : ops[i]? = some o) (r : R cx σ a w)
    (h : nextV cx.P cx.gl ops o σ K) : wpOpIn (Fw ro) n cx.P ops Q i (fun a' w' => ∃ σ', K σ' ∧ R cx σ' a' w') a w := by
  obtain ⟨gh, r⟩ := r
  obtain ⟨hd, h⟩ := h
  have hd' := dst_of hd
  have hdefer : ∀ c, o.op ≠ .defer c := fun c hc => by simp [dstOk, hc] at hd
  have hab : ∀ f, o.about cx.P w a.eval = some f → (Fw ro).fn f := fun _ _ => trivial
  unfold wpOpIn
  simp only [hi]
  cases hg : guardB ops o σ with
  | none => rw [hg] at h; exact h.elim
  | some g =>
    rw [hg] at h
    have hw := wanted_of r hg
    cases g with
    | false =>
      rw [hw]
      simp only [Bool.false_eq_true, if_false]
      exact ⟨hab, _, h, gh, r.put_v o.dst hd' (Rep.tup_iff.2 ⟨#[], rfl, RepL.nil _ _⟩)⟩
    | true =>
      rw [hw]
      simp only [if_true]
      simp only [] at h
      refine ⟨hab, ?_⟩
      rw [Oper.semAt_eq _ _ _ hdefer]
      obtain ⟨hv, he⟩ := opR_val_eff r hd
      cases ho : opR cx.P cx.gl σ o with
      | stuck => rw [ho] at h; exact h.elim
      | val c x =>
        rw [ho] at h
        obtain ⟨hc, hk⟩ := h
        obtain ⟨v, w', gh', hrun, r', hx, hlp, hu⟩ := hv c x ho hc
        rw [hrun]
        exact ⟨_, hk, gh', r'.put o.dst hd' (opR_nit ho) hx hlp hu⟩
      | eff c σ' =>
        rw [ho] at h
        obtain ⟨hc, hgy, hk⟩ := h
        rcases he c σ' ho hc hgy with ⟨v, w', hrun, hr⟩ | ⟨w', hrun, hr⟩
        · rw [hrun]; exact ⟨σ', hk, hr⟩
        · rw [hrun]; exact ⟨σ', hk, hr⟩
      | call f args =>
        rw [ho] at h
        obtain ⟨c, fo, caps, l, g', hc, hfo, hl, hfv⟩ := opR_call.1 f args ho
        have hargs := avsN_rep r c.args.toList l hl
        have hfr := r.ev fo
        obtain ⟨fs, cs, hfo', hrep, hsame⟩ : ∃ fs cs : Array Value, a.eval fo = .func (.func f) fs cs ∧ RepL gh.lim w.heap (fs.toList ++ c.args.toList.map a.eval ++ cs.toList) args ∧ (fs.toList ++ c.args.toList.map a.eval ++ cs.toList).toArray = fs ++ c.args.map a.eval ++ cs := by
          rcases hfv with ⟨hfv, rfl⟩ | ⟨hfv, rfl⟩
          · rw [hfv] at hfr
            obtain ⟨cs, hfo', hcaps⟩ := Rep.func_iff.1 hfr.1
            exact ⟨#[], cs, hfo', by simpa using hargs.append hcaps, by apply Array.ext'; simp⟩
          · rw [hfv] at hfr
            obtain ⟨fs, hfo', hcaps⟩ := Rep.bfn_iff.1 hfr.1
            exact ⟨fs, #[], hfo', by simpa using hcaps.append hargs, by apply Array.ext'; simp⟩
        have hrun : fnOk cx.P f = true → (execOp a.eval o).run cx.P w = .ok (.enter f (fs ++ c.args.map a.eval ++ cs)) w := by
          intro hfn
          have hfn' : ∃ fn, cx.P.funcs[f]? = some fn ∧ fn.body.isSome = true ∧ (fn.name == "runtime.NumGoroutine") = false := by
            unfold fnOk at hfn
            split at hfn
            · rename_i fn hq
              simp only [Bool.and_eq_true, Bool.not_eq_true'] at hfn
              exact ⟨fn, hq, hfn.1, hfn.2⟩
            · cases hfn
          obtain ⟨fn, hq, hb, hnm⟩ := hfn'
          have hb' : fn.body.isNone = false := by simpa using hb
          have hnm' : ¬ fn.name = "runtime.NumGoroutine" := by simpa using hnm
          simp only [execOp, hc, resolve, hfo, hfo', Deferred.ofValue, invoke, callFunc, Sem.run_bind, Sem.run_pure, Result.andThen_ok, run_program, Array.empty_append, hq, hnm', hb', Bool.false_eq_true, if_false, beq_iff_eq]
        rcases h with ⟨hgy, sh, post, m, ⟨hm, hin⟩, ⟨hfn, hval⟩, hk⟩ | ⟨Y, res, ys', hY, hbare, ⟨hfn, hval⟩, hk⟩ | ⟨hgy, res, el, g, hun, ⟨hfn, hval⟩, hk⟩
        · rw [hrun hfn]
          refine ⟨fun h => (by cases h), callsIn_fw ?_⟩
          have hcalls := hval gh.lim w _ (fun g c hg => r.gl g c hg) hrep (fun b cells hb => (r.shs b cells (hin b cells hb)).2)
          rw [hsame] at hcalls
          refine hcalls.mono fun e w' => ?_
          rintro ⟨v, res, sh', lim', rfl, hf, hlim, hres, hshs, hpost, hcov, hnew⟩
          have r2 := r.called hgy sh sh' hin lim' hf hlim hshs hcov hnew
          have r3 := r2.weak (σ' := { σ with sh := m sh' }) ⟨rfl, fun t x hx => ⟨hx, (r2.tmps t x hx).2⟩, fun k c hk => hk, fun q hq => ⟨hq, (r2.tbs q.1 q.2.1 q.2.2.1 q.2.2.2 hq).1⟩, fun b c hb => hm sh' b c hb, rfl, rfl, rfl⟩
          refine ⟨_, hk res sh' hpost, _, r3.put_v o.dst hd' hres⟩
        · rw [hrun hfn]
          refine ⟨fun h => (by cases h), callsIn_fw ?_⟩
          have hcalls := hval gh.lim w _ (fun g c hg => r.gl g c hg) hrep (r.ex.yj Y hY).2
          rw [hsame] at hcalls
          refine hcalls.mono fun e w' => ?_
          rintro ⟨v, lim', rfl, hf, hkeep, hres, hj⟩
          refine ⟨_, hk, _, (r.calledY hbare hY lim' ys' hkeep hf hj).put_v o.dst hd' hres⟩
        · rw [hrun hfn]
          refine ⟨fun h => (by cases h), callsIn_fw ?_⟩
          have hcalls := hval gh.lim w _ (fun g c hg => r.gl g c hg) hrep
          rw [hsame] at hcalls
          refine hcalls.mono fun e w' => ?_
          rintro ⟨v, m, xs, lim', rfl, hf, hlim, hres, hown, hlb⟩
          have r2 : RR cx { gh with lim := lim' } σ a w' := r.called hgy [] [] (fun b c h => (by cases h)) lim' (hf.mono (Nat.le_refl _) (fun _ _ h => h.elim)) hlim (fun b c h => (by cases h)) (fun _ h => h) (fun b h => (by cases h))
          have r3 := r2.regroup g (AS.not_uses hun) v
          have hlt : ∀ b, v.ownBlock = some b → w.heap.size ≤ b := fun b hb => (hown.lt b hb).1
          have r4 := r3.putTag o.dst hd' g el (x := res) (by dsimp only; rw [upd_same]; exact hres) (by
            dsimp only; rw [upd_same]
            refine ⟨⟨m, xs, ⟨hown.1, ?_⟩, hlb⟩, fun b hb => ⟨fun k hk2 => ?_, ?_⟩, fun g' e' hu hne b hb => ?_⟩
            · rcases hown.2 with h1 | ⟨g1, cap, cur, h1, h2, h3⟩
              · exact .inl h1
              · exact .inr ⟨g1, cap, cur, h1, Nat.le_trans r.base h2, h3⟩
            · have h1 := r.lt_box hk2
              have h2 := hlt b hb
              show gh.bl k ≠ b
              omega
            · have h2 := hlt b hb
              cases hq : look b σ.sh with
              | none => rfl
              | some c2 =>
                have h1 := r.lt_sh (b := b) (by rw [hq]; rfl)
                omega
            · dsimp only
              rw [upd_ne gh.gv v hne]
              intro hb2
              have h1 := (r.lt_own hu hb2).1
              have h2 := hlt b hb
              omega) (fun e' h => absurd h (AS.not_uses hun e'))
          dsimp only at r4
          rw [upd_same] at r4
          exact ⟨_, hk, _, r4⟩
      | callB f args ks =>
        rw [ho] at h
        obtain ⟨c, fo, hc, hfo, hfv, hl⟩ := opR_callB ho
        obtain ⟨x, bx', tb', ⟨hgy, hgt⟩, hst, ⟨hfn, hval⟩, hk⟩ := h
        have hfr := r.ev fo
        rw [hfv] at hfr
        have hfo' : a.eval fo = .func (.func f) #[] (ks.map fun k => Value.pointer (some ⟨gh.bl k, 0, none⟩)).toArray := hfr
        have hargs := avsN_rep r c.args.toList args hl
        have hsame : (c.args.toList.map a.eval ++ ks.map fun k => Value.pointer (some ⟨gh.bl k, 0, none⟩)).toArray = c.args.map a.eval ++ (ks.map fun k => Value.pointer (some ⟨gh.bl k, 0, none⟩)).toArray := by
          apply Array.ext'; simp
        have hrun : (execOp a.eval o).run cx.P w = .ok (.enter f (c.args.map a.eval ++ (ks.map fun k => Value.pointer (some ⟨gh.bl k, 0, none⟩)).toArray)) w := by
          have hfn' : ∃ fn, cx.P.funcs[f]? = some fn ∧ fn.body.isSome = true ∧ (fn.name == "runtime.NumGoroutine") = false := by
            unfold fnOk at hfn
            split at hfn
            · rename_i fn hq
              simp only [Bool.and_eq_true, Bool.not_eq_true'] at hfn
              exact ⟨fn, hq, hfn.1, hfn.2⟩
            · cases hfn
          obtain ⟨fn, hq, hb, hnm⟩ := hfn'
          have hb' : fn.body.isNone = false := by simpa using hb
          have hnm' : ¬ fn.name = "runtime.NumGoroutine" := by simpa using hnm
          simp only [execOp, hc, resolve, hfo, hfo', Deferred.ofValue, invoke, callFunc, Sem.run_bind, Sem.run_pure, Result.andThen_ok, run_program, Array.empty_append, hq, hnm', hb', Bool.false_eq_true, if_false, beq_iff_eq]
        rw [hrun]
        refine ⟨fun h => (by cases h), callsIn_fw ?_⟩
        have hcalls := hval { cx with df := [], fx := fun _ => none, lim := gh.lim, w0 := w } gh w _ rfl rfl rfl (fun _ => rfl) rfl rfl ((r.drop hgy).rebase hgt) hargs
        rw [hsame] at hcalls
        refine hcalls.mono fun e w' => ?_
        rintro ⟨v, gh', rfl, r', hbl, hres⟩
        exact ⟨_, hk, _, (r.calledB hgy hst r' hbl).put_v o.dst hd' hres⟩
      | yld l x =>
        rw [ho] at h
        obtain ⟨c, fo, g', hc, hfo, hfv, hl⟩ := opR_call.2 l x ho
        obtain ⟨Y, hY, rfl, hbare, ⟨hon, hel⟩, hk⟩ := h
        have hfr := r.ev fo
        rw [hfv] at hfr
        have hfo' : a.eval fo = .func (.yield Y.l) #[] #[] := rep_yld hfr.1
        have hargs := avsN_rep r c.args.toList [x] hl
        obtain ⟨v, hv⟩ : ∃ v, c.args.toList.map a.eval = [v] := List.length_eq_one_iff.1 hargs.1
        have hx : Rep gh.lim w.heap v x := by rw [hv] at hargs; exact hargs.head
        have hv' : c.args.map a.eval = #[v] := by apply Array.ext'; simpa using hv
        obtain ⟨⟨-, hP⟩, hj⟩ := r.ex.yj Y hY
        rw [hon] at hj
        obtain ⟨fn, tmps, assign, body, hy, hR⟩ := Y.rd (n - 1) σ.ys.1 gh.lim w v x hj hx hel
        rw [hP] at hy hR
        have hrun : (execOp a.eval o).run cx.P w = .ok (.round Y.l fn tmps assign body) w := by
          simp only [execOp, hc, resolve, hfo, hfo', Deferred.ofValue, invoke, Sem.run_bind, Sem.run_pure, Result.andThen_ok, Array.empty_append, hv', hy]
        rw [hrun]
        refine ⟨fun h => (by cases h), ?_⟩
        have hR' : RoundIn (Fw ro) (n - 1) cx.P Y.l fn tmps assign body w _ := hR
        refine hR'.mono fun e w' => ?_
        rintro ⟨lim', rfl, hj', hkeep, hf⟩
        exact ⟨_, hk, _, (r.calledY hbare hY lim' (σ.ys.1 ++ [x], Y.go σ.ys.1 x) hkeep hf hj').put_v o.dst hd' (.bool _)⟩

def RV (P : Program) (gl : Gl) (ops : Array Oper) : List Oper → AS → (AS → Prop) → Prop
  | [], σ, K => K σ
  | o :: rest, σ, K => nextV P gl ops o σ fun σ' => RV P gl ops rest σ' K

theorem RV_sound {cx : Cx} {ro : Option Nat} {n : Nat} {ops : Array Oper} {Q : Exit → Act → World → Prop} {K : AS → Prop} (hQ : ∀ σ a w, K σ → R cx σ a w → Q .normal a w) :
    ∀ (l : List Oper) (k : Nat) (σ : AS) (a : Act) (w : World), (∀ j, l[j]? = ops[k + j]?) → R cx σ a w → RV cx.P cx.gl ops l σ K → wpOpsIn (Fw ro) n cx.P ops Q (List.range' k l.length) a w
  | [], k, σ, a, w, _, r, h => hQ σ a w h r
  | o :: l, k, σ, a, w, hl, r, h => by
    have h0 : ops[k]? = some o := by simpa using (hl 0).symm
    rw [List.length_cons, List.range'_succ, wpOpsIn_cons]
    refine wpOpIn_mono (fun a' w' hh => ?_) (opIn_sound (ro := ro) (n := n) (Q := Q) h0 r h)
    obtain ⟨σ', hk, r'⟩ := hh
    exact RV_sound hQ l (k + 1) σ' a' w' (fun j => by have := hl (j + 1); simpa [Nat.add_assoc, Nat.add_comm 1 j] using this) r' hk

theorem region_sound {cx : Cx} {ro : Option Nat} {n : Nat} {id : Nat} {ops : Array Oper} {Q : Exit → Act → World → Prop} {K : AS → Prop} {σ : AS} {a : Act} {w : World} (hQ : ∀ σ a w, K σ → R cx σ a w → Q .normal a w)
    (r : R cx σ a w) (h : RV cx.P cx.gl ops ops.toList σ K) : (Code.region id ops false).wpIn (Fw ro) n cx.P Q a w := by
  refine wpIn_region ?_
  have := RV_sound (ro := ro) (n := n) hQ ops.toList 0 σ a w (by simp) r h
  rw [List.range_eq_range']
  simpa using this

end Go.Pv
end

section
/- A region that draws its order: one walk in the order of its text serves every order. -/
namespace Go.Pv
open Go

def quietOp (o : Oper) : Bool :=
  match o.op with
  | .move _ | .assign _ | .pick .. | .binOp .. | .unOp .. | .fieldAddr .. | .indexAddr .. | .load .. | .index .. | .slice .. | .nilCheck _ | .convert .. | .build .. | .makeFunc .. | .makeInterface .. | .extract .. | .buildSlice .. | .field .. => true
  | .call c => match c.callee with
    | .value _ => true
    | .builtin .append => false
    | .builtin _ => true
    | .invoke .. => false
  | _ => false

def orVd (P : Program) (gl : Gl) (o : Oper) (σ : AS) (K : AS → Prop) : OR → Prop
  | .stuck => False
  | .val c x => c ∧ K (σ.put o.dst x)
  | .eff c σ' => quietOp o = false ∧ (c ∧ gl.y = none) ∧ K σ'
  | .call f args => ∃ r, (gl.y = none ∧ Valid P gl f args r) ∧ K (σ.put o.dst (.v r none))
  | .callB _ _ _ => False
  | .yld _ _ => False

def nextVd (P : Program) (gl : Gl) (ops : Array Oper) (o : Oper) (σ : AS) (K : AS → Prop) : Prop :=
  dstOk P o σ = true ∧ match guardB ops o σ with
    | some true => orVd P gl o σ K (opR P gl σ o)
    | some false => K (σ.put o.dst (.v (.tup []) none))
    | none => False

theorem nextV_of {P : Program} {gl : Gl} {ops : Array Oper} {o : Oper} {σ : AS} {K : AS → Prop} (h : nextVd P gl ops o σ K) : nextV P gl ops o σ K := by
  refine ⟨h.1, ?_⟩
  have h := h.2
  cases hg : guardB ops o σ with
  | none => rw [hg] at h; exact h
  | some b =>
    rw [hg] at h
    cases b with
    | false => exact h
    | true =>
      simp only [] at h ⊢
      cases hr : opR P gl σ o with
      | stuck => rw [hr] at h; exact h
      | val c x => rw [hr] at h; exact h
      | eff c s => rw [hr] at h; exact ⟨h.2.1.1, h.2.1.2, h.2.2⟩
      | call f args => rw [hr] at h; obtain ⟨r, h1, h2⟩ := h; exact callV_pure h1.1 r h1.2 h2
      | callB f args ks => rw [hr] at h; exact h.elim
      | yld l x => rw [hr] at h; exact h.elim

structure Eqv (σ σ' : AS) : Prop where
  ex : σ'.ys = σ.ys ∧ σ'.fx = σ.fx ∧ σ'.mks = σ.mks
  n : σ'.n = σ.n
  tm : ∀ t, look t σ'.tm = look t σ.tm
  bx : σ'.bx = σ.bx
  tb : σ'.tb = σ.tb
  sh : σ'.sh = σ.sh
  hint : σ.hint = [] ∧ σ'.hint = []

theorem Eqv.symm {σ σ' : AS} (h : Eqv σ σ') : Eqv σ' σ := ⟨⟨h.ex.1.symm, h.ex.2.1.symm, h.ex.2.2.symm⟩, h.n.symm, fun t => (h.tm t).symm, h.bx.symm, h.tb.symm, h.sh.symm, h.hint.2, h.hint.1⟩

theorem Eqv.put {σ σ' : AS} (h : Eqv σ σ') (d : Option Nat) (x : TV) : Eqv (σ.put d x) (σ'.put d x) := by
  cases d with
  | none => exact h
  | some d => exact ⟨h.ex, h.n, fun t => by simp only [AS.put, look]; split; rfl; exact h.tm t, h.bx, h.tb, h.sh, h.hint⟩

theorem Eqv.swap {σ : AS} (hh : σ.hint = []) {d d' : Option Nat} (x y : TV) (hne : ∀ t, d = some t → d' ≠ some t) : Eqv ((σ.put d x).put d' y) ((σ.put d' y).put d x) := by
  cases d with
  | none => exact ⟨⟨rfl, rfl, rfl⟩, rfl, fun _ => rfl, rfl, rfl, rfl, by cases d' <;> exact hh, by cases d' <;> exact hh⟩
  | some t =>
    cases d' with
    | none => exact ⟨⟨rfl, rfl, rfl⟩, rfl, fun _ => rfl, rfl, rfl, rfl, hh, hh⟩
    | some t' =>
      have : t ≠ t' := fun e => hne t rfl (by rw [e])
      refine ⟨⟨rfl, rfl, rfl⟩, rfl, fun s => ?_, rfl, rfl, rfl, hh, hh⟩
      simp only [AS.put, look]
      by_cases h1 : t = s
      · subst h1; simp [Ne.symm this]
      · simp [h1]

structure Sees (gl : Gl) (ops : Array Oper) (o : Oper) (σ σ' : AS) : Prop where
  ex : σ'.ys = σ.ys ∧ σ'.fx = σ.fx ∧ σ'.mks = σ.mks
  n : σ'.n = σ.n
  tm : ∀ t ∈ o.looksAt ops, σ'.get t = σ.get t
  bx : σ'.bx = σ.bx
  tb : σ'.tb = σ.tb
  sh : σ'.sh = σ.sh
  hint : σ.hint = [] ∧ σ'.hint = []

theorem Sees.ev {gl : Gl} {ops : Array Oper} {o : Oper} {σ σ' : AS} (h : Sees gl ops o σ σ') {x : Operand} (hx : x ∈ o.op.operands) : Pv.ev gl σ' x = Pv.ev gl σ x := by
  cases x with
  | tmp t => exact h.tm t (List.mem_append_left _ (List.mem_filterMap.2 ⟨.tmp t, by simpa using hx, rfl⟩))
  | _ => rfl

theorem Sees.guard {gl : Gl} {ops : Array Oper} {o : Oper} {σ σ' : AS} (h : Sees gl ops o σ σ') : guardB ops o σ' = guardB ops o σ := by
  unfold guardB
  split
  · rfl
  · rename_i j want hg
    cases hd : (ops[j]?).bind (·.dst) with
    | none => rfl
    | some d =>
      dsimp only
      rw [h.tm d (List.mem_append_right _ (by rw [hg]; simp [hd]))]

theorem Sees.dst {gl : Gl} {ops : Array Oper} {o : Oper} {σ σ' : AS} (h : Sees gl ops o σ σ') (P : Program) : dstOk P o σ' = dstOk P o σ := by
  unfold dstOk; rw [h.n, h.ex.2.1]

theorem avs_congr {e e' : Operand → TV} : ∀ (l : List Operand), (∀ x ∈ l, e' x = e x) → avs e' l = avs e l
  | [], _ => rfl
  | x :: l, h => by simp only [avs]; rw [h x (by simp), avs_congr l (fun y hy => h y (by simp [hy]))]

theorem lps_congr {e e' : Operand → TV} : ∀ (l : List Operand), (∀ x ∈ l, e' x = e x) → lps e' l = lps e l
  | [], _ => rfl
  | x :: l, h => by simp only [lps]; rw [h x (by simp), lps_congr l (fun y hy => h y (by simp [hy]))]

theorem fillA_congr {P : Program} {t : Nat} {e e' : Operand → TV} : ∀ (l : List (Nat × Operand)) (cells : List AV), (∀ p ∈ l, e' p.2 = e p.2) → fillA P t e' l cells = fillA P t e l cells
  | [], _, _ => rfl
  | (i, x) :: l, cells, h => by
    simp only [fillA]
    have he : e' x = e x := h (i, x) (by simp)
    rw [he]
    cases foff P t i with
    | none => rfl
    | some o =>
      cases (e x).av with
      | none => rfl
      | some y =>
        simp only []
        rw [fillA_congr l _ (fun y hy => h y (by simp [hy]))]

theorem rowsOf_congr {e e' : Operand → TV} : ∀ (l : List (Nat × Operand)) (i : Nat), (∀ p ∈ l, e' p.2 = e p.2) → rowsOf e' i l = rowsOf e i l
  | [], _, _ => rfl
  | (j, x) :: l, i, h => by
    simp only [rowsOf]
    have he : e' x = e x := h (j, x) (by simp)
    rw [he, rowsOf_congr l _ (fun y hy => h y (by simp [hy]))]

theorem hint_nil_assign {gl : Gl} {σ : AS} (h : σ.hint = []) (d : Option Nat) (v : Value) : assignR gl σ d (.const v) = if isNil v then .val True (.v (.slice []) none) else .val True (cv v) := by
  simp only [assignR, h]
  split
  · cases d <;> rfl
  · rfl

theorem hint_nil_buildSlice {P : Program} {σ σ' : AS} (h : σ.hint = []) (h' : σ'.hint = []) (d : Option Nat) (t len : Nat) (rows : Option (List (List AV))) : buildSliceR P σ' d t len rows = buildSliceR P σ d t len rows := by
  unfold buildSliceR
  rw [h, h']
  cases elemT P t with
  | none => rfl
  | some e =>
    cases rows with
    | none => rfl
    | some l =>
      simp only []
      split
      · cases d <;> rfl
      · rfl

theorem Sees.opR {P : Program} {gl : Gl} {ops : Array Oper} {o : Oper} {σ σ' : AS} (h : Sees gl ops o σ σ') (hq : quietOp o = true) : Pv.opR P gl σ' o = Pv.opR P gl σ o := by
  have hev := fun (x : Operand) (hx : x ∈ o.op.operands) => h.ev hx
  unfold quietOp at hq
  unfold Pv.opR
  cases ho : o.op <;> rw [ho] at hq hev <;> (try exact absurd hq Bool.false_ne_true) <;> (try dsimp only)
  case move x => rw [hev x (by simp [Op.operands])]
  case assign x =>
    cases x with
    | const v => rw [hint_nil_assign h.hint.1, hint_nil_assign h.hint.2]
    | tmp t => simp only [assignR]; rw [hev (.tmp t) (by simp [Op.operands])]
    | global g => rfl
    | func f => rfl
  case pick c a b => rw [hev c (by simp [Op.operands]), hev a (by simp [Op.operands]), hev b (by simp [Op.operands])]
  case load t x =>
    rw [hev x (by simp [Op.operands])]
    unfold loadOpR
    rw [h.bx, h.tb, h.sh]
  case nilCheck x => rw [hev x (by simp [Op.operands])]
  case binOp op t x y t' => rw [hev x (by simp [Op.operands]), hev y (by simp [Op.operands])]
  case unOp op t x => rw [hev x (by simp [Op.operands])]
  case convert s d x => rw [hev x (by simp [Op.operands])]
  case field t x f => rw [hev x (by simp [Op.operands])]
  case makeInterface t x => rw [hev x (by simp [Op.operands])]
  case makeFunc fn first caps => rw [avs_congr first.toList (fun x hx => hev x (by simp only [Op.operands, Array.mem_append]; left; simpa using hx)), avs_congr caps.toList (fun x hx => hev x (by simp only [Op.operands, Array.mem_append]; right; simpa using hx)), lps_congr caps.toList (fun x hx => hev x (by simp only [Op.operands, Array.mem_append]; right; simpa using hx))]
  case slice t x lo hi mx =>
    cases mx with
    | some _ => rfl
    | none =>
      simp only []
      rw [hev x (by simp [Op.operands])]
      have h1 : (lo.map fun y => (Pv.ev gl σ' y).av) = lo.map fun y => (Pv.ev gl σ y).av := by
        cases lo with
        | none => rfl
        | some y => simp only [Option.map_some]; rw [hev y (by simp [Op.operands])]
      have h2 : (hi.map fun y => (Pv.ev gl σ' y).av) = hi.map fun y => (Pv.ev gl σ y).av := by
        cases hi with
        | none => rfl
        | some y => simp only [Option.map_some]; rw [hev y (by simp [Op.operands])]
      rw [h1, h2]
  case fieldAddr t x f => rw [hev x (by simp [Op.operands])]
  case indexAddr t x i => rw [hev x (by simp [Op.operands]), hev i (by simp [Op.operands])]
  case index t x i => rw [hev x (by simp [Op.operands]), hev i (by simp [Op.operands])]
  case extract x i => rw [hev x (by simp [Op.operands])]
  case build t parts =>
    unfold buildR
    have : ∀ z, fillA P t (Pv.ev gl σ') parts.toList z = fillA P t (Pv.ev gl σ) parts.toList z := fun z => fillA_congr _ _ (fun p hp => hev p.2 (by simp only [Op.operands]; exact List.mem_toArray.2 (List.mem_map.2 ⟨p, hp, rfl⟩)))
    simp only [this]
  case buildSlice t len parts =>
    rw [rowsOf_congr (e := Pv.ev gl σ) (e' := Pv.ev gl σ') parts.toList 0 (fun p hp => hev p.2 (by simp only [Op.operands]; exact List.mem_toArray.2 (List.mem_map.2 ⟨p, hp, rfl⟩)))]
    exact hint_nil_buildSlice h.hint.1 h.hint.2 _ _ _ _
  case call c =>
    obtain ⟨callee, args, tys⟩ := c
    have ha : ∀ x ∈ args.toList, Pv.ev gl σ' x = Pv.ev gl σ x := fun x hx => hev x (by simp only [Op.operands, Call.operands, Array.mem_append]; right; simpa using hx)
    unfold callR
    cases callee with
    | invoke r m => rfl
    | value f =>
      simp only []
      rw [hev f (by simp [Op.operands, Call.operands]), avs_congr (e := evN gl σ) (e' := evN gl σ') args.toList (fun x hx => (evN_nohint h.hint.2 x).trans ((ha x hx).trans (evN_nohint h.hint.1 x).symm))]
    | builtin b =>
      simp only []
      split
      · rename_i x t hx _; rw [ha x (by rw [hx]; simp)]
      · rename_i tl x y hx; rw [ha x (by rw [hx]; simp), ha y (by rw [hx]; simp)]
      · rename_i tl x y hx; rw [ha x (by rw [hx]; simp), ha y (by rw [hx]; simp)]
      · exact absurd hq Bool.false_ne_true
      · rfl

theorem Eqv.sees {gl : Gl} {ops : Array Oper} {o : Oper} {σ σ' : AS} (h : Eqv σ σ') : Sees gl ops o σ σ' := ⟨h.ex, h.n, fun t _ => by unfold AS.get; rw [h.tm t], h.bx, h.tb, h.sh, h.hint⟩

theorem ev_eqv {gl : Gl} {σ σ' : AS} (h : Eqv σ σ') : Pv.ev gl σ' = Pv.ev gl σ := by
  funext x
  cases x with
  | tmp t => simp only [Pv.ev, AS.get]; rw [h.tm t]
  | _ => rfl

theorem openB_nil (σ : AS) (k : Nat) : ∀ ns, σ.openB k [] ns = σ
  | [] => rfl
  | j :: ns => by simp only [AS.openB, look]; exact openB_nil σ k ns

theorem Eqv.purge {σ σ' : AS} (h : Eqv σ σ') (g : Nat) : Eqv (σ.purge g) (σ'.purge g) :=
  ⟨h.ex, h.n, fun t => by simp only [AS.purge, look_map]; rw [h.tm t], h.bx, by simp only [AS.purge]; rw [h.tb], h.sh, h.hint⟩

inductive EqR : OR → OR → Prop
  | same (r : OR) (h : ∀ c s, r ≠ .eff c s) : EqR r r
  | eff (c : Prop) (s s' : AS) (h : Eqv s s') : EqR (.eff c s) (.eff c s')

theorem froz_nil {σ : AS} (h : σ.hint = []) (d : Option Nat) : froz σ d = false := by
  unfold froz; rw [h]; cases d <;> rfl

theorem noClP_eqv {σ σ' : AS} (h : Eqv σ σ') (k : Nat) : noClP k σ'.tm = noClP k σ.tm := by
  unfold noClP
  simp only [h.tm]

theorem opR_eqv {P : Program} {gl : Gl} {o : Oper} {σ σ' : AS} (h : Eqv σ σ') (hq : quietOp o = false) : (∃ c s s', Pv.opR P gl σ o = .eff c s ∧ Pv.opR P gl σ' o = .eff c s' ∧ Eqv s s') ∨ Pv.opR P gl σ o = .stuck := by
  have hev := ev_eqv (gl := gl) h
  have hh := h.hint
  unfold quietOp at hq
  unfold Pv.opR
  cases ho : o.op <;> rw [ho] at hq <;> (try exact absurd hq.symm Bool.false_ne_true) <;> (try dsimp only)
  case alloc t =>
    unfold allocR
    simp only [noClP_eqv h]
    rw [h.bx, hh.1, hh.2]
    cases hz : azero P t with
    | none => exact .inr rfl
    | some z =>
      cases hd : o.dst with
      | none => exact .inr rfl
      | some k =>
        simp only []
        cases look k σ.bx with
        | none =>
          refine .inl ⟨_, _, _, rfl, rfl, ?_⟩
          rw [openB_nil, openB_nil]
          exact ⟨h.ex, h.n, fun t => by simp only [AS.put, look]; split; rfl; exact h.tm t, rfl, h.tb, h.sh, by simp [AS.put]⟩
        | some c => exact .inr rfl
  case box t x =>
    rw [froz_nil hh.1, froz_nil hh.2]
    simp only [Bool.false_eq_true, if_false]
    unfold boxR
    simp only [noClP_eqv h]
    rw [hev, h.bx, hh.1, hh.2]
    cases Pv.ev gl σ x with
    | un => exact .inr rfl
    | lp k off => exact .inr rfl
    | it k9 => exact .inr rfl
    | cl f ks => exact .inr rfl
    | bld l ns =>
      cases hd : o.dst with
      | none => exact .inr rfl
      | some k =>
        simp only []
        cases look k σ.bx with
        | none =>
          refine .inl ⟨_, _, _, rfl, rfl, ?_⟩
          rw [openB_nil, openB_nil]
          exact ⟨h.ex, h.n, fun t => by simp only [AS.put, look]; split; rfl; exact h.tm t, rfl, h.tb, h.sh, by simp [AS.put]⟩
        | some c => exact .inr rfl
    | v y g =>
      cases hd : o.dst with
      | none => exact .inr rfl
      | some k =>
        simp only []
        cases look k σ.bx with
        | none => exact .inl ⟨_, _, _, rfl, rfl, ⟨h.ex, h.n, fun t => by simp only [AS.put, look]; split; rfl; exact h.tm t, rfl, h.tb, h.sh, by simp [AS.put]⟩⟩
        | some c => exact .inr rfl
  case store t x y =>
    unfold storeR
    rw [hev, h.bx, h.sh, h.tb, hh.1, hh.2]
    cases (Pv.ev gl σ y).av with
    | none => exact .inr rfl
    | some z =>
      simp only []
      cases Pv.ev gl σ x with
      | un => exact .inr rfl
      | bld l ns => exact .inr rfl
      | it k9 => exact .inr rfl
      | cl f ks => exact .inr rfl
      | lp k off =>
        simp only []
        cases look k σ.bx with
        | none => exact .inr rfl
        | some cells =>
          refine .inl ⟨_, _, _, rfl, rfl, ?_⟩
          rw [openB_nil, openB_nil]
          exact ⟨h.ex, h.n, h.tm, rfl, rfl, rfl, ⟨rfl, rfl⟩⟩
      | v q g =>
        cases q <;> try exact .inr rfl
        case gp b off =>
          simp only []
          cases look b σ.sh with
          | none => exact .inr rfl
          | some cells => exact .inl ⟨_, _, _, rfl, rfl, ⟨h.ex, h.n, h.tm, rfl, rfl, rfl, ⟨rfl, rfl⟩⟩⟩
  case call c =>
    obtain ⟨callee, args, tys⟩ := c
    unfold callR
    cases callee with
    | invoke r m => exact .inr rfl
    | value f => exact absurd hq.symm Bool.false_ne_true
    | builtin b =>
      simp only []
      split
      · exact absurd hq.symm Bool.false_ne_true
      · exact absurd hq.symm Bool.false_ne_true
      · exact absurd hq.symm Bool.false_ne_true
      · rename_i s x t t' ha ht
        split
        · rename_i htt
          subst htt
          rw [hev]
          unfold appendR
          split
          · rename_i l g el ys e hs hx he
            split
            · rename_i hc
              refine .inl ⟨_, _, _, rfl, ?_, (h.purge g).put o.dst _⟩
              simp
            · exact .inr rfl
          · split
            · exact .inl ⟨_, _, _, rfl, rfl, h.put o.dst _⟩
            · exact .inr rfl
          · exact .inr rfl
        · exact .inr rfl
      · exact .inr rfl
  case range t x =>
    unfold rangeR
    rw [hev]
    split
    · exact .inl ⟨_, _, _, rfl, rfl, ⟨h.ex, h.n, fun t => by simp only [look]; split; rfl; exact h.tm t, h.bx, h.tb, h.sh, h.hint⟩⟩
    · exact .inr rfl
  case next x str =>
    unfold nextR
    cases x with
    | tmp t =>
      cases str with
      | false => exact .inr rfl
      | true =>
        simp only []
        rw [h.tm t, h.ex.2.1]
        cases look t σ.tm with
        | none => exact .inr rfl
        | some y =>
          cases y with
          | it k9 =>
            cases k9 with
            | str s p =>
              simp only []
              split
              · refine .inl ⟨_, _, _, rfl, rfl, ?_⟩
                refine Eqv.put ?_ _ _
                exact ⟨⟨h.ex.1, rfl, h.ex.2.2⟩, h.n, fun t => by simp only [look]; split; rfl; exact h.tm t, h.bx, h.tb, h.sh, h.hint⟩
              · exact .inl ⟨_, _, _, rfl, rfl, h.put _ _⟩
            | map es => exact .inr rfl
            | walk es seen => exact .inr rfl
          | un => exact .inr rfl
          | v y g => exact .inr rfl
          | bld l ns => exact .inr rfl
          | lp k o => exact .inr rfl
          | cl f ks => exact .inr rfl
    | const v => exact .inr rfl
    | global g => exact .inr rfl
    | func f => exact .inr rfl
  all_goals exact .inr rfl

theorem nextVd_eqv {P : Program} {gl : Gl} {ops : Array Oper} {o : Oper} {σ σ' : AS} {K K' : AS → Prop} (h : Eqv σ σ') (hk : ∀ s s', Eqv s s' → K s → K' s') (hn : nextVd P gl ops o σ K) : nextVd P gl ops o σ' K' := by
  have hs : Sees gl ops o σ σ' := h.sees
  refine ⟨by rw [hs.dst]; exact hn.1, ?_⟩
  have hn := hn.2
  rw [hs.guard]
  split at hn
  · by_cases hq : quietOp o = true
    · rw [hs.opR hq]
      cases hr : Pv.opR P gl σ o <;> rw [hr] at hn
      · exact hn.elim
      · exact ⟨hn.1, hk _ _ (h.put _ _) hn.2⟩
      · obtain ⟨h1, _⟩ := hn; rw [hq] at h1; cases h1
      · obtain ⟨r, h1, h2⟩ := hn; exact ⟨r, h1, hk _ _ (h.put _ _) h2⟩
      · exact hn.elim
      · exact hn.elim
    · have hq : quietOp o = false := by simpa using hq
      rcases opR_eqv (P := P) (gl := gl) h hq with ⟨c, s, s', h1, h2, h3⟩ | h1
      · rw [h1] at hn
        rw [h2]
        exact ⟨hn.1, hn.2.1, hk _ _ h3 hn.2.2⟩
      · rw [h1] at hn; exact hn.elim
  · exact hk _ _ (h.put _ _) hn
  · exact hn

end Go.Pv
end

section
/- Any order. -/
namespace Go.Pv
open Go

section
variable {P : Program} {gl : Gl} {ops : Array Oper} {K : AS → Prop}

def anyA (P : Program) (gl : Gl) (ops : Array Oper) (K : AS → Prop) : Nat → Array Bool → AS → Prop
  | 0, listed, σ => Region.ready .any ops listed = [] ∧ K σ
  | fuel + 1, listed, σ => (Region.ready .any ops listed = [] → K σ) ∧
      ∀ i ∈ Region.ready .any ops listed, ∃ o, ops[i]? = some o ∧ nextVd P gl ops o σ (anyA P gl ops K fuel (listed.setIfInBounds i true))

theorem anyA_eqv (hK : ∀ s s', Eqv s s' → K s → K s') : ∀ (fuel : Nat) (listed : Array Bool) (σ σ' : AS), Eqv σ σ' → anyA P gl ops K fuel listed σ → anyA P gl ops K fuel listed σ'
  | 0, _, _, _, h, ha => ⟨ha.1, hK _ _ h ha.2⟩
  | fuel + 1, listed, σ, σ', h, ha => ⟨fun h0 => hK _ _ h (ha.1 h0), fun i hi => by
      obtain ⟨o, ho, hn⟩ := ha.2 i hi
      exact ⟨o, ho, nextVd_eqv h (fun s s' hs hk => anyA_eqv hK fuel _ s s' hs hk) hn⟩⟩

def YA (P : Program) (gl : Gl) (ops : Array Oper) (o : Oper) (σ : AS) (x : TV) : Prop :=
  dstOk P o σ = true ∧ ((guardB ops o σ = some true ∧ ((∃ c, opR P gl σ o = .val c x ∧ c) ∨ ∃ f args r, opR P gl σ o = .call f args ∧ (gl.y = none ∧ Valid P gl f args r) ∧ x = .v r none)) ∨
    (guardB ops o σ = some false ∧ x = .v (.tup []) none))

theorem YA_of_next {o : Oper} {σ : AS} {K : AS → Prop} (hq : quietOp o = true) (h : nextVd P gl ops o σ K) : ∃ x, YA P gl ops o σ x ∧ K (σ.put o.dst x) := by
  obtain ⟨hd, h⟩ := h
  cases hg : guardB ops o σ with
  | none => rw [hg] at h; exact h.elim
  | some b =>
    rw [hg] at h
    cases b with
    | false => exact ⟨_, ⟨hd, .inr ⟨hg, rfl⟩⟩, h⟩
    | true =>
      simp only [] at h
      cases hr : opR P gl σ o with
      | stuck => rw [hr] at h; exact h.elim
      | val c x => rw [hr] at h; exact ⟨x, ⟨hd, .inl ⟨hg, .inl ⟨c, hr, h.1⟩⟩⟩, h.2⟩
      | eff c s => rw [hr] at h; have := h.1; rw [hq] at this; cases this
      | call f args => rw [hr] at h; obtain ⟨r, h1, h2⟩ := h; exact ⟨_, ⟨hd, .inl ⟨hg, .inr ⟨f, args, r, hr, h1, rfl⟩⟩⟩, h2⟩
      | callB f args ks => rw [hr] at h; exact h.elim
      | yld l x => rw [hr] at h; exact h.elim

theorem next_of_YA {o : Oper} {σ : AS} {K : AS → Prop} {x : TV} (h : YA P gl ops o σ x) (hk : K (σ.put o.dst x)) : nextVd P gl ops o σ K := by
  obtain ⟨hd, ⟨hg, ⟨c, hr, hc⟩ | ⟨f, args, r, hr, hv, rfl⟩⟩ | ⟨hg, rfl⟩⟩ := h
  · exact ⟨hd, by rw [hg]; simp only []; rw [hr]; exact ⟨hc, hk⟩⟩
  · exact ⟨hd, by rw [hg]; simp only []; rw [hr]; exact ⟨r, hv, hk⟩⟩
  · exact ⟨hd, by rw [hg]; exact hk⟩

theorem YA.sees {o : Oper} {σ σ' : AS} {x : TV} (hq : quietOp o = true) (h : YA P gl ops o σ x) (hs : Sees gl ops o σ σ') : YA P gl ops o σ' x := by
  unfold YA at *
  rw [hs.dst, hs.guard, hs.opR hq]
  exact h

theorem sees_put {o : Oper} {σ : AS} (hh : σ.hint = []) {d : Option Nat} (x : TV) (hd : ∀ t, d = some t → t ∉ o.looksAt ops) : Sees gl ops o σ (σ.put d x) := by
  cases d with
  | none => exact ⟨⟨rfl, rfl, rfl⟩, rfl, fun _ _ => rfl, rfl, rfl, rfl, hh, hh⟩
  | some t =>
    refine ⟨⟨rfl, rfl, rfl⟩, rfl, fun s hs => ?_, rfl, rfl, rfl, hh, hh⟩
    have : t ≠ s := fun e => hd t rfl (e ▸ hs)
    simp [AS.get, AS.put, look, this]

theorem Sees.symm {o : Oper} {σ σ' : AS} (h : Sees gl ops o σ σ') : Sees gl ops o σ' σ := ⟨⟨h.ex.1.symm, h.ex.2.1.symm, h.ex.2.2.symm⟩, h.n.symm, fun t ht => (h.tm t ht).symm, h.bx.symm, h.tb.symm, h.sh.symm, h.hint.2, h.hint.1⟩

theorem put_hint {σ : AS} (h : σ.hint = []) (d : Option Nat) (x : TV) : (σ.put d x).hint = [] := by cases d <;> exact h

inductive Reach (ops : Array Oper) : Nat → Nat → Prop
  | one (j i : Nat) (o : Oper) (ho : ops[j]? = some o) (e : Edge) (he : e ∈ o.after) (hb : Region.binds .any e = true) (hi : e.on = i) : Reach ops j i
  | step (j k i : Nat) (o : Oper) (ho : ops[j]? = some o) (e : Edge) (he : e ∈ o.after) (hb : Region.binds .any e = true) (hk : e.on = k) (h : Reach ops k i) : Reach ops j i

def DC (ops : Array Oper) (listed : Array Bool) : Prop := ∀ j o, ops[j]? = some o → listed.getD j false = true → ∀ e ∈ o.after, Region.binds .any e = true → listed.getD e.on false = true

theorem DC.reach {listed : Array Bool} (h : DC ops listed) {j i : Nat} (hr : Reach ops j i) (hj : listed.getD j false = true) : listed.getD i false = true := by
  induction hr with
  | one j i o ho e he hb hi => subst hi; exact h j o ho hj e he hb
  | step j k i o ho e he hb hk hr ih => subst hk; exact ih (h j o ho hj e he hb)

theorem DC.ready {listed : Array Bool} (h : DC ops listed) {j i : Nat} (hr : Reach ops j i) (hj : j ∈ Region.ready .any ops listed) : listed.getD i false = true := by
  obtain ⟨_, o', ho', hall⟩ := mem_ready.1 hj
  cases hr with
  | one j i o ho e he hb hi =>
    rw [ho'] at ho; injection ho with ho; subst ho; subst hi
    exact hall e he hb
  | step j k i o ho e he hb hk hr =>
    rw [ho'] at ho; injection ho with ho; subst ho; subst hk
    exact h.reach hr (hall e he hb)

theorem DC.set {listed : Array Bool} (h : DC ops listed) {j : Nat} (hj : j ∈ Region.ready .any ops listed) : DC ops (listed.setIfInBounds j true) := by
  obtain ⟨_, oj, hoj, hall⟩ := mem_ready.1 hj
  intro k o ho hk e he hb
  refine getD_set_true ?_
  by_cases hkj : j = k
  · subst hkj
    rw [hoj] at ho; injection ho with ho; subst ho
    exact hall e he hb
  · rw [getD_set_ne false hkj] at hk
    exact h k o ho hk e he hb

theorem unlisted {listed : Array Bool} {i : Nat} (h : listed.getD i true = false) : ¬ listed.getD i false = true := by
  rcases Nat.lt_or_ge i listed.size with h' | h'
  · simp [h'] at h ⊢; exact h
  · simp [Array.getElem?_eq_none h']

def pureOp (o : Oper) : Bool := match o.op with
  | .move _ | .fieldAddr .. => true
  | _ => false
def storeOp (o : Oper) : Bool := match o.op with
  | .store .. => true
  | _ => false
theorem pure_quiet {o : Oper} (h : pureOp o = true) : quietOp o = true := by
  unfold pureOp at h; unfold quietOp
  split at h <;> first | (rename_i ho; rw [ho]) | cases h
theorem store_loud {o : Oper} (h : storeOp o = true) : quietOp o = false := by
  unfold storeOp at h; unfold quietOp
  split at h <;> first | (rename_i ho; rw [ho]) | cases h

structure SameTm (σ σ' : AS) : Prop where
  tm : σ'.tm = σ.tm
  n : σ'.n = σ.n
  ys : σ'.ys = σ.ys
  fx : σ'.fx = σ.fx
  mks : σ'.mks = σ.mks
  hint : σ'.hint = σ.hint

theorem YA.pure {o : Oper} {σ σ' : AS} {x : TV} (hp : pureOp o = true) (hh : σ.hint = []) (h : YA P gl ops o σ x) (hs : SameTm σ σ') : YA P gl ops o σ' x := by
  have hsee : Sees gl ops o σ { σ' with bx := σ.bx, tb := σ.tb, sh := σ.sh } := ⟨⟨hs.ys, hs.fx, hs.mks⟩, hs.n, fun t _ => by unfold AS.get; show ((look t σ'.tm).getD .un).strip = _; rw [hs.tm], rfl, rfl, rfl, hh, by show σ'.hint = []; rw [hs.hint]; exact hh⟩
  have h2 := h.sees (pure_quiet hp) hsee
  have hop : Pv.opR P gl { σ' with bx := σ.bx, tb := σ.tb, sh := σ.sh } o = Pv.opR P gl σ' o := by
    have hev : Pv.ev gl { σ' with bx := σ.bx, tb := σ.tb, sh := σ.sh } = Pv.ev gl σ' := by funext y; cases y <;> rfl
    unfold pureOp at hp
    unfold Pv.opR
    split at hp <;> first | (rename_i ho; rw [ho]; simp only []; rw [hev]) | cases hp
  unfold YA at h2 ⊢
  rw [hop] at h2
  exact h2

theorem storeR_put {σ : AS} (hh : σ.hint = []) (d : Option Nat) (z : TV) (t : Nat) (a y : TV) : storeR P (σ.put d z) t a y = match storeR P σ t a y with | .eff c s => .eff c (s.put d z) | r => r := by
  cases d with
  | none =>
    show storeR P σ t a y = _
    cases storeR P σ t a y <;> rfl
  | some d =>
    unfold storeR
    cases y.av with
    | none => rfl
    | some v =>
      cases a with
      | lp k off =>
        simp only [AS.put]
        cases look k σ.bx with
        | none => rfl
        | some cells => simp only [hh, openB_nil]
      | v u g =>
        cases u with
        | gp b off =>
          simp only [AS.put]
          cases look b σ.sh with
          | none => rfl
          | some cells => rfl
        | _ => rfl
      | _ => rfl
theorem storeR_same {σ s : AS} {t : Nat} {a y : TV} {c : Prop} (hh : σ.hint = []) (h : storeR P σ t a y = .eff c s) : SameTm σ s := by
  unfold storeR at h
  split at h
  · cases h
  · split at h
    · split at h
      · simp only [OR.eff.injEq, hh, openB_nil] at h
        obtain ⟨-, rfl⟩ := h
        refine ⟨?_, ?_, ?_, ?_, ?_, ?_⟩ <;> first | rfl | exact hh.symm | exact hh
      · cases h
    · split at h
      · simp only [OR.eff.injEq] at h
        obtain ⟨-, rfl⟩ := h
        exact ⟨rfl, rfl, rfl, rfl, rfl, rfl⟩
      · cases h
    · cases h

theorem store_step {o : Oper} {σ : AS} {K : AS → Prop} (ho : storeOp o = true) (hh : σ.hint = []) (h : nextVd P gl ops o σ K) :
    ∃ s, K s ∧ SameTm σ s ∧ (∀ K' : AS → Prop, K' s → nextVd P gl ops o σ K') ∧ ∀ (d : Option Nat) (z : TV), (∀ t, d = some t → t ∉ o.looksAt ops) → ∀ K' : AS → Prop, K' (s.put d z) → nextVd P gl ops o (σ.put d z) K' := by
  obtain ⟨t, a, y, hop⟩ : ∃ t a y, o.op = .store t a y := by
    unfold storeOp at ho
    split at ho
    · rename_i t a y hq; exact ⟨t, a, y, hq⟩
    · cases ho
  obtain ⟨hd, h⟩ := h
  have hdn : o.dst = none := by
    have := hd
    unfold dstOk at this
    rw [hop] at this
    simp only [Bool.and_eq_true] at this
    cases hq : o.dst with
    | none => rfl
    | some q => rw [hq] at this; simp at this
  have hR : ∀ s : AS, Pv.opR P gl s o = storeR P s t (Pv.ev gl s a) (Pv.ev gl s y) := fun s => by unfold Pv.opR; rw [hop]
  cases hg : guardB ops o σ with
  | none => rw [hg] at h; exact h.elim
  | some b =>
    rw [hg] at h
    cases b with
    | false =>
      have h' : K σ := by rw [hdn] at h; exact h
      refine ⟨σ, h', ⟨rfl, rfl, rfl, rfl, rfl, rfl⟩, fun K' hk => ⟨hd, by rw [hg, hdn]; exact hk⟩, fun d z hz K' hk => ?_⟩
      have hs := sees_put (gl := gl) (ops := ops) (o := o) hh z hz
      exact ⟨by rw [hs.dst]; exact hd, by rw [hs.guard, hg, hdn]; exact hk⟩
    | true =>
      simp only [] at h
      rw [hR] at h
      cases hr : storeR P σ t (Pv.ev gl σ a) (Pv.ev gl σ y) with
      | eff c s =>
        rw [hr] at h
        obtain ⟨h1, h2, h3⟩ := h
        refine ⟨s, h3, storeR_same hh hr, fun K' hk => ⟨hd, ?_⟩, fun d z hz K' hk => ?_⟩
        · rw [hg]; simp only []; rw [hR, hr]; exact ⟨h1, h2, hk⟩
        · have hs := sees_put (gl := gl) (ops := ops) (o := o) hh z hz
          refine ⟨by rw [hs.dst]; exact hd, ?_⟩
          rw [hs.guard, hg]
          simp only []
          rw [hR, hs.ev (x := a) (by rw [hop]; simp [Op.operands]), hs.ev (x := y) (by rw [hop]; simp [Op.operands]), storeR_put hh, hr]
          exact ⟨h1, h2, hk⟩
      | stuck => rw [hr] at h; exact h.elim
      | val c x => exfalso; unfold storeR at hr; split at hr <;> first | cases hr | (split at hr <;> first | cases hr | (split at hr <;> cases hr))
      | call f l => exfalso; unfold storeR at hr; split at hr <;> first | cases hr | (split at hr <;> first | cases hr | (split at hr <;> cases hr))
      | callB f l ks => exfalso; unfold storeR at hr; split at hr <;> first | cases hr | (split at hr <;> first | cases hr | (split at hr <;> cases hr))
      | yld l x => exfalso; unfold storeR at hr; split at hr <;> first | cases hr | (split at hr <;> first | cases hr | (split at hr <;> cases hr))

theorem SameTm.put {σ s : AS} (h : SameTm σ s) (d : Option Nat) (x : TV) : SameTm (σ.put d x) (s.put d x) := by
  cases d with
  | none => exact h
  | some d => exact ⟨by simp [AS.put, h.tm], h.n, h.ys, h.fx, h.mks, h.hint⟩

theorem store_ahead {o : Oper} {σ : AS} {d : Option Nat} {z : TV} {K : AS → Prop} (ho : storeOp o = true) (hh : σ.hint = []) (hz : ∀ t, d = some t → t ∉ o.looksAt ops) (h : nextVd P gl ops o (σ.put d z) K) :
    ∃ s, K (s.put d z) ∧ SameTm σ s ∧ (∀ K' : AS → Prop, K' s → nextVd P gl ops o σ K') ∧ True := by
  have hs := sees_put (gl := gl) (ops := ops) (o := o) hh z hz
  obtain ⟨t, a, y, hop⟩ : ∃ t a y, o.op = .store t a y := by
    unfold storeOp at ho
    split at ho
    · rename_i t a y hq; exact ⟨t, a, y, hq⟩
    · cases ho
  have hR : ∀ s : AS, Pv.opR P gl s o = storeR P s t (Pv.ev gl s a) (Pv.ev gl s y) := fun s => by unfold Pv.opR; rw [hop]
  have h1 : nextVd P gl ops o σ fun s => K (s.put d z) := by
    obtain ⟨hd, h⟩ := h
    rw [hs.dst] at hd
    have hdn : o.dst = none := by
      have := hd
      unfold dstOk at this
      rw [hop] at this
      simp only [Bool.and_eq_true] at this
      cases hq : o.dst with
      | none => rfl
      | some q => rw [hq] at this; simp at this
    refine ⟨hd, ?_⟩
    rw [hs.guard] at h
    cases hg : guardB ops o σ with
    | none => rw [hg] at h; exact h
    | some b =>
      rw [hg] at h
      cases b with
      | false => rw [hdn] at h ⊢; exact h
      | true =>
        simp only [] at h ⊢
        rw [hR, hs.ev (x := a) (by rw [hop]; simp [Op.operands]), hs.ev (x := y) (by rw [hop]; simp [Op.operands]), storeR_put hh] at h
        rw [hR]
        cases hr : storeR P σ t (Pv.ev gl σ a) (Pv.ev gl σ y) with
        | eff c s => rw [hr] at h; exact h
        | stuck => rw [hr] at h; exact h
        | val c x => exfalso; unfold storeR at hr; split at hr <;> first | cases hr | (split at hr <;> first | cases hr | (split at hr <;> cases hr))
        | call f l => exfalso; unfold storeR at hr; split at hr <;> first | cases hr | (split at hr <;> first | cases hr | (split at hr <;> cases hr))
        | callB f l ks => exfalso; unfold storeR at hr; split at hr <;> first | cases hr | (split at hr <;> first | cases hr | (split at hr <;> cases hr))
        | yld l x => exfalso; unfold storeR at hr; split at hr <;> first | cases hr | (split at hr <;> first | cases hr | (split at hr <;> cases hr))
  obtain ⟨s, h2, h3, h4, -⟩ := store_step ho hh h1
  exact ⟨s, h2, h3, h4, trivial⟩

def okP (k : Nat) : TV → Bool
  | .lp k' _ => k' == k
  | .v (.gp _ _) _ => false
  | _ => true
def Im (m : List (Nat × Nat)) (σ : AS) : Bool := m.all fun p => okP p.2 (σ.get p.1)
def stepOk (m : List (Nat × Nat)) (o : Oper) : Bool :=
  storeOp o || (quietOp o && m.all fun p => o.dst != some p.1 || match o.op with
    | .fieldAddr _ (.tmp u) _ => m.any fun q => q.1 == u && q.2 == p.2
    | _ => false)
def sepOp (m : List (Nat × Nat)) (oi oj : Oper) : Bool :=
  match oi.op, oj.op with
  | .load _ (.tmp a), .store _ (.tmp b) _ => m.any fun p => p.1 == a && m.any fun q => q.1 == b && p.2 != q.2
  | _, _ => false

theorem sep_quiet {m : List (Nat × Nat)} {oi oj : Oper} (h : sepOp m oi oj = true) : quietOp oi = true := by
  unfold sepOp at h
  split at h
  · rename_i h1 _; unfold quietOp; rw [h1]
  · cases h
theorem Im.of {m : List (Nat × Nat)} {σ : AS} (h : Im m σ = true) {p : Nat × Nat} (hp : p ∈ m) : okP p.2 (σ.get p.1) = true := List.all_eq_true.1 h p hp
theorem Im.same {m : List (Nat × Nat)} {σ s : AS} (h : Im m σ = true) (hs : SameTm σ s) : Im m s = true :=
  List.all_eq_true.2 fun p hp => by
    have := Im.of h hp
    unfold AS.get at this ⊢
    rw [hs.tm]; exact this
theorem Im.eqv {m : List (Nat × Nat)} {σ s : AS} (h : Im m σ = true) (e : Eqv σ s) : Im m s = true :=
  List.all_eq_true.2 fun p hp => by
    have := Im.of h hp
    rw [show s.get p.1 = σ.get p.1 by unfold AS.get; rw [e.tm]]; exact this

theorem Im.put {m : List (Nat × Nat)} {σ : AS} {o : Oper} {x : TV} (h : Im m σ = true) (hs : stepOk m o = true) (hq : quietOp o = true) (hy : YA P gl ops o σ x) : Im m (σ.put o.dst x) = true := by
  refine List.all_eq_true.2 fun p hp => ?_
  have h1 := Im.of h hp
  have hst : storeOp o = false := by
    cases hso : storeOp o with
    | false => rfl
    | true => have := store_loud hso; rw [hq] at this; cases this
  simp only [stepOk, hst, Bool.false_or, Bool.and_eq_true] at hs
  have h2 := List.all_eq_true.1 hs.2 p hp
  by_cases hd : o.dst = some p.1
  · rw [hd] at h2 ⊢
    simp only [bne_self_eq_false, Bool.false_or] at h2
    have hg : (σ.put (some p.1) x).get p.1 = x.strip := by simp [AS.get, AS.put, look]
    rw [hg]
    split at h2
    · rename_i t u i hop
      obtain ⟨q, hqm, hq2⟩ := List.any_eq_true.1 h2
      simp only [Bool.and_eq_true, beq_iff_eq] at hq2
      have h3 := Im.of h hqm
      rw [hq2.1, hq2.2] at h3
      obtain ⟨-, ⟨-, ⟨c, hr, -⟩ | ⟨f, args, r, hr, -, -⟩⟩ | ⟨-, rfl⟩⟩ := hy
      · unfold Pv.opR at hr
        rw [hop] at hr
        simp only [Pv.ev] at hr
        generalize σ.get u = z at h3 hr
        unfold fieldAddrR at hr
        split at hr
        · split at hr
          · simp only [OR.val.injEq] at hr; rw [← hr.2]; exact h3
          · cases hr
        · split at hr
          · simp only [OR.val.injEq] at hr; rw [← hr.2]; rfl
          · cases hr
        · cases h3
        · cases hr
      · unfold Pv.opR at hr
        rw [hop] at hr
        simp only [] at hr
        unfold fieldAddrR at hr
        split at hr <;> first | cases hr | (split at hr <;> cases hr)
      · rfl
    · cases h2
  · have hg : (σ.put o.dst x).get p.1 = σ.get p.1 := by
      cases hdd : o.dst with
      | none => rfl
      | some d =>
        have : d ≠ p.1 := fun e => hd (by rw [hdd, e])
        simp [AS.get, AS.put, look, this]
    rw [hg]; exact h1

theorem tagAt_clr {tb : List (Nat × Nat × Nat × Nat)} {k k' off n j : Nat} (h : k' ≠ k) : tagAt (clr tb k' off n) k j = tagAt tb k j := by
  induction tb with
  | nil => rfl
  | cons q r ih =>
    unfold clr at ih ⊢
    rw [List.filter_cons]
    split
    · simp only [tagAt, ih]
    · rename_i hc
      have : q.1 = k' := by simp at hc; exact hc.1
      rw [ih]
      conv => rhs; unfold tagAt
      rw [if_neg (by rintro ⟨h1, -⟩; exact h (this.symm.trans h1))]
theorem tagAt_of {tb : List (Nat × Nat × Nat × Nat)} {k k' off j : Nat} {g : Option (Nat × Nat)} (h : k' ≠ k) : tagAt (tbOf k' off g ++ tb) k j = tagAt tb k j := by
  cases g with
  | none => rfl
  | some q => simp [tbOf, tagAt, h]

theorem YA.sep {m : List (Nat × Nat)} {oi oj : Oper} {σ s0 : AS} {x : TV} (hsep : sepOp m oi oj = true) (hm : Im m σ = true) (hh : σ.hint = []) (hy : YA P gl ops oi σ x) (hn : nextVd P gl ops oj σ (fun s => s = s0)) (hs : SameTm σ s0) : YA P gl ops oi s0 x := by
  obtain ⟨ti, a, tj, b, y, hi, hj, hab⟩ : ∃ ti a tj b y, oi.op = .load ti (.tmp a) ∧ oj.op = .store tj (.tmp b) y ∧ (m.any fun p => p.1 == a && m.any fun q => q.1 == b && p.2 != q.2) = true := by
    unfold sepOp at hsep
    split at hsep
    · rename_i ti a tj b y h1 h2; exact ⟨ti, a, tj, b, y, h1, h2, hsep⟩
    · cases hsep
  obtain ⟨p, hp, hp2⟩ := List.any_eq_true.1 hab
  simp only [Bool.and_eq_true, beq_iff_eq] at hp2
  obtain ⟨q, hqm, hq2⟩ := List.any_eq_true.1 hp2.2
  simp only [Bool.and_eq_true, beq_iff_eq, bne_iff_ne, ne_eq] at hq2
  have ha := Im.of hm hp
  have hb := Im.of hm hqm
  rw [hp2.1] at ha
  rw [hq2.1] at hb
  have hqi : quietOp oi = true := by unfold quietOp; rw [hi]
  have hsee : Sees gl ops oi σ { s0 with bx := σ.bx, tb := σ.tb, sh := σ.sh } := ⟨⟨hs.ys, hs.fx, hs.mks⟩, hs.n, fun t _ => by unfold AS.get; show ((look t s0.tm).getD .un).strip = _; rw [hs.tm], rfl, rfl, rfl, hh, by show s0.hint = []; rw [hs.hint]; exact hh⟩
  have h2 := hy.sees hqi hsee
  have hga : s0.get a = σ.get a := by unfold AS.get; rw [hs.tm]
  have hop : Pv.opR P gl { s0 with bx := σ.bx, tb := σ.tb, sh := σ.sh } oi = Pv.opR P gl s0 oi := by
    have hga' : AS.get { s0 with bx := σ.bx, tb := σ.tb, sh := σ.sh } a = σ.get a := by unfold AS.get; show ((look a s0.tm).getD .un).strip = _; rw [hs.tm]
    unfold Pv.opR
    rw [hi]
    simp only [Pv.ev]
    rw [hga, hga']
    obtain ⟨-, hn⟩ := hn
    cases hg : guardB ops oj σ with
    | none => rw [hg] at hn; exact hn.elim
    | some bb =>
      rw [hg] at hn
      cases bb with
      | false =>
        simp only [] at hn
        have e1 : s0.bx = σ.bx := by rw [← hn]; cases oj.dst <;> rfl
        have e2 : s0.tb = σ.tb := by rw [← hn]; cases oj.dst <;> rfl
        have e3 : s0.sh = σ.sh := by rw [← hn]; cases oj.dst <;> rfl
        unfold loadOpR
        rw [e1, e2, e3]
      | true =>
        simp only [] at hn
        have hr : Pv.opR P gl σ oj = storeR P σ tj (σ.get b) (Pv.ev gl σ y) := by unfold Pv.opR; rw [hj]; rfl
        rw [hr] at hn
        generalize σ.get b = zb at hb hn
        generalize σ.get a = za at ha
        cases hst : storeR P σ tj zb (Pv.ev gl σ y) with
        | eff c s =>
          rw [hst] at hn
          have hse : s = s0 := hn.2.2
          subst hse
          unfold storeR at hst
          split at hst
          · cases hst
          · split at hst
            · rename_i kb offb
              split at hst
              · simp only [OR.eff.injEq, hh, openB_nil] at hst
                obtain ⟨-, rfl⟩ := hst
                have hkb : kb = q.2 := by simpa [okP] using hb
                cases za with
                | lp ka offa =>
                  have hka : ka = p.2 := by simpa [okP] using ha
                  have hne : kb ≠ ka := by rw [hkb, hka]; exact fun e => hq2.2 e.symm
                  simp only [loadOpR, look, if_neg hne, tagAt_of hne, tagAt_clr hne]
                | v u g => cases u <;> first | rfl | cases ha
                | _ => rfl
              · cases hst
            · cases hb
            · cases hst
        | stuck => rw [hst] at hn; exact hn.elim
        | val c x => exfalso; unfold storeR at hst; split at hst <;> first | cases hst | (split at hst <;> first | cases hst | (split at hst <;> cases hst))
        | call f l => exfalso; unfold storeR at hst; split at hst <;> first | cases hst | (split at hst <;> first | cases hst | (split at hst <;> cases hst))
        | callB f l ks => exfalso; unfold storeR at hst; split at hst <;> first | cases hst | (split at hst <;> first | cases hst | (split at hst <;> cases hst))
        | yld l x => exfalso; unfold storeR at hst; split at hst <;> first | cases hst | (split at hst <;> first | cases hst | (split at hst <;> cases hst))
  unfold YA at h2 ⊢
  rw [hop] at h2
  exact h2

def isCl : TV → Bool
  | .cl _ _ => true
  | _ => false
def NoC (σ : AS) : Prop := ∀ t, isCl (σ.get t) = false
def calmOp (o : Oper) : Bool := match o.op with
  | .move (.tmp _) | .fieldAddr .. | .load .. | .build .. => true
  | .call c => match c.callee with
    | .value _ => true
    | _ => false
  | _ => false
def allocOp (o : Oper) : Bool := match o.op with
  | .alloc _ => o.guard.isNone
  | _ => false
def stepC (o : Oper) : Bool := calmOp o || storeOp o || allocOp o
theorem calm_quiet {o : Oper} (h : calmOp o = true) : quietOp o = true := by
  unfold calmOp at h; unfold quietOp
  split at h
  · rename_i ho; rw [ho]
  · rename_i ho; rw [ho]
  · rename_i ho; rw [ho]
  · rename_i ho; rw [ho]
  · rename_i c ho
    rw [ho]
    split at h
    · rename_i hc; simp only [hc]
    · cases h
  · cases h
theorem NoC.cl {σ : AS} (h : NoC σ) (k : Nat) : noClP k σ.tm := fun t f ks hl => by
  have := h t
  unfold AS.get at this
  rw [hl] at this
  cases this
theorem isCl_strip (x : TV) : isCl x.strip = isCl x := by cases x <;> rfl
theorem NoC.put {σ : AS} {x : TV} (h : NoC σ) (hx : isCl x = false) (d : Option Nat) : NoC (σ.put d x) := fun t => by
  cases d with
  | none => exact h t
  | some d =>
    by_cases hd : d = t
    · subst hd; simp [AS.get, AS.put, look, isCl_strip, hx]
    · have := h t
      simpa [AS.get, AS.put, look, hd] using this
theorem NoC.same {σ s : AS} (h : NoC σ) (hs : SameTm σ s) : NoC s := fun t => by
  have := h t
  unfold AS.get at this ⊢
  rw [hs.tm]; exact this
theorem NoC_of {σ : AS} (h : (σ.tm.all fun p => !isCl p.2) = true) : NoC σ := fun t => by
  unfold AS.get
  rw [isCl_strip]
  generalize σ.tm = l at h
  induction l with
  | nil => rfl
  | cons p r ih =>
    simp only [List.all_cons, Bool.and_eq_true, Bool.not_eq_true'] at h
    obtain ⟨i, y⟩ := p
    unfold look
    split
    · exact h.1
    · exact ih h.2

theorem calm_val {o : Oper} {σ : AS} {x : TV} (hc : calmOp o = true) (hn : NoC σ) (hy : YA P gl ops o σ x) : isCl x = false := by
  obtain ⟨-, ⟨-, ⟨c, hr, -⟩ | ⟨f, args, r, hr, -, rfl⟩⟩ | ⟨-, rfl⟩⟩ := hy
  · unfold calmOp at hc
    unfold Pv.opR at hr
    split at hc
    · rename_i u ho
      rw [ho] at hr
      simp only [OR.val.injEq, Pv.ev] at hr
      rw [← hr.2]; exact hn u
    · rename_i t y i ho
      rw [ho] at hr
      simp only [] at hr
      unfold fieldAddrR at hr
      split at hr
      · split at hr
        · simp only [OR.val.injEq] at hr; rw [← hr.2]; rfl
        · cases hr
      · split at hr
        · simp only [OR.val.injEq] at hr; rw [← hr.2]; rfl
        · cases hr
      · split at hr
        · simp only [OR.val.injEq] at hr; rw [← hr.2]; rfl
        · cases hr
      · cases hr
    · rename_i t y ho
      rw [ho] at hr
      simp only [] at hr
      have hL : ∀ l c y, loadR P t l = .val c y → isCl y = false := fun l c y hl => by
        unfold loadR at hl
        split at hl
        · simp only [OR.val.injEq] at hl; rw [← hl.2]; rfl
        · split at hl
          · simp only [OR.val.injEq] at hl; rw [← hl.2]; rfl
          · cases hl
        · cases hl
      have hT : ∀ g l c y, retag g (loadR P t l) = .val c y → isCl y = false := fun g l c y hl => by
        cases hq : loadR P t l with
        | val c' y' =>
          rw [hq] at hl
          have h1 := hL l c' y' hq
          cases y' with
          | v u gg => cases gg with
            | none => simp only [retag, OR.val.injEq] at hl; rw [← hl.2]; rfl
            | some gg => simp only [retag, OR.val.injEq] at hl; rw [← hl.2]; rfl
          | un => simp only [retag, OR.val.injEq] at hl; rw [← hl.2]; rfl
          | bld _ _ => simp only [retag, OR.val.injEq] at hl; rw [← hl.2]; rfl
          | lp _ _ => simp only [retag, OR.val.injEq] at hl; rw [← hl.2]; rfl
          | it _ => simp only [retag, OR.val.injEq] at hl; rw [← hl.2]; rfl
          | cl _ _ => cases h1
        | _ => rw [hq] at hl; cases hl
      unfold loadOpR at hr
      split at hr
      · exact hL _ _ _ hr
      · split at hr
        · split at hr
          · exact hL _ _ _ hr
          · exact hT _ _ _ _ hr
          · cases hr
        · cases hr
      · split at hr
        · exact hL _ _ _ hr
        · cases hr
      · cases hr
    · rename_i t y ho
      rw [ho] at hr
      simp only [] at hr
      unfold buildR at hr
      split at hr
      · split at hr
        · split at hr
          · simp only [OR.val.injEq] at hr; rw [← hr.2]; rfl
          · cases hr
        · cases hr
      · cases hr
    · rename_i cc ho
      rw [ho] at hr
      simp only [] at hr
      unfold callR at hr
      split at hc
      · rename_i y hcc
        rw [hcc] at hr
        simp only [] at hr
        split at hr <;> cases hr
      · cases hc
    · cases hc
  · rfl
  · rfl

theorem calm_bx {o : Oper} {σ : AS} {x : TV} {k : Nat} {z : List AV} (hc : calmOp o = true) (hk : look k σ.bx = none) (hy : YA P gl ops o σ x) : YA P gl ops o { σ with bx := (k, z) :: σ.bx } x := by
  obtain ⟨hd, h⟩ := hy
  refine ⟨hd, ?_⟩
  have hev : Pv.ev gl { σ with bx := (k, z) :: σ.bx } = Pv.ev gl σ := by funext y; cases y <;> rfl
  have key : ∀ r, Pv.opR P gl σ o = r → r ≠ .stuck → Pv.opR P gl { σ with bx := (k, z) :: σ.bx } o = r := by
    intro r hr hs
    unfold calmOp at hc
    unfold Pv.opR at hr ⊢
    split at hc
    · rename_i u ho; rw [ho] at hr ⊢; exact hr
    · rename_i t y i ho; rw [ho] at hr ⊢; simp only [hev] at hr ⊢; exact hr
    · rename_i t y ho
      rw [ho] at hr ⊢
      simp only [hev] at hr ⊢
      generalize Pv.ev gl σ y = a at hr ⊢
      cases a with
      | lp k' off =>
        have hne : k ≠ k' := by
          rintro rfl
          simp only [loadOpR, hk] at hr
          exact hs hr.symm
        simp only [loadOpR, look, if_neg hne] at hr ⊢
        exact hr
      | v u g => cases u <;> exact hr
      | _ => exact hr
    · rename_i t y ho; rw [ho] at hr ⊢; simp only [hev] at hr ⊢; exact hr
    · rename_i cc ho
      rw [ho] at hr ⊢
      simp only [] at hr ⊢
      unfold callR at hr ⊢
      split at hc
      · rename_i y hcc
        rw [hcc] at hr ⊢
        simp only [hev] at hr ⊢
        exact hr
      · cases hc
    · cases hc
  rcases h with ⟨hg, ⟨c, hr, h2⟩ | ⟨f, args, r, hr, h2⟩⟩ | h
  · exact .inl ⟨hg, .inl ⟨c, key _ hr (fun e => by cases e), h2⟩⟩
  · exact .inl ⟨hg, .inr ⟨f, args, r, key _ hr (fun e => by cases e), h2⟩⟩
  · exact .inr h

def al (σ : AS) (k : Nat) (z : List AV) : AS := { σ with bx := (k, z) :: σ.bx, hint := [] }.put (some k) (.lp k 0)
def AlOk (P : Program) (gl : Gl) (o : Oper) (σ : AS) (k : Nat) (z : List AV) : Prop := dstOk P o σ = true ∧ (∃ t, o.op = .alloc t ∧ azero P t = some z) ∧ o.dst = some k ∧ look k σ.bx = none ∧ gl.y = none
theorem alloc_of {o : Oper} {σ : AS} {K : AS → Prop} (ho : allocOp o = true) (hh : σ.hint = []) (h : nextVd P gl ops o σ K) : ∃ k z, AlOk P gl o σ k z ∧ K (al σ k z) := by
  unfold allocOp at ho
  split at ho
  · rename_i t hop
    obtain ⟨hd, h⟩ := h
    have hg : guardB ops o σ = some true := by
      unfold guardB
      cases hgu : o.guard with
      | none => rfl
      | some q => rw [hgu] at ho; cases ho
    rw [hg] at h
    simp only [] at h
    have hR : Pv.opR P gl σ o = allocR P σ o.dst t := by unfold Pv.opR; rw [hop]
    rw [hR] at h
    unfold allocR at h
    split at h
    · rename_i z k hz hdst
      cases hl : look k σ.bx with
      | none =>
        rw [hl] at h
        simp only [hh, openB_nil] at h
        exact ⟨k, z, ⟨hd, ⟨t, hop, hz⟩, hdst, hl, h.2.1.2⟩, h.2.2⟩
      | some c => rw [hl] at h; exact h.elim
    · exact h.elim
  · cases ho
theorem alloc_to {o : Oper} {σ : AS} {K : AS → Prop} {k : Nat} {z : List AV} (ho : allocOp o = true) (hh : σ.hint = []) (ha : AlOk P gl o σ k z) (hc : noClP k σ.tm) (hK : K (al σ k z)) : nextVd P gl ops o σ K := by
  obtain ⟨hd, ⟨t, hop, hz⟩, hdst, hl, hy⟩ := ha
  have hg : guardB ops o σ = some true := by
    unfold allocOp at ho
    rw [hop] at ho
    unfold guardB
    cases hgu : o.guard with
    | none => rfl
    | some q => rw [hgu] at ho; cases ho
  refine ⟨hd, ?_⟩
  rw [hg]
  simp only []
  have hR : Pv.opR P gl σ o = .eff (noClP k σ.tm) (al σ k z) := by
    unfold Pv.opR
    rw [hop]
    simp only [allocR, hz, hdst, hl, hh, openB_nil]
    rfl
  rw [hR]
  exact ⟨by unfold quietOp; rw [hop], ⟨hc, hy⟩, hK⟩
theorem AlOk.put {o : Oper} {σ : AS} {k : Nat} {z : List AV} {d : Option Nat} {x : TV} (h : AlOk P gl o (σ.put d x) k z) : AlOk P gl o σ k z := by
  cases d with
  | none => exact h
  | some d => exact h
theorem al_put (σ : AS) (k : Nat) (z : List AV) (d : Option Nat) (x : TV) (hd : d ≠ some k) : Eqv (al (σ.put d x) k z) ((al σ k z).put d x) := by
  cases d with
  | none => exact ⟨⟨rfl, rfl, rfl⟩, rfl, fun _ => rfl, rfl, rfl, rfl, rfl, rfl⟩
  | some d =>
    refine ⟨⟨rfl, rfl, rfl⟩, rfl, fun t => ?_, rfl, rfl, rfl, rfl, rfl⟩
    simp only [al, AS.put, look]
    by_cases h1 : d = t
    · have h2 : ¬ k = t := fun e => hd (by rw [h1, e])
      rw [if_pos h1, if_neg h2]
      simp [h1]
    · rw [if_neg h1]
      simp [h1]

theorem nextVd_mono {o : Oper} {σ : AS} {K K' : AS → Prop} (hk : ∀ s, K s → K' s) (h : nextVd P gl ops o σ K) : nextVd P gl ops o σ K' := by
  obtain ⟨hd, h⟩ := h
  refine ⟨hd, ?_⟩
  cases hg : guardB ops o σ with
  | none => rw [hg] at h; exact h
  | some b =>
    rw [hg] at h
    cases b with
    | false => exact hk _ h
    | true =>
      simp only [] at h ⊢
      cases hr : opR P gl σ o with
      | stuck => rw [hr] at h; exact h
      | val c x => rw [hr] at h; exact ⟨h.1, hk _ h.2⟩
      | eff c s => rw [hr] at h; exact ⟨h.1, h.2.1, hk _ h.2.2⟩
      | call f args => rw [hr] at h; obtain ⟨r, h1, h2⟩ := h; exact ⟨r, h1, hk _ h2⟩
      | callB f args ks => rw [hr] at h; exact h.elim
      | yld l x => rw [hr] at h; exact h.elim

def OkM (b : Bool) (m : List (Nat × Nat)) (ops : Array Oper) : Prop := (m = [] ∨ ∀ (j : Nat) (o : Oper), ops[j]? = some o → stepOk m o = true) ∧ (b = false ∨ ∀ (j : Nat) (o : Oper), ops[j]? = some o → stepC o = true)
def Iv (b : Bool) (m : List (Nat × Nat)) (σ : AS) : Prop := Im m σ = true ∧ (b = true → NoC σ)

theorem stepC_quiet {o : Oper} (h : stepC o = true) (hq : quietOp o = true) : calmOp o = true := by
  unfold stepC at h
  cases hc : calmOp o with
  | true => rfl
  | false =>
    cases hs : storeOp o with
    | true => have := store_loud hs; rw [hq] at this; cases this
    | false =>
      rw [hc, hs] at h
      unfold allocOp at h
      unfold quietOp at hq
      cases ho : o.op <;> rw [ho] at h hq <;> first | cases h | cases hq

theorem Iv.putM {b : Bool} {m : List (Nat × Nat)} {σ : AS} {j : Nat} {o : Oper} {x : TV} (hom : OkM b m ops) (ho : ops[j]? = some o) (h : Iv b m σ) (hq : quietOp o = true) (hy : YA P gl ops o σ x) : Iv b m (σ.put o.dst x) := by
  refine ⟨?_, fun hb => ?_⟩
  · rcases hom.1 with rfl | hom
    · rfl
    · exact Im.put h.1 (hom j o ho) hq hy
  · rcases hom.2 with rfl | hom
    · cases hb
    · exact (h.2 hb).put (calm_val (stepC_quiet (hom j o ho) hq) (h.2 hb) hy) _

theorem Iv.same {b : Bool} {m : List (Nat × Nat)} {σ s : AS} (h : Iv b m σ) (hs : SameTm σ s) : Iv b m s := ⟨Im.same h.1 hs, fun hb => (h.2 hb).same hs⟩

theorem Iv.al {m : List (Nat × Nat)} {b : Bool} {σ : AS} {j : Nat} {o : Oper} {k : Nat} {z : List AV} (hom : OkM b m ops) (ho : ops[j]? = some o) (hal : allocOp o = true) (h : Iv b m σ) : Iv b m (al σ k z) := by
  refine ⟨?_, fun hb => ?_⟩
  · rcases hom.1 with rfl | hom
    · rfl
    · exfalso
      have h1 := hom j o ho
      unfold allocOp at hal
      unfold stepOk storeOp quietOp at h1
      cases hop : o.op <;> rw [hop] at hal h1 <;> first | cases hal | cases h1
  · have := (h.2 hb).put (x := .lp k 0) rfl (some k)
    intro t
    exact this t

theorem Iv.next {b : Bool} {m : List (Nat × Nat)} {σ : AS} {j : Nat} {o : Oper} {K : AS → Prop} (hom : OkM b m ops) (ho : ops[j]? = some o) (hh : σ.hint = []) (h : Iv b m σ) (hn : nextVd P gl ops o σ K) : nextVd P gl ops o σ (fun s => Iv b m s ∧ K s) := by
  cases hso : storeOp o with
  | true =>
    obtain ⟨s, hs, hsm, hany, -⟩ := store_step hso hh hn
    exact hany _ ⟨h.same hsm, hs⟩
  | false =>
    cases hq : quietOp o with
    | true =>
      obtain ⟨x, hy, hk⟩ := YA_of_next hq hn
      exact next_of_YA hy ⟨h.putM hom ho hq hy, hk⟩
    | false =>
      cases hal : allocOp o with
      | true =>
        obtain ⟨k, z, ha, hK⟩ := alloc_of hal hh hn
        have hcl : nextVd P gl ops o σ fun s => K s := hn
        unfold allocOp at hal
        split at hal
        · rename_i t hop
          have hal' : allocOp o = true := by unfold allocOp; rw [hop]; exact hal
          have hv := h.al (k := k) (z := z) hom ho hal'
          -- what the new box asks stands as it stood
          have hc : noClP k σ.tm := by
            obtain ⟨hd, hn⟩ := hn
            have hg : guardB ops o σ = some true := by
              unfold guardB
              cases hgu : o.guard with
              | none => rfl
              | some q => rw [hgu] at hal; cases hal
            rw [hg] at hn
            simp only [] at hn
            have hR : Pv.opR P gl σ o = allocR P σ o.dst t := by unfold Pv.opR; rw [hop]
            rw [hR] at hn
            obtain ⟨-, ⟨t', hop', hz⟩, hdst, hl, -⟩ := ha
            rw [hop] at hop'
            injection hop' with hop'
            subst hop'
            simp only [allocR, hz, hdst, hl] at hn
            exact hn.2.1.1
          exact alloc_to hal' hh ha hc ⟨hv, hK⟩
        · cases hal
      | false =>
        have hb : b = false := by
          rcases hom.2 with hb | hom
          · exact hb
          · have := hom j o ho
            unfold stepC at this
            rw [hso, hal] at this
            simp only [Bool.or_false] at this
            have := calm_quiet this
            rw [hq] at this; cases this
        have hm : m = [] := by
          rcases hom.1 with hm | hom
          · exact hm
          · have := hom j o ho
            unfold stepOk at this
            rw [hso, hq] at this
            cases this
        subst hb; subst hm
        exact nextVd_mono (fun s hs => ⟨⟨rfl, fun h => by cases h⟩, hs⟩) hn

theorem anyA_first {b : Bool} {m : List (Nat × Nat)} (hom : OkM b m ops) {i : Nat} {oi : Oper} {x : TV} (hi : ops[i]? = some oi) (hqi : quietOp oi = true) (hK : ∀ s s', Eqv s s' → K s → K s') : ∀ (fuel : Nat) (listed : Array Bool) (σ : AS), Iv b m σ → σ.hint = [] → DC ops listed →
    (∀ j oj, ops[j]? = some oj → j ≠ i → listed.getD j true = false → Reach ops j i ∨ ((quietOp oj = true ∨ (pureOp oi = true ∧ storeOp oj = true) ∨ (sepOp m oi oj = true ∧ storeOp oj = true) ∨ (b = true ∧ calmOp oi = true ∧ allocOp oj = true)) ∧ oi.apart ops oj = true)) →
    i ∈ Region.ready .any ops listed → YA P gl ops oi σ x → anyA P gl ops K fuel (listed.setIfInBounds i true) (σ.put oi.dst x) → anyA P gl ops K (fuel + 1) listed σ := by
  intro fuel
  induction fuel with
  | zero =>
    intro listed σ him hh hdc hfree hr hy H
    refine ⟨fun h => (by rw [h] at hr; cases hr), fun j hj => ?_⟩
    by_cases hji : j = i
    · subst hji; exact ⟨oi, hi, next_of_YA hy H⟩
    · have := ready_mono hj hji
      rw [H.1] at this
      cases this
  | succ fuel ih =>
    intro listed σ him hh hdc hfree hr hy H
    refine ⟨fun h => (by rw [h] at hr; cases hr), fun j hj => ?_⟩
    by_cases hji : j = i
    · subst hji; exact ⟨oi, hi, next_of_YA hy H⟩
    · obtain ⟨hjun, oj', hoj', _⟩ := mem_ready.1 hj
      obtain ⟨oj, hoj, h1⟩ := H.2 j (ready_mono hj hji)
      have hiun := (mem_ready.1 hr).1
      have hfree' : ∀ k ok, ops[k]? = some ok → k ≠ i → (listed.setIfInBounds j true).getD k true = false → Reach ops k i ∨ ((quietOp ok = true ∨ (pureOp oi = true ∧ storeOp ok = true) ∨ (sepOp m oi ok = true ∧ storeOp ok = true) ∨ (b = true ∧ calmOp oi = true ∧ allocOp ok = true)) ∧ oi.apart ops ok = true) := by
        intro k ok hk' hki hun
        refine hfree k ok hk' hki ?_
        by_cases hjk : j = k
        · subst hjk; exact hjun
        · rw [getD_set_ne true hjk] at hun; exact hun
      rcases hfree j oj hoj hji hjun with hreach | ⟨hqj | ⟨hpi, hsj⟩ | ⟨hsp, hsj⟩ | ⟨hbt, hci, haj⟩, hap⟩
      · exact absurd (hdc.ready hreach hj) (unlisted hiun)
      · obtain ⟨a1, a2, a3⟩ := Oper.apart_spec hap
        have hs1 : Sees gl ops oj σ (σ.put oi.dst x) := sees_put hh x a1
        obtain ⟨y, hyj, hk⟩ := YA_of_next hqj h1
        have hyj' : YA P gl ops oj σ y := hyj.sees hqj hs1.symm
        refine ⟨oj, hoj, next_of_YA hyj' ?_⟩
        refine ih (listed.setIfInBounds j true) (σ.put oj.dst y) (Iv.putM hom hoj him hqj hyj') (put_hint hh _ _) (hdc.set hj) ?_ (ready_mono hr (Ne.symm hji)) (hy.sees hqi (sees_put hh y a3)) ?_
        · exact hfree'
        · rw [Array.setIfInBounds_comm _ _ hji]
          refine anyA_eqv hK fuel _ _ _ ?_ hk
          exact Eqv.swap hh x y (fun t ht hd => a2 t ht hd)
      · obtain ⟨a1, a2, a3⟩ := Oper.apart_spec hap
        have hh1 : (σ.put oi.dst x).hint = [] := put_hint hh _ _
        -- the store behind the quiet operation, and the same store ahead of it
        obtain ⟨s0, hs0, hsm0, hany0, -⟩ := store_ahead hsj hh a1 h1
        refine ⟨oj, hoj, hany0 _ ?_⟩
        refine ih (listed.setIfInBounds j true) s0 (him.same hsm0) (by rw [hsm0.hint]; exact hh) (hdc.set hj) hfree' (ready_mono hr (Ne.symm hji)) (hy.pure hpi hh hsm0) ?_
        rw [Array.setIfInBounds_comm _ _ hji]
        exact hs0
      · obtain ⟨a1, a2, a3⟩ := Oper.apart_spec hap
        have hh1 : (σ.put oi.dst x).hint = [] := put_hint hh _ _
        -- the store behind the quiet operation, and the same store ahead of it
        obtain ⟨s0, hs0, hsm0, hany0, -⟩ := store_ahead hsj hh a1 h1
        refine ⟨oj, hoj, hany0 _ ?_⟩
        refine ih (listed.setIfInBounds j true) s0 (him.same hsm0) (by rw [hsm0.hint]; exact hh) (hdc.set hj) hfree' (ready_mono hr (Ne.symm hji)) (hy.sep hsp him.1 hh (hany0 _ rfl) hsm0) ?_
        rw [Array.setIfInBounds_comm _ _ hji]
        exact hs0
      · obtain ⟨a1, a2, a3⟩ := Oper.apart_spec hap
        have hh1 : (σ.put oi.dst x).hint = [] := put_hint hh _ _
        -- the new box behind the quiet operation, and the same box ahead of it
        obtain ⟨k, z, hal, hs0⟩ := alloc_of haj hh1 h1
        have hal' : AlOk P gl oj σ k z := hal.put
        have hnc := (him.2 hbt).cl k
        refine ⟨oj, hoj, alloc_to haj hh hal' hnc ?_⟩
        have hyk : YA P gl ops oi (al σ k z) x := by
          have h3 := hy.sees hqi (sees_put (d := some k) hh (.lp k 0) (fun t ht => a3 t (by rw [hal'.2.2.1]; exact ht)))
          have h4 := calm_bx (z := z) hci (show look k (σ.put (some k) (.lp k 0)).bx = none from hal'.2.2.2.1) h3
          have : al σ k z = { σ.put (some k) (.lp k 0) with bx := (k, z) :: (σ.put (some k) (.lp k 0)).bx } := by
            unfold al AS.put
            simp only [hh]
          rw [this]; exact h4
        refine ih (listed.setIfInBounds j true) (al σ k z) (him.al hom hoj haj) rfl (hdc.set hj) hfree' (ready_mono hr (Ne.symm hji)) hyk ?_
        rw [Array.setIfInBounds_comm _ _ hji]
        exact anyA_eqv hK fuel _ _ _ (al_put σ k z oi.dst x (fun e => a2 k e hal'.2.2.1)) hs0

theorem anyA_delay {k : Nat} {o : Oper} (hk : ops[k]? = some o) (hK : ∀ s s', Eqv s s' → K s → K s') : ∀ (fuel : Nat) (listed : Array Bool) (σ : AS), σ.hint = [] → DC ops listed →
    (∀ j oj, ops[j]? = some oj → j ≠ k → listed.getD j true = false → Reach ops j k ∨ (storeOp o = true ∧ pureOp oj = true ∧ oj.apart ops o = true)) →
    k ∈ Region.ready .any ops listed → nextVd P gl ops o σ (anyA P gl ops K fuel (listed.setIfInBounds k true)) → anyA P gl ops K (fuel + 1) listed σ := by
  intro fuel
  induction fuel with
  | zero =>
    intro listed σ hh hdc hfree hr H
    refine ⟨fun h => (by rw [h] at hr; cases hr), fun j hj => ?_⟩
    by_cases hjk : j = k
    · subst hjk; exact ⟨o, hk, H⟩
    · obtain ⟨hjun, oj, hoj, _⟩ := mem_ready.1 hj
      rcases hfree j oj hoj hjk hjun with hreach | ⟨hso, hpj, hap⟩
      · exact absurd (hdc.ready hreach hj) (unlisted (mem_ready.1 hr).1)
      · obtain ⟨s, hs, -⟩ := store_step hso hh H
        have := ready_mono hj hjk
        rw [hs.1] at this
        cases this
  | succ fuel ih =>
    intro listed σ hh hdc hfree hr H
    refine ⟨fun h => (by rw [h] at hr; cases hr), fun j hj => ?_⟩
    by_cases hjk : j = k
    · subst hjk; exact ⟨o, hk, H⟩
    · obtain ⟨hjun, oj, hoj, _⟩ := mem_ready.1 hj
      rcases hfree j oj hoj hjk hjun with hreach | ⟨hso, hpj, hap⟩
      · exact absurd (hdc.ready hreach hj) (unlisted (mem_ready.1 hr).1)
      · obtain ⟨a1, a2, a3⟩ := Oper.apart_spec hap
        obtain ⟨s, hs, hsm, -, hput⟩ := store_step hso hh H
        obtain ⟨oj', hoj', hn⟩ := hs.2 j (ready_mono hj hjk)
        obtain rfl : oj = oj' := Option.some.inj (hoj.symm.trans hoj')
        obtain ⟨y, hy, hky⟩ := YA_of_next (pure_quiet hpj) hn
        have hsh : s.hint = [] := by rw [hsm.hint]; exact hh
        have hy' : YA P gl ops oj σ y := hy.pure hpj hsh ⟨hsm.tm.symm, hsm.n.symm, hsm.ys.symm, hsm.fx.symm, hsm.mks.symm, hsm.hint.symm⟩
        refine ⟨oj, hoj, next_of_YA hy' ?_⟩
        refine ih (listed.setIfInBounds j true) (σ.put oj.dst y) (put_hint hh _ _) (hdc.set hj) (fun m om hm hmk hun => ?_) (ready_mono hr (Ne.symm hjk)) ?_
        · refine hfree m om hm hmk ?_
          by_cases hjm : j = m
          · subst hjm; exact hjun
          · rw [getD_set_ne true hjm] at hun; exact hun
        · refine hput oj.dst y a1 _ ?_
          rw [Array.setIfInBounds_comm _ _ hjk]
          exact hky

def edgesOf (o : Oper) : List Nat := (o.after.toList.filter fun e => Region.binds .any e).map (·.on)

def maskOf (acc : List Nat) (es : List Nat) : Nat := es.foldl (fun m e => m ||| (2 ^ e ||| acc.getD e 0)) 0

def masks : List Oper → List Nat → List Nat
  | [], acc => acc
  | o :: r, acc => masks r (acc ++ [maskOf acc (edgesOf o)])

theorem foldl_or (f : Nat → Nat) (i : Nat) : ∀ (es : List Nat) (m : Nat), (es.foldl (fun m e => m ||| f e) m).testBit i = true → m.testBit i = true ∨ ∃ e ∈ es, (f e).testBit i = true
  | [], m, h => .inl h
  | e :: es, m, h => by
    rcases foldl_or f i es _ h with h | ⟨e', he, h⟩
    · rw [Nat.testBit_or, Bool.or_eq_true] at h
      rcases h with h | h
      · exact .inl h
      · exact .inr ⟨e, by simp, h⟩
    · exact .inr ⟨e', by simp [he], h⟩

theorem mask_spec {acc : List Nat} {j : Nat} {o : Oper} (ho : ops[j]? = some o) (hacc : ∀ k i, (acc.getD k 0).testBit i = true → Reach ops k i) {i : Nat} (h : (maskOf acc (edgesOf o)).testBit i = true) : Reach ops j i := by
  rcases foldl_or _ i _ _ h with h | ⟨e, he, h⟩
  · simp at h
  · obtain ⟨ed, hed, rfl⟩ := List.mem_map.1 he
    obtain ⟨h1, h2⟩ := List.mem_filter.1 hed
    have h1' : ed ∈ o.after := by simpa using h1
    rw [Nat.testBit_or, Bool.or_eq_true] at h
    rcases h with h | h
    · rw [Nat.testBit_two_pow] at h
      exact .one j i o ho ed h1' h2 (by simpa using h)
    · exact .step j ed.on i o ho ed h1' h2 rfl (hacc _ _ h)

theorem masks_spec : ∀ (l : List Oper) (acc : List Nat), (∀ j, l[j]? = ops[acc.length + j]?) → (∀ k i, (acc.getD k 0).testBit i = true → Reach ops k i) → ∀ k i, ((masks l acc).getD k 0).testBit i = true → Reach ops k i
  | [], acc, _, h, k, i, hk => h k i hk
  | o :: l, acc, hl, h, k, i, hk => by
    refine masks_spec l (acc ++ [maskOf acc (edgesOf o)]) (fun j => ?_) (fun k' i' hk' => ?_) k i hk
    · have := hl (j + 1)
      simpa [Nat.add_assoc, Nat.add_comm 1 j] using this
    · have h0 : ops[acc.length]? = some o := by simpa using (hl 0).symm
      rw [List.getD_eq_getElem?_getD] at hk'
      rcases Nat.lt_trichotomy k' acc.length with hlt | heq | hgt
      · rw [List.getElem?_append_left hlt] at hk'
        exact h k' i' (by rw [List.getD_eq_getElem?_getD]; exact hk')
      · subst heq
        rw [List.getElem?_append_right (Nat.le_refl _)] at hk'
        simp only [Nat.sub_self, List.getElem?_cons_zero, Option.getD_some] at hk'
        exact mask_spec h0 h hk'
      · rw [List.getElem?_eq_none (by simp; omega)] at hk'
        simp at hk'

def pairOk (b : Bool) (m : List (Nat × Nat)) (ops : Array Oper) (ms : List Nat) (i : Nat) (oi : Oper) (j : Nat) (oj : Oper) : Bool :=
  (ms.getD j 0).testBit i || (quietOp oi && quietOp oj && oi.apart ops oj) || (pureOp oi && storeOp oj && oi.apart ops oj) || (sepOp m oi oj && storeOp oj && oi.apart ops oj) || (b && calmOp oi && allocOp oj && oi.apart ops oj) || (storeOp oi && pureOp oj && oj.apart ops oi)

def rowOk (b : Bool) (m : List (Nat × Nat)) (ops : Array Oper) (ms : List Nat) (i : Nat) (oi : Oper) : Nat → List Oper → Bool
  | _, [] => true
  | j, oj :: r => pairOk b m ops ms i oi j oj && rowOk b m ops ms i oi (j + 1) r

def allOk (b : Bool) (m : List (Nat × Nat)) (ops : Array Oper) (ms : List Nat) : Nat → List Oper → Bool
  | _, [] => true
  | i, o :: r => (edgesOf o).all (fun e => decide (e < i)) && rowOk b m ops ms i o (i + 1) r && allOk b m ops ms (i + 1) r

def lexOkM (b : Bool) (m : List (Nat × Nat)) (ops : Array Oper) : Bool := (m.isEmpty || ops.toList.all (stepOk m)) && (!b || ops.toList.all stepC) && allOk b m ops (masks ops.toList []) 0 ops.toList
def lexOk (ops : Array Oper) : Bool := lexOkM false [] ops

theorem rowOk_spec {b : Bool} {m : List (Nat × Nat)} {ms : List Nat} {i : Nat} {oi : Oper} : ∀ (r : List Oper) (j : Nat), rowOk b m ops ms i oi j r = true → ∀ k o, r[k]? = some o → pairOk b m ops ms i oi (j + k) o = true
  | [], _, _, k, o, h => by simp at h
  | o' :: r, j, h, k, o, hk => by
    simp only [rowOk, Bool.and_eq_true] at h
    cases k with
    | zero => simp at hk; subst hk; exact h.1
    | succ k =>
      have := rowOk_spec r (j + 1) h.2 k o (by simpa using hk)
      rwa [show j + 1 + k = j + (k + 1) by omega] at this

def RVd (P : Program) (gl : Gl) (ops : Array Oper) : List Oper → AS → (AS → Prop) → Prop
  | [], σ, K => K σ
  | o :: rest, σ, K => nextVd P gl ops o σ fun σ' => RVd P gl ops rest σ' K

theorem eff_hint {o : Oper} {σ : AS} {K : AS → Prop} (hh : σ.hint = []) (h : nextVd P gl ops o σ K) : nextVd P gl ops o σ fun s => s.hint = [] ∧ K s := by
  have e : Eqv σ σ := ⟨⟨rfl, rfl, rfl⟩, rfl, fun _ => rfl, rfl, rfl, rfl, hh, hh⟩
  exact nextVd_eqv' e h
where
  nextVd_eqv' {o : Oper} {σ : AS} {K : AS → Prop} (e : Eqv σ σ) (hn : nextVd P gl ops o σ K) : nextVd P gl ops o σ fun s => s.hint = [] ∧ K s := by
    refine ⟨hn.1, ?_⟩
    have hn := hn.2
    cases hg : guardB ops o σ with
    | none => rw [hg] at hn; exact hn
    | some b =>
      rw [hg] at hn
      cases b with
      | false => exact ⟨put_hint e.hint.1 _ _, hn⟩
      | true =>
        simp only [] at hn ⊢
        cases hr : opR P gl σ o with
        | stuck => rw [hr] at hn; exact hn
        | val c x => rw [hr] at hn; exact ⟨hn.1, put_hint e.hint.1 _ _, hn.2⟩
        | call f args => rw [hr] at hn; obtain ⟨r, h1, h2⟩ := hn; exact ⟨r, h1, put_hint e.hint.1 _ _, h2⟩
        | callB f args ks => rw [hr] at hn; exact hn.elim
        | yld l x => rw [hr] at hn; exact hn.elim
        | eff c s =>
          rw [hr] at hn
          refine ⟨hn.1, hn.2.1, ?_, hn.2.2⟩
          rcases opR_eqv (P := P) (gl := gl) e hn.1 with ⟨c', s1, s2, h1, h2, h3⟩ | h1
          · rw [hr] at h1; injection h1 with _ h1; subst h1; exact h3.hint.1
          · rw [hr] at h1; cases h1

theorem anyA_lex {b : Bool} {m : List (Nat × Nat)} (hom : OkM b m ops) (hK : ∀ s s', Eqv s s' → K s → K s') : ∀ (l : List Oper) (k : Nat) (listed : Array Bool) (σ : AS), (∀ j, l[j]? = ops[k + j]?) → allOk b m ops (masks ops.toList []) k l = true → listed.size = ops.size → k + l.length = ops.size →
    (∀ j, j < ops.size → listed.getD j true = decide (j < k)) → DC ops listed → σ.hint = [] → Iv b m σ → RVd P gl ops l σ K → anyA P gl ops K l.length listed σ
  | [], k, listed, σ, _, _, hsz, hlen, hlist, _, _, _, h => by
    refine ⟨?_, h⟩
    cases hr : Region.ready .any ops listed with
    | nil => rfl
    | cons i r =>
      have hi : i ∈ Region.ready .any ops listed := by rw [hr]; simp
      obtain ⟨h1, o, ho, _⟩ := mem_ready.1 hi
      have hlt := (Array.getElem?_eq_some_iff.1 ho).1
      rw [hlist i hlt] at h1
      simp at hlen h1
      omega
  | o :: l, k, listed, σ, hl, hB, hsz, hlen, hlist, hdc, hh, him, h => by
    have h0 : ops[k]? = some o := by simpa using (hl 0).symm
    have hlt := (Array.getElem?_eq_some_iff.1 h0).1
    simp only [allOk, Bool.and_eq_true] at hB
    obtain ⟨⟨hedge, hrow⟩, hB'⟩ := hB
    have hgetf : ∀ j, j < ops.size → listed.getD j false = decide (j < k) := fun j hj => by
      rw [← hlist j hj]
      have : j < listed.size := by omega
      simp [this]
    have hready : k ∈ Region.ready .any ops listed := by
      refine mem_ready.2 ⟨by rw [hlist k hlt]; simp, o, h0, fun e he hb => ?_⟩
      have : e.on < k := by
        have := List.all_eq_true.1 hedge e.on (List.mem_map.2 ⟨e, List.mem_filter.2 ⟨by simpa using he, hb⟩, rfl⟩)
        simpa using this
      rw [hgetf e.on (by omega)]
      simpa using this
    have hpair : ∀ j oj, ops[j]? = some oj → j ≠ k → listed.getD j true = false → ((Reach ops j k ∨ (quietOp o = true ∧ quietOp oj = true ∧ o.apart ops oj = true)) ∨ (pureOp o = true ∧ storeOp oj = true ∧ o.apart ops oj = true) ∨ ((sepOp m o oj = true ∧ storeOp oj = true) ∧ o.apart ops oj = true) ∨ ((b = true ∧ calmOp o = true ∧ allocOp oj = true) ∧ o.apart ops oj = true)) ∨ (storeOp o = true ∧ pureOp oj = true ∧ oj.apart ops o = true) := by
      intro j oj hj hne hun
      have hjlt := (Array.getElem?_eq_some_iff.1 hj).1
      rw [hlist j hjlt] at hun
      simp only [decide_eq_false_iff_not] at hun
      obtain ⟨d, rfl⟩ : ∃ d, j = k + 1 + d := ⟨j - (k + 1), by omega⟩
      have hd : l[d]? = some oj := by
        have := hl (d + 1)
        rw [show k + (d + 1) = k + 1 + d by omega, hj] at this
        simpa using this
      have := rowOk_spec l (k + 1) hrow d oj hd
      simp only [pairOk, Bool.or_eq_true, Bool.and_eq_true] at this
      rcases this with ((((h | h) | h) | h) | h) | h
      · exact .inl (.inl (.inl (masks_spec ops.toList [] (by simp) (by simp) _ _ h)))
      · exact .inl (.inl (.inr ⟨h.1.1, h.1.2, h.2⟩))
      · exact .inl (.inr (.inl ⟨h.1.1, h.1.2, h.2⟩))
      · exact .inl (.inr (.inr (.inl ⟨h.1, h.2⟩)))
      · exact .inl (.inr (.inr (.inr ⟨⟨h.1.1.1, h.1.1.2, h.1.2⟩, h.2⟩)))
      · exact .inr ⟨h.1.1, h.1.2, h.2⟩
    have hlist' : ∀ j, j < ops.size → (listed.setIfInBounds k true).getD j true = decide (j < k + 1) := by
      intro j hj
      by_cases hjk : k = j
      · subst hjk
        have : k < listed.size := by omega
        simp [this]
      · rw [getD_set_ne true hjk, hlist j hj]
        congr 1
        apply propext
        omega
    have hl' : ∀ j, l[j]? = ops[k + 1 + j]? := fun j => by
      have := hl (j + 1)
      simpa [Nat.add_assoc, Nat.add_comm 1 j] using this
    have hsz' : (listed.setIfInBounds k true).size = ops.size := by simpa using hsz
    have hlen' : k + 1 + l.length = ops.size := by simp at hlen; omega
    by_cases hq : quietOp o = true
    · obtain ⟨x, hy, hk⟩ := YA_of_next hq h
      have := anyA_lex hom hK l (k + 1) (listed.setIfInBounds k true) (σ.put o.dst x) hl' hB' hsz' hlen' hlist' (hdc.set hready) (put_hint hh _ _) (Iv.putM hom h0 him hq hy) hk
      exact anyA_first hom h0 hq hK l.length listed σ him hh hdc (fun j oj hj hne hun => by
        rcases hpair j oj hj hne hun with ((h | h) | h | h | h) | h
        · exact .inl h
        · exact .inr ⟨.inl h.2.1, h.2.2⟩
        · exact .inr ⟨.inr (.inl ⟨h.1, h.2.1⟩), h.2.2⟩
        · exact .inr ⟨.inr (.inr (.inl h.1)), h.2⟩
        · exact .inr ⟨.inr (.inr (.inr h.1)), h.2⟩
        · exfalso; have := store_loud h.1; rw [hq] at this; cases this) hready hy this
    · refine anyA_delay h0 hK l.length listed σ hh hdc (fun j oj hj hne hun => ?_) hready ?_
      · rcases hpair j oj hj hne hun with ((h | h) | h | h | h) | h
        · exact .inl h
        · exact absurd h.1 hq
        · exact absurd (pure_quiet h.1) hq
        · exact absurd (sep_quiet h.1.1) hq
        · exact absurd (calm_quiet h.1.2.1) hq
        · exact .inr h
      · have h2 := Iv.next hom h0 hh him (eff_hint hh h)
        refine nextVd_eqv ⟨⟨rfl, rfl, rfl⟩, rfl, fun _ => rfl, rfl, rfl, rfl, hh, hh⟩ (fun s s' hs hk => ?_) h2
        refine anyA_eqv hK _ _ _ _ hs ?_
        exact anyA_lex hom hK l (k + 1) (listed.setIfInBounds k true) s hl' hB' hsz' hlen' hlist' (hdc.set hready) hk.2.1 hk.1 hk.2.2

end

theorem R.eqv {cx : Cx} {σ σ' : AS} {a : Act} {w : World} (h : R cx σ a w) (e : Eqv σ σ') : R cx σ' a w := by
  obtain ⟨gh, r⟩ := h
  refine ⟨gh, r.weak ⟨e.n, fun t x hx => ?_, fun k c hk => by rw [← e.bx]; exact hk, fun q hq => ?_, fun b c hb => by rw [← e.sh]; exact hb, e.ex.1, e.ex.2.1, e.ex.2.2⟩⟩
  · rw [e.tm t] at hx
    refine ⟨hx, fun k o hx' => ?_⟩
    rw [e.bx]
    exact (r.tmps t x hx).2 k o hx'
  · rw [e.tb] at hq
    refine ⟨hq, ?_⟩
    rw [e.bx]
    exact (r.tbs q.1 q.2.1 q.2.2.1 q.2.2.2 hq).1

theorem R.setHint {cx : Cx} {σ : AS} {a : Act} {w : World} (h : R cx σ a w) (hint : List (Nat × Nat)) : R cx { σ with hint := hint } a w := by
  obtain ⟨gh, r⟩ := h
  exact ⟨gh, ⟨r.frm, r.base, r.limB, r.size, r.ex.sub (fun _ _ h => h) rfl rfl, r.gl, r.tmps, r.boxes, r.inj, r.shs, r.apart, r.tbs, r.own, r.alone⟩⟩

theorem R.drew {cx : Cx} {σ : AS} {a : Act} {w : World} (h : R cx σ a w) (n : Nat) : R cx σ a { w with drawn := n } := by
  obtain ⟨gh, r⟩ := h
  exact ⟨_, r.drew n⟩

theorem anyA_sound {cx : Cx} {ro : Option Nat} {n : Nat} {ops : Array Oper} {Q : Exit → Act → World → Prop} {K : AS → Prop} (hQ : ∀ σ a w, K σ → R cx σ a w → Q .normal a w) :
    ∀ (fuel : Nat) (listed : Array Bool) (σ : AS) (a : Act) (w : World), R cx σ a w → anyA cx.P cx.gl ops K fuel listed σ → wpAnyIn (Fw ro) n cx.P .any ops Q fuel listed a w
  | 0, listed, σ, a, w, r, h => ⟨h.1, hQ σ a w h.2 r⟩
  | fuel + 1, listed, σ, a, w, r, h => ⟨fun h0 => hQ σ a w (h.1 h0) r, fun i hi => by
      obtain ⟨o, ho, hn⟩ := h.2 i hi
      refine wpOpIn_mono (fun a' w' hh => ?_) (opIn_sound (ro := ro) (n := n) (Q := Q) ho r (nextV_of hn))
      obtain ⟨σ', hk, r'⟩ := hh
      exact anyA_sound hQ fuel _ σ' a' w' r' hk⟩

theorem region_draw_sound {cx : Cx} {ro : Option Nat} {n : Nat} {id : Nat} {ops : Array Oper} {Q : Exit → Act → World → Prop} {K : AS → Prop} {σ : AS} {a : Act} {w : World} (b : Bool) (m : List (Nat × Nat)) (hm : cx.P.follows .mixedOrders = true) (hok : lexOkM b m ops = true) (him : Iv b m σ)
    (hQ : ∀ s a w, K s → R cx s a w → Q .normal a w) (r : R cx σ a w) (h : RVd cx.P cx.gl ops ops.toList { σ with hint := [] } fun s => K { s with hint := σ.hint }) : (Code.region id ops true).wpIn (Fw ro) n cx.P Q a w := by
  refine wpIn_region_any hm ?_
  let K' : AS → Prop := fun s => ∃ s0, Eqv s0 s ∧ K { s0 with hint := σ.hint }
  have hK' : ∀ s s', Eqv s s' → K' s → K' s' := fun s s' e ⟨s0, e0, hk⟩ =>
    ⟨s0, ⟨⟨e.ex.1.trans e0.ex.1, e.ex.2.1.trans e0.ex.2.1, e.ex.2.2.trans e0.ex.2.2⟩, e.n.trans e0.n, fun t => (e.tm t).trans (e0.tm t), e.bx.trans e0.bx, e.tb.trans e0.tb, e.sh.trans e0.sh, e0.hint.1, e.hint.2⟩, hk⟩
  have hmono : ∀ (l : List Oper) (s : AS), s.hint = [] → RVd cx.P cx.gl ops l s (fun s => K { s with hint := σ.hint }) → RVd cx.P cx.gl ops l s K' := by
    intro l
    induction l with
    | nil => intro s hs h; exact ⟨s, ⟨⟨rfl, rfl, rfl⟩, rfl, fun _ => rfl, rfl, rfl, rfl, hs, hs⟩, h⟩
    | cons o l ih =>
      intro s hs h
      have h2 := eff_hint hs h
      exact nextVd_eqv ⟨⟨rfl, rfl, rfl⟩, rfl, fun _ => rfl, rfl, rfl, rfl, hs, hs⟩ (fun s1 s2 e hk => by
        have h3 := ih s1 hk.1 hk.2
        exact RVd_eqv hK' l s1 s2 e h3) h2
  have h' := hmono ops.toList _ rfl h
  have hok2 := hok
  simp only [lexOkM, Bool.and_eq_true, Bool.or_eq_true, Bool.not_eq_true'] at hok2
  have hom : OkM b m ops := ⟨hok2.1.1.elim (fun h => .inl (List.isEmpty_iff.1 h)) fun h => .inr fun j o ho => List.all_eq_true.1 h o (List.mem_of_getElem? (by simpa using ho)), hok2.1.2.elim .inl fun h => .inr fun j o ho => List.all_eq_true.1 h o (List.mem_of_getElem? (by simpa using ho))⟩
  have ha := anyA_lex hom hK' ops.toList 0 (Array.replicate ops.size false) { σ with hint := [] } (by simp) hok2.2 (by simp) (by simp) (fun j hj => by simp [hj]) (fun j o _ hj => by rw [Array.getD_eq_getD_getElem?, Array.getElem?_replicate] at hj; split at hj <;> simp at hj) rfl him h'
  have hs := anyA_sound (ro := ro) (n := n) (Q := Q) (fun s a w ⟨s0, e0, hk⟩ r => hQ _ a w hk ((r.eqv e0.symm).setHint σ.hint)) _ _ _ a _ ((r.setHint []).drew (w.drawn + 1)) ha
  simpa using hs
where
  RVd_eqv {cx : Cx} {ops : Array Oper} {K : AS → Prop} (hK : ∀ s s', Eqv s s' → K s → K s') : ∀ (l : List Oper) (s s' : AS), Eqv s s' → RVd cx.P cx.gl ops l s K → RVd cx.P cx.gl ops l s' K
    | [], s, s', e, h => hK s s' e h
    | o :: l, s, s', e, h => nextVd_eqv e (fun s1 s2 e1 hk => RVd_eqv hK l s1 s2 e1 hk) h

end Go.Pv
end

/- Regions: in the order of the text, and in any order. -/
import Derived.Test.YtoehgdamenpclaaDoorPvK
namespace Go.Pv
open Go

theorem R.mono_op {cx : Cx} {σ : AS} {a : Act} {w : World} (h : R cx σ a w) : ∃ gh, RR cx gh σ a w := h

/-- Which operations call. -/
theorem opR_call {P : Program} {gl : Gl} {σ : AS} {o : Oper} :
    (∀ f args, opR P gl σ o = .call f args → ∃ c fo caps l g, o.op = .call c ∧ c.callee = .value fo ∧ ev gl σ fo = .v (.func f caps) g ∧ avs (ev gl σ) c.args.toList = some l ∧ args = l ++ caps) ∧
    (∀ f x, opR P gl σ o = .yld f x → ∃ c fo g, o.op = .call c ∧ c.callee = .value fo ∧ ev gl σ fo = .v (.yld f) g ∧ avs (ev gl σ) c.args.toList = some [x]) := by
  have noc : ∀ {r : OR}, (∀ f l, r ≠ .call f l) → (∀ f x, r ≠ .yld f x) → (∀ f args, r = .call f args → ∃ c fo caps l g, o.op = .call c ∧ c.callee = .value fo ∧ ev gl σ fo = .v (.func f caps) g ∧ avs (ev gl σ) c.args.toList = some l ∧ args = l ++ caps) ∧
    (∀ f x, r = .yld f x → ∃ c fo g, o.op = .call c ∧ c.callee = .value fo ∧ ev gl σ fo = .v (.yld f) g ∧ avs (ev gl σ) c.args.toList = some [x]) := fun h1 h2 => ⟨fun f a h => absurd h (h1 f a), fun f x h => absurd h (h2 f x)⟩
  have hl : ∀ {t l}, (∀ f m, loadR P t l ≠ .call f m) ∧ ∀ f x, loadR P t l ≠ .yld f x := by
    intro t l
    constructor <;> intro f m h <;> unfold loadR at h <;> split at h <;> first | cases h | (split at h <;> cases h)
  have hb : ∀ {op x y}, (∀ f m, binR op x y ≠ .call f m) ∧ ∀ f m, binR op x y ≠ .yld f m := by
    intro op x y
    constructor <;> intro f l h <;> unfold binR at h <;> split at h <;> first | cases h | (split at h <;> first | cases h | (unfold intOp at h; split at h <;> cases h)) | (unfold strOp at h; split at h <;> cases h)
  have hlen : ∀ {t x}, (∀ f m, lenR P t x ≠ .call f m) ∧ ∀ f m, lenR P t x ≠ .yld f m := by
    intro t x
    constructor <;> intro f l h <;> unfold lenR at h <;> split at h <;> first | cases h | (split at h <;> first | cases h | (simp only [if_true] at h; cases h) | (simp at h; done))
  unfold opR
  split
  case h_21 c hc =>
    unfold callR
    split
    · rename_i fo hfo
      split
      · rename_i g caps g' l hg1 hl
        refine ⟨fun f args h => ?_, fun f x h => (by cases h)⟩
        simp only [OR.call.injEq] at h
        obtain ⟨rfl, rfl⟩ := h
        exact ⟨c, fo, caps, l, g', hc, hfo, hg1, hl, rfl⟩
      · rename_i l g x hg1 hl
        refine ⟨fun f args h => (by cases h), fun f y h => ?_⟩
        simp only [OR.yld.injEq] at h
        obtain ⟨rfl, rfl⟩ := h
        exact ⟨c, fo, g, hc, hfo, hg1, hl⟩
      · exact noc (by simp) (by simp)
      · exact noc (by simp) (by simp)
    · split
      · exact noc hlen.1 hlen.2
      · exact noc (fun f l h => by unfold mxR at h; split at h <;> cases h) (fun f l h => by unfold mxR at h; split at h <;> cases h)
      · exact noc (fun f l h => by unfold mxR at h; split at h <;> cases h) (fun f l h => by unfold mxR at h; split at h <;> cases h)
      · split
        · exact noc (fun f l h => by unfold appendR at h; split at h <;> first | (split at h <;> cases h) | cases h) (fun f l h => by unfold appendR at h; split at h <;> first | (split at h <;> cases h) | cases h)
        · exact noc (by simp) (by simp)
      · exact noc (by simp) (by simp)
    · exact noc (by simp) (by simp)
  case h_1 => exact noc (by simp) (by simp)
  case h_2 => 
    constructor <;> intro f l h <;> unfold assignR at h <;> split at h <;> first | cases h | (split at h <;> first | cases h | (split at h <;> first | cases h | (split at h <;> first | cases h | (split at h <;> cases h))))
  case h_3 => exact noc (fun f l h => by unfold pickR at h; split at h <;> cases h) (fun f l h => by unfold pickR at h; split at h <;> cases h)
  case h_4 =>
    unfold orR
    split
    · exact noc (fun f l h => by unfold eqR at h; split at h <;> first | (split at h <;> cases h) | cases h) (fun f l h => by unfold eqR at h; split at h <;> first | (split at h <;> cases h) | cases h)
    · exact noc hb.1 hb.2
  case h_5 => constructor <;> intro f l h <;> unfold unR at h <;> split at h <;> first | (split at h <;> cases h) | cases h
  case h_6 => constructor <;> intro f l h <;> unfold fieldAddrR at h <;> split at h <;> first | (split at h <;> cases h) | cases h
  case h_7 => constructor <;> intro f l h <;> unfold indexAddrR at h <;> split at h <;> first | (split at h <;> cases h) | cases h
  case h_8 =>
    have hr : ∀ {g t l}, (∀ f m, retag g (loadR P t l) ≠ .call f m) ∧ ∀ f m, retag g (loadR P t l) ≠ .yld f m := by
      intro g t l
      constructor <;> intro f m h <;> unfold retag at h <;> split at h <;> first | cases h | exact absurd h (hl.1 f m) | exact absurd h (hl.2 f m)
    unfold loadOpR
    split
    · exact noc hl.1 hl.2
    · split
      · split
        · exact noc hl.1 hl.2
        · exact noc hr.1 hr.2
        · exact noc (by simp) (by simp)
      · exact noc (by simp) (by simp)
    · split
      · exact noc hl.1 hl.2
      · exact noc (by simp) (by simp)
    · exact noc (by simp) (by simp)
  case h_9 => constructor <;> intro f l h <;> unfold indexR at h <;> split at h <;> first | cases h | (split at h <;> first | cases h | (simp only [if_true] at h; cases h) | (simp at h; done))
  case h_10 =>
    constructor <;> intro f l h <;> unfold sliceR at h <;> split at h <;> first | cases h | (split at h <;> first | cases h | (simp only [if_true] at h; split at h <;> cases h) | (split at h <;> cases h) | (simp at h; done))
  case h_11 => constructor <;> intro f l h <;> unfold nilCheckR at h <;> split at h <;> cases h
  case h_12 => constructor <;> intro f l h <;> unfold convertR at h <;> split at h <;> first | (split at h <;> first | cases h | (split at h <;> cases h)) | cases h
  case h_13 => constructor <;> intro f l h <;> unfold buildR at h <;> split at h <;> first | (split at h <;> first | (split at h <;> cases h) | cases h) | cases h
  case h_14 =>
    unfold orR
    split
    · constructor <;> intro f l h <;> unfold makeClR at h <;> split at h <;> first | (split at h <;> cases h) | cases h
    · constructor <;> intro f l h <;> unfold makeFuncR at h <;> split at h <;> first | (split at h <;> cases h) | cases h
  case h_15 => constructor <;> intro f l h <;> unfold makeIfaceR at h <;> split at h <;> first | (split at h <;> cases h) | cases h
  case h_16 => constructor <;> intro f l h <;> unfold extractR at h <;> split at h <;> first | (split at h <;> cases h) | cases h
  case h_17 =>
    split
    · exact noc (fun f l h => by unfold frozR at h; split at h <;> cases h) (fun f l h => by unfold frozR at h; split at h <;> cases h)
    · constructor <;> intro f l h <;> unfold boxR at h <;> split at h <;> first | (split at h <;> first | (split at h <;> cases h) | cases h) | cases h
  case h_18 => constructor <;> intro f l h <;> unfold allocR at h <;> split at h <;> first | (split at h <;> cases h) | cases h
  case h_19 => constructor <;> intro f l h <;> unfold storeR at h <;> split at h <;> first | cases h | (split at h <;> first | (split at h <;> cases h) | cases h)
  case h_20 => constructor <;> intro f l h <;> unfold buildSliceR at h <;> split at h <;> first | cases h | (split at h <;> first | cases h | (split at h <;> first | cases h | (split at h <;> first | cases h | (split at h <;> cases h))))
  case h_22 => constructor <;> intro f l h <;> unfold rangeR at h <;> split at h <;> cases h
  case h_23 => constructor <;> intro f l h <;> unfold nextR at h <;> split at h <;> first | cases h | (split at h <;> first | cases h | (split at h <;> cases h))
  case h_24 =>
    constructor <;> intro f l h <;> unfold fieldR loadR at h <;> split at h <;> first | cases h | (split at h <;> first | cases h | (split at h <;> first | cases h | (split at h <;> cases h)))
  · exact noc (by simp) (by simp)

def OR.noB : OR → Prop
  | .callB _ _ _ => False
  | _ => True

/-- Which operations call a function with boxes. -/
theorem opR_callB {P : Program} {gl : Gl} {σ : AS} {o : Oper} {f : FuncId} {args : List AV} {ks : List Nat} (h : opR P gl σ o = .callB f args ks) :
    ∃ c fo, o.op = .call c ∧ c.callee = .value fo ∧ ev gl σ fo = .cl f ks ∧ avs (ev gl σ) c.args.toList = some args := by
  have hl : ∀ {t l}, (loadR P t l).noB := by
    intro t l
    unfold loadR
    repeat' (first | exact trivial | split)
  have hh : (opR P gl σ o).noB ∨ ∃ c fo f args ks, opR P gl σ o = .callB f args ks ∧ o.op = .call c ∧ c.callee = .value fo ∧ ev gl σ fo = .cl f ks ∧ avs (ev gl σ) c.args.toList = some args := by
    unfold opR
    split
    case h_21 c hc =>
      unfold callR
      split
      · rename_i fo hfo
        split
        · exact .inl trivial
        · exact .inl trivial
        · rename_i g ks l hg hl
          exact .inr ⟨c, fo, g, l, ks, rfl, hc, hfo, hg, hl⟩
        · exact .inl trivial
      · left
        unfold lenR mxR appendR
        repeat' (first | exact trivial | split)
      · exact .inl trivial
    case h_4 =>
      left
      unfold orR
      split
      · unfold eqR; repeat' (first | exact trivial | split)
      · unfold binR; repeat' (first | exact trivial | split | unfold intOp | unfold strOp)
    case h_14 =>
      left
      unfold orR
      split
      · unfold makeClR; repeat' (first | exact trivial | split)
      · unfold makeFuncR; repeat' (first | exact trivial | split)
    case h_8 =>
      left
      unfold loadOpR
      repeat' (first | exact trivial | exact hl | split | unfold retag)
    case h_24 =>
      left
      unfold fieldR
      repeat' (first | exact trivial | exact hl | split)
    all_goals
      left
      repeat' (first | exact trivial | split | unfold assignR | unfold pickR | unfold unR | unfold fieldAddrR | unfold indexAddrR | unfold indexR | unfold sliceR | unfold nilCheckR | unfold convertR | unfold buildR | unfold makeIfaceR | unfold extractR | unfold frozR | unfold boxR | unfold allocR | unfold storeR | unfold buildSliceR | unfold rangeR | unfold nextR)
  rcases hh with hh | ⟨c, fo, f', args', ks', h1, h2⟩
  · rw [h] at hh; exact hh.elim
  · rw [h] at h1
    injection h1 with e1 e2 e3
    subst e1; subst e2; subst e3
    exact ⟨c, fo, h2⟩

/-- One operation, as the model carries it out. -/
theorem opIn_sound {cx : Cx} {ro : Option Nat} {n : Nat} {ops : Array Oper} {Q : Exit → Act → World → Prop} {K : AS → Prop} {i : Nat} {o : Oper} {σ : AS} {a : Act} {w : World} (hi : ops[i]? = some o) (r : R cx σ a w)
    (h : nextV cx.P cx.gl ops o σ K) : wpOpIn (Fw ro) n cx.P ops Q i (fun a' w' => ∃ σ', K σ' ∧ R cx σ' a' w') a w := by
  obtain ⟨gh, r⟩ := r
  obtain ⟨hd, h⟩ := h
  have hd' := dst_of hd
  have hdefer : ∀ c, o.op ≠ .defer c := fun c hc => by simp [dstOk, hc] at hd
  have hab : ∀ f, o.about cx.P w a.eval = some f → (Fw ro).fn f := fun _ _ => trivial
  unfold wpOpIn
  simp only [hi]
  cases hg : guardB ops o σ with
  | none => rw [hg] at h; exact h.elim
  | some g =>
    rw [hg] at h
    have hw := wanted_of r hg
    cases g with
    | false =>
      rw [hw]
      simp only [Bool.false_eq_true, if_false]
      exact ⟨hab, _, h, gh, r.put_v o.dst hd' (Rep.tup_iff.2 ⟨#[], rfl, RepL.nil _ _⟩)⟩
    | true =>
      rw [hw]
      simp only [if_true]
      simp only [] at h
      refine ⟨hab, ?_⟩
      rw [Oper.semAt_eq _ _ _ hdefer]
      obtain ⟨hv, he⟩ := opR_val_eff r hd
      cases ho : opR cx.P cx.gl σ o with
      | stuck => rw [ho] at h; exact h.elim
      | val c x =>
        rw [ho] at h
        obtain ⟨hc, hk⟩ := h
        obtain ⟨v, w', gh', hrun, r', hx, hlp, hu⟩ := hv c x ho hc
        rw [hrun]
        exact ⟨_, hk, gh', r'.put o.dst hd' (opR_nit ho) hx hlp hu⟩
      | eff c σ' =>
        rw [ho] at h
        obtain ⟨hc, hgy, hk⟩ := h
        rcases he c σ' ho hc hgy with ⟨v, w', hrun, hr⟩ | ⟨w', hrun, hr⟩
        · rw [hrun]; exact ⟨σ', hk, hr⟩
        · rw [hrun]; exact ⟨σ', hk, hr⟩
      | call f args =>
        rw [ho] at h
        obtain ⟨c, fo, caps, l, g', hc, hfo, hfv, hl, rfl⟩ := opR_call.1 f args ho
        have hfr := r.ev fo
        rw [hfv] at hfr
        obtain ⟨cs, hfo', hcaps⟩ := Rep.func_iff.1 hfr.1
        have hargs := avs_rep r c.args.toList l hl
        have hrep : RepL gh.lim w.heap (c.args.toList.map a.eval ++ cs.toList) (l ++ caps) := hargs.append hcaps
        have hsame : (c.args.toList.map a.eval ++ cs.toList).toArray = c.args.map a.eval ++ cs := by
          apply Array.ext'; simp
        have hrun : fnOk cx.P f = true → (execOp a.eval o).run cx.P w = .ok (.enter f (c.args.map a.eval ++ cs)) w := by
          intro hfn
          have hfn' : ∃ fn, cx.P.funcs[f]? = some fn ∧ fn.body.isSome = true ∧ (fn.name == "runtime.NumGoroutine") = false := by
            unfold fnOk at hfn
            split at hfn
            · rename_i fn hq
              simp only [Bool.and_eq_true, Bool.not_eq_true'] at hfn
              exact ⟨fn, hq, hfn.1, hfn.2⟩
            · cases hfn
          obtain ⟨fn, hq, hb, hnm⟩ := hfn'
          have hb' : fn.body.isNone = false := by simpa using hb
          have hnm' : ¬ fn.name = "runtime.NumGoroutine" := by simpa using hnm
          simp only [execOp, hc, resolve, hfo, hfo', Deferred.ofValue, invoke, callFunc, Sem.run_bind, Sem.run_pure, Result.andThen_ok, run_program, Array.empty_append, hq, hnm', hb', Bool.false_eq_true, if_false, beq_iff_eq]
        rcases h with ⟨hgy, sh, post, hin, ⟨hfn, hval⟩, hk⟩ | ⟨Y, res, ys', hY, hbare, ⟨hfn, hval⟩, hk⟩
        · rw [hrun hfn]
          refine ⟨fun h => (by cases h), callsIn_fw ?_⟩
          have hcalls := hval gh.lim w _ (fun g c hg => r.gl g c hg) hrep (fun b cells hb => (r.shs b cells (hin b cells hb)).2)
          rw [hsame] at hcalls
          refine hcalls.mono fun e w' => ?_
          rintro ⟨v, res, sh', lim', rfl, hf, hlim, hres, hshs, hpost, hcov, hnew⟩
          refine ⟨_, hk res sh' hpost, _, (r.called hgy sh sh' hin lim' hf hlim hshs hcov hnew).put_v o.dst hd' hres⟩
        · rw [hrun hfn]
          refine ⟨fun h => (by cases h), callsIn_fw ?_⟩
          have hcalls := hval gh.lim w _ (fun g c hg => r.gl g c hg) hrep (r.ex.yj Y hY).2
          rw [hsame] at hcalls
          refine hcalls.mono fun e w' => ?_
          rintro ⟨v, lim', rfl, hf, hkeep, hres, hj⟩
          refine ⟨_, hk, _, (r.calledY hbare hY lim' ys' hkeep hf hj).put_v o.dst hd' hres⟩
      | callB f args ks =>
        rw [ho] at h
        obtain ⟨c, fo, hc, hfo, hfv, hl⟩ := opR_callB ho
        obtain ⟨x, bx', tb', hgy, hst, ⟨hfn, hval⟩, hk⟩ := h
        have hfr := r.ev fo
        rw [hfv] at hfr
        have hfo' : a.eval fo = .func (.func f) #[] (ks.map fun k => Value.pointer (some ⟨gh.bl k, 0, none⟩)).toArray := hfr
        have hargs := avs_rep r c.args.toList args hl
        have hsame : (c.args.toList.map a.eval ++ ks.map fun k => Value.pointer (some ⟨gh.bl k, 0, none⟩)).toArray = c.args.map a.eval ++ (ks.map fun k => Value.pointer (some ⟨gh.bl k, 0, none⟩)).toArray := by
          apply Array.ext'; simp
        have hrun : (execOp a.eval o).run cx.P w = .ok (.enter f (c.args.map a.eval ++ (ks.map fun k => Value.pointer (some ⟨gh.bl k, 0, none⟩)).toArray)) w := by
          have hfn' : ∃ fn, cx.P.funcs[f]? = some fn ∧ fn.body.isSome = true ∧ (fn.name == "runtime.NumGoroutine") = false := by
            unfold fnOk at hfn
            split at hfn
            · rename_i fn hq
              simp only [Bool.and_eq_true, Bool.not_eq_true'] at hfn
              exact ⟨fn, hq, hfn.1, hfn.2⟩
            · cases hfn
          obtain ⟨fn, hq, hb, hnm⟩ := hfn'
          have hb' : fn.body.isNone = false := by simpa using hb
          have hnm' : ¬ fn.name = "runtime.NumGoroutine" := by simpa using hnm
          simp only [execOp, hc, resolve, hfo, hfo', Deferred.ofValue, invoke, callFunc, Sem.run_bind, Sem.run_pure, Result.andThen_ok, run_program, Array.empty_append, hq, hnm', hb', Bool.false_eq_true, if_false, beq_iff_eq]
        rw [hrun]
        refine ⟨fun h => (by cases h), callsIn_fw ?_⟩
        have hcalls := hval { cx with df := [], fx := fun _ => none, lim := gh.lim, w0 := w } gh w _ rfl rfl rfl (fun _ => rfl) rfl rfl ((r.drop hgy).rebase) hargs
        rw [hsame] at hcalls
        refine hcalls.mono fun e w' => ?_
        rintro ⟨v, gh', rfl, r', hbl, hres⟩
        exact ⟨_, hk, _, (r.calledB hgy hst r' hbl).put_v o.dst hd' hres⟩
      | yld l x =>
        rw [ho] at h
        obtain ⟨c, fo, g', hc, hfo, hfv, hl⟩ := opR_call.2 l x ho
        obtain ⟨Y, hY, rfl, hbare, ⟨hon, hel⟩, hk⟩ := h
        have hfr := r.ev fo
        rw [hfv] at hfr
        have hfo' : a.eval fo = .func (.yield Y.l) #[] #[] := rep_yld hfr.1
        have hargs := avs_rep r c.args.toList [x] hl
        obtain ⟨v, hv⟩ : ∃ v, c.args.toList.map a.eval = [v] := List.length_eq_one_iff.1 hargs.1
        have hx : Rep gh.lim w.heap v x := by rw [hv] at hargs; exact hargs.head
        have hv' : c.args.map a.eval = #[v] := by apply Array.ext'; simpa using hv
        obtain ⟨⟨-, hP⟩, hj⟩ := r.ex.yj Y hY
        rw [hon] at hj
        obtain ⟨fn, tmps, assign, body, hy, hR⟩ := Y.rd (n - 1) σ.ys.1 gh.lim w v x hj hx hel
        rw [hP] at hy hR
        have hrun : (execOp a.eval o).run cx.P w = .ok (.round Y.l fn tmps assign body) w := by
          simp only [execOp, hc, resolve, hfo, hfo', Deferred.ofValue, invoke, Sem.run_bind, Sem.run_pure, Result.andThen_ok, Array.empty_append, hv', hy]
        rw [hrun]
        refine ⟨fun h => (by cases h), ?_⟩
        have hR' : RoundIn (Fw ro) (n - 1) cx.P Y.l fn tmps assign body w _ := hR
        refine hR'.mono fun e w' => ?_
        rintro ⟨lim', rfl, hj', hkeep, hf⟩
        exact ⟨_, hk, _, (r.calledY hbare hY lim' (σ.ys.1 ++ [x], Y.go σ.ys.1 x) hkeep hf hj').put_v o.dst hd' (.bool _)⟩

/-! ### A region in the order of its text -/
def RV (P : Program) (gl : Gl) (ops : Array Oper) : List Oper → AS → (AS → Prop) → Prop
  | [], σ, K => K σ
  | o :: rest, σ, K => nextV P gl ops o σ fun σ' => RV P gl ops rest σ' K

theorem RV_sound {cx : Cx} {ro : Option Nat} {n : Nat} {ops : Array Oper} {Q : Exit → Act → World → Prop} {K : AS → Prop} (hQ : ∀ σ a w, K σ → R cx σ a w → Q .normal a w) :
    ∀ (l : List Oper) (k : Nat) (σ : AS) (a : Act) (w : World), (∀ j, l[j]? = ops[k + j]?) → R cx σ a w → RV cx.P cx.gl ops l σ K → wpOpsIn (Fw ro) n cx.P ops Q (List.range' k l.length) a w
  | [], k, σ, a, w, _, r, h => hQ σ a w h r
  | o :: l, k, σ, a, w, hl, r, h => by
    have h0 : ops[k]? = some o := by simpa using (hl 0).symm
    rw [List.length_cons, List.range'_succ, wpOpsIn_cons]
    refine wpOpIn_mono (fun a' w' hh => ?_) (opIn_sound (ro := ro) (n := n) (Q := Q) h0 r h)
    obtain ⟨σ', hk, r'⟩ := hh
    exact RV_sound hQ l (k + 1) σ' a' w' (fun j => by have := hl (j + 1); simpa [Nat.add_assoc, Nat.add_comm 1 j] using this) r' hk

theorem region_sound {cx : Cx} {ro : Option Nat} {n : Nat} {id : Nat} {ops : Array Oper} {Q : Exit → Act → World → Prop} {K : AS → Prop} {σ : AS} {a : Act} {w : World} (hQ : ∀ σ a w, K σ → R cx σ a w → Q .normal a w)
    (r : R cx σ a w) (h : RV cx.P cx.gl ops ops.toList σ K) : (Code.region id ops false).wpIn (Fw ro) n cx.P Q a w := by
  refine wpIn_region ?_
  have := RV_sound (ro := ro) (n := n) hQ ops.toList 0 σ a w (by simp) r h
  rw [List.range_eq_range']
  simpa using this

end Go.Pv

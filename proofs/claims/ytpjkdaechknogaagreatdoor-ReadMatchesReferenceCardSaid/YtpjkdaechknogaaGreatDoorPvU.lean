import Derived.Test.YtpjkdaechknogaaGreatDoorPvR
import Derived.Lib.Join
import Derived.Below
set_option linter.all false
section
/- A range over a function, the elements handed out to a body that is walked once. -/
namespace Go.Pv
open Go

theorem RR.step0 {cx : Cx} {gh : Gh} {τ : AS} {a : Act} {w w' : World} (r : RR cx gh τ a w) (hy : cx.gl.y = none) (hf : Frm cx.B cx.S w w')
    (hc : ∀ (k : Nat) (cs : Array Value) (e : TypeId) (g : Nat × Nat), w.heap[k]? = some (.cells cs e g) → w'.heap[k]? = w.heap[k]?) (hi : ∀ (k : Nat) (s : ByteArray) (p : Nat), w.heap[k]? = some (.stringIter s p) → w'.heap[k]? = w.heap[k]?)
    (ho : ∀ (k : Nat) (o : Obj), cx.w0.heap[k]? = some o → o.isCells = false → o.isWalk = false → w'.heap[k]? = some o) (m : Nat) (ds : List Deferred) (hd : DefOk cx.B cx.df m ds w') : RR cx gh { τ with mks := m } { a with defers := ds } w' := by
  let cxB : Cx := { cx with lim := gh.lim, w0 := w', df := ds, fx := cx.fx }
  have r1 := r.recx (cxB := cxB) rfl rfl rfl rfl hy rfl rfl hc hi hf.size 0 τ.fx ds r.ex.fx ⟨[], rfl, ⟨rfl, List.nodup_nil⟩, fun D hD => (by cases hD)⟩
  have hkeep : Keep gh.lim w.heap gh.lim w'.heap := Keep.of_cells hc _
  exact { frm := r.frm.trans hf, base := r1.base, limB := r.limB, size := r1.size, ex := ⟨r.ex.keep.trans hkeep, hd, fun Y hY => (by rw [hy] at hY; cases hY), r1.ex.its.sub (fun _ _ _ h => h), r.ex.fx, fun _ => ho⟩, gl := r1.gl, tmps := r1.tmps, boxes := r1.boxes, inj := r1.inj, shs := r1.shs, apart := r1.apart, tbs := r1.tbs, own := r1.own, alone := r1.alone }

def roundQ (P : Program) (gl : Gl) (σ : AS) (T : List Nat) (I : List AV → AS) (go : List AV → AV → Bool) (s : List AV) (x : AV) (Q : Exit → AS → Prop) : Exit → AS → Prop
  | .normal, τ => go s x = true ∧ tmOk T σ.tm τ.tm = true ∧ ∃ bs, lpOk (pick bs τ.bx) σ.tm = true ∧ σ.out bs τ σ.mks = I (s ++ [x])
  | .ret, τ => go s x = false ∧ tmOk T σ.tm τ.tm = true ∧ ∃ bs, lpOk (pick bs τ.bx) σ.tm = true ∧ AT P gl .ret (σ.out bs τ (σ.mks + 1)) Q
  | .exit id, τ => go s x = false ∧ tmOk T σ.tm τ.tm = true ∧ ∃ bs, lpOk (pick bs τ.bx) σ.tm = true ∧ AT P gl (.exit id) (σ.out bs τ (σ.mks + 1)) Q
  | _, _ => False

theorem putObj_frm {B : Nat} {S : Nat → Prop} (w : World) (l : Nat) (o : Obj) (h : B ≤ l) : Frm B S w (w.putObj l o) := ⟨rfl, rfl, rfl, by simp, fun k hk _ => World.putObj_heap_other (by omega)⟩

section
variable {w : World} {l : Nat} {rc : Loop} (h : w.heap[l]? = some (.loop rc)) (o : Obj)
include h
theorem loop_cells (k : Nat) (cs : Array Value) (e : TypeId) (g : Nat × Nat) (hk : w.heap[k]? = some (.cells cs e g)) : (w.putObj l o).heap[k]? = w.heap[k]? := World.putObj_heap_other (fun he => by rw [he, h] at hk; cases hk)
theorem loop_iter (k : Nat) (s : ByteArray) (p : Nat) (hk : w.heap[k]? = some (.stringIter s p)) : (w.putObj l o).heap[k]? = w.heap[k]? := World.putObj_heap_other (fun he => by rw [he, h] at hk; cases hk)
theorem loop_def (k : Nat) (d : Option (List Deferred)) (hk : w.heap[k]? = some (.deferred d)) : (w.putObj l o).heap[k]? = some (.deferred d) := (World.putObj_heap_other (fun he => by rw [he, h] at hk; cases hk)).trans hk
theorem loop_keep (lim : Lim) : Keep lim w.heap lim (w.putObj l o).heap := Keep.of_cells (loop_cells h o) _
end

theorem AT_rangeFunc {P : Program} {gl : Gl} {σ : AS} {Q : Exit → AS → Prop} {g : Operand} {p : Tmp} {assign body : Code} {gf : FuncId} {caps : List AV} {tag : Option (Nat × Nat)} (hy : gl.y = none) (hrnd : gl.rnd = false) (hg : ev gl σ g = .v (.func gf caps) tag)
    (hp : p < σ.n ∧ p ∉ σ.fx) (T : List Nat) (hpT : p ∉ T) (el : List AV → AV → Prop) (go : List AV → AV → Bool) (fin : List AV × Bool)
    (hit : ∀ Y : Ys, Y.P = P → Y.go = go → Y.el = el → ∃ r, ValidY P (G1 gl.g Y) Y gf (.yld Y.l :: caps) ([], true) r fin) (I : List AV → AS) (hI0 : I [] = σ)
    (hround : ∀ s x, el s x → AT P { gl with rnd := true } assign { (I s).put (some p) (.v x none) with mks := 0, fx := T } (thenA (fun τ => AT P { gl with rnd := true } body τ (roundQ P gl σ T I go s x Q)) (fun _ _ => False)))
    (hdone : fin.2 = true → Q .normal { I fin.1 with mks := σ.mks + 1 }) : AT P gl (.rangeFunc g #[p] assign body) σ Q := by
  intro cx ro n a w hP hg' hro r
  obtain rfl := hro hrnd
  subst hP; subst hg'
  obtain ⟨gh, r⟩ := r
  have hev := r.ev g
  rw [hg] at hev
  obtain ⟨cs, hcs, hcaps⟩ := Rep.func_iff.1 hev.1
  refine wpIn_rangeFunc ?_
  intro fn _
  obtain ⟨rec, hrec⟩ : ∃ rec : LoopState → Option Code → Loop, rec = fun st pe => { state := st, pending := pe, fn, tmps := a.tmps, params := #[p], assign, body, defers := w.heap.size } := ⟨_, rfl⟩
  obtain ⟨W1, hW1⟩ : ∃ W1, (w.alloc (.deferred (some []))).alloc (.loop (rec .ready none)) = W1 := ⟨_, rfl⟩
  generalize hD : w.heap.size = D at *
  have hlB : cx.B ≤ D + 1 := by have := r.base; omega
  have hL1 : W1.heap[D + 1]? = some (.loop (rec .ready none)) := by
    rw [← hW1, ← hD]; have := World.alloc_heap_new (w.alloc (.deferred (some []))) (.loop (rec .ready none)); rwa [World.size_alloc] at this
  have hK1 : W1.heap[D]? = some (.deferred (some [])) := by
    rw [← hW1, ← hD]; exact (heap_alloc_old _ _ (by simp)).trans (heap_alloc_new w _)
  have hf1 : Frm w.heap.size (fun _ => False) w W1 := by
    rw [← hW1]
    exact (Frm.alloc w _).trans ((Frm.alloc (w.alloc (.deferred (some []))) _).mono (by simp) (fun _ _ h => h))
  have rW := r.grow (w' := W1) gh.lim hf1 (fun _ _ => rfl)
  -- the marks that lie already lie below
  have hold : ∀ (k : Nat) (o : Obj), cx.w0.heap[k]? = some o → k ≠ D + 1 := fun k o hk he => by
    have h1 := (Array.getElem?_eq_some_iff.1 hk).1
    have h2 := r.frm.size
    omega
  obtain ⟨Ds, hds, hnd, hDs⟩ := r.ex.defers
  have hDlt : ∀ E ∈ Ds, E < D := fun E hE => by have := (Array.getElem?_eq_some_iff.1 (hDs E hE).2).1; omega
  let J : List AV → Bool → Lim → World → Prop := fun s b lim w' =>
    (∀ E ∈ Ds, w'.heap[E]? = some (.deferred (some []))) ∧ w'.heap[D]? = some (.deferred (some [])) ∧
    match b with
    | true => ∃ gh' : Gh, gh'.lim = lim ∧ (∃ bx tb sh, I s = { σ with bx := bx, tb := tb, sh := sh }) ∧ RR cx gh' (I s) a w' ∧ w'.heap[D + 1]? = some (.loop (rec .ready none))
    | false => ∃ (gh' : Gh) (τ : AS) (c : Code), gh'.lim = lim ∧ AT cx.P cx.gl c { τ with mks := σ.mks + 1 } Q ∧ RR cx gh' τ a w' ∧ w'.heap[D + 1]? = some (.loop (rec .done (some c)))
  have hgrowJ : ∀ s b lim lim' w w', J s b lim w → Frm w.heap.size (fun _ => False) w w' → (∀ k, k < w.heap.size → lim' k = lim k) → J s b lim' w' := by
    rintro s b lim lim' w2 w3 ⟨h1, h2, h3⟩ hf hl
    have hin : ∀ {k : Nat} {o : Obj}, w2.heap[k]? = some o → w3.heap[k]? = some o := fun hk => (hf.block _ (Array.getElem?_eq_some_iff.1 hk).1 id).trans hk
    refine ⟨fun E hE => hin (h1 E hE), hin h2, ?_⟩
    cases b with
    | true =>
      obtain ⟨gh', rfl, hgood, r', hl'⟩ := h3
      exact ⟨_, rfl, hgood, r'.grow lim' hf hl, hin hl'⟩
    | false =>
      obtain ⟨gh', τ, c, rfl, hat, r', hl'⟩ := h3
      exact ⟨_, τ, c, rfl, hat, r'.grow lim' hf hl, hin hl'⟩
  have hrdJ : ∀ n s lim w v x, J s true lim w → Rep lim w.heap v x → el s x → YieldAt (Fw none) n cx.P (D + 1) #[v] w fun e w' => ∃ lim', e = .returned (.bool (go s x)) ∧ J (s ++ [x]) (go s x) lim' w' ∧ Keep lim w.heap lim' w'.heap ∧ Frm 0 (fun _ => True) w w' := by
    rintro n' s lim w2 v x ⟨hE2, hD2, gh2, rfl, ⟨bx, tb, sh, hI⟩, r2, hl2⟩ hx hel
    have hyl := run_yield (P := cx.P) (args := #[v]) hl2 (by rw [hrec]; simp)
    refine ⟨_, _, _, _, hyl, ?_⟩
    rw [hrec]
    refine roundIn_of_wpIn (F := Fw none) trivial ?_
    have hIs : ∀ {α : Type} (f : AS → α), f (I s) = f { σ with bx := bx, tb := tb, sh := sh } := fun f => by rw [hI]
    let fx : Nat → Option Value := fun t => if t ∈ T then some (a.tmps.getD t undef) else none
    let cxr : Cx := { cx with lim := gh2.lim, w0 := w2, df := [], gl := { cx.gl with rnd := true }, fx := fx }
    have rp := r2.put_v (some p) (fun t ht => by injection ht with ht; subst ht; rw [hIs AS.n, hIs AS.fx]; exact hp) hx
    have rs := rp.recx (cxB := cxr) rfl rfl rfl rfl hy rfl rfl (fun _ _ _ _ _ => rfl) (fun _ _ _ _ => rfl) (Nat.le_refl _) 0 T [] (fun t u ht => by
      simp only [cxr, fx] at ht
      split at ht
      · rename_i hmem
        injection ht with ht
        exact ⟨hmem, by rw [getD_put_ne a (fun he : p = t => hpT (he ▸ hmem))]; exact ht⟩
      · cases ht) ⟨[], rfl, ⟨rfl, List.nodup_nil⟩, fun D hD => (by cases hD)⟩
    have hstart := hround s x hel cxr (some (D + 1)) n' { tmps := a.tmps.setIfInBounds p v, defers := [] } w2 rfl rfl (fun h => by cases h) ⟨gh2, rs⟩
    have htm : (Array.foldl (fun tmps x => match x with | (t, a) => tmps.setIfInBounds t a) a.tmps (#[p].zip #[v])) = a.tmps.setIfInBounds p v := by simp [Array.zip]
    dsimp only
    rw [htm]
    refine wpIn_mono hstart fun e a1 w1 ⟨τ1, hth, gh1, r1⟩ => ?_
    cases e with
    | exit id => exact hth.elim
    | goto t => exact hth.elim
    | ret => exact hth.elim
    | panic ch => exact hth.elim
    | outgrown => exact hth.elim
    | normal =>
      have hoth1 := r1.ex.oth hy
      have hl1 := hoth1 (D + 1) _ hl2 rfl rfl
      have hD1 := hoth1 D _ hD2 rfl rfl
      refine ⟨_, run_beginRound hl1 (by rw [hrec]), ?_⟩
      generalize hbusy : ({ rec .ready none with state := .busy } : Loop) = rb
      have hlt1 := (Array.getElem?_eq_some_iff.1 hl1).1
      let cxr2 : Cx := { cxr with lim := gh1.lim, w0 := w1.putObj (D + 1) (.loop rb) }
      have r1' := r1.recx (cxB := cxr2) rfl rfl rfl rfl hy rfl rfl (loop_cells hl1 _) (loop_iter hl1 _) (Nat.le_of_eq World.putObj_size.symm) τ1.mks τ1.fx a1.defers r1.ex.fx (by
        obtain ⟨Es, e1, e2, e3⟩ := r1.ex.defers
        exact ⟨Es, e1, e2, fun E hE => ⟨(e3 E hE).1, loop_def hl1 _ E _ (e3 E hE).2⟩⟩)
      refine wpIn_mono (hth cxr2 (some (D + 1)) n' a1 _ rfl rfl (fun h => by cases h) ⟨gh1, r1'⟩) fun e a2 w3 ⟨τ2, hq, gh3, r3⟩ => ?_
      have hoth3 := r3.ex.oth hy
      have hl3 := hoth3 (D + 1) _ (World.putObj_heap_same hlt1) rfl rfl
      have hD3 := hoth3 D _ (loop_def hl1 _ D _ hD1) rfl rfl
      have hE3 : ∀ E ∈ Ds, w3.heap[E]? = some (.deferred (some [])) := fun E hE => hoth3 E _ (loop_def hl1 _ E _ (hoth1 E _ (hE2 E hE) rfl rfl)) rfl rfl
      have hT : ∀ t ∈ T, a2.tmps.getD t undef = a.tmps.getD t undef := fun t ht => (r3.ex.fx t (a.tmps.getD t undef) (by simp only [cxr2, cxr, fx, ht, if_true])).2
      have frm3 : Frm cx.B cx.S w2 w3 := (r1.frm.trans (putObj_frm w1 (D + 1) (.loop rb) hlB)).trans r3.frm
      have keep3 : Keep gh2.lim w2.heap gh3.lim w3.heap := (r1.ex.keep.trans (loop_keep hl1 _ _)).trans r3.ex.keep
      have lim3 : ∀ b, b < cx.B → gh3.lim b = gh2.lim b := fun b hb => (r3.limB b hb).trans (r1.limB b hb)
      -- the round's end
      have fin : ∀ (jump : Option Code) (bs : List Nat), tmOk T σ.tm τ2.tm = true → lpOk (pick bs τ2.bx) σ.tm = true → ∀ st, st = (if jump.isNone then LoopState.ready else .done) →
          (Instr.endRound (D + 1) jump).run cx.P w3 = .ok (.bool jump.isNone) (w3.putObj (D + 1) (.loop (rec st jump))) ∧
          (∀ E ∈ Ds, (w3.putObj (D + 1) (.loop (rec st jump))).heap[E]? = some (.deferred (some []))) ∧ (w3.putObj (D + 1) (.loop (rec st jump))).heap[D]? = some (.deferred (some [])) ∧
          RR cx gh3 (σ.out bs τ2 σ.mks) a (w3.putObj (D + 1) (.loop (rec st jump))) ∧ (w3.putObj (D + 1) (.loop (rec st jump))).heap[D + 1]? = some (.loop (rec st jump)) ∧
          Keep gh2.lim w2.heap gh3.lim (w3.putObj (D + 1) (.loop (rec st jump))).heap ∧ Frm 0 (fun _ => True) w2 (w3.putObj (D + 1) (.loop (rec st jump))) := by
        intro jump bs htm hlp st hst
        have hrun := run_endRound (P := cx.P) jump hl3
        have hrb : ({ rb with state := if jump.isNone then .ready else .done, pending := jump } : Loop) = rec st jump := by rw [← hbusy, hrec, hst]
        rw [hrb] at hrun
        have hlt3 := (Array.getElem?_eq_some_iff.1 hl3).1
        let cx4 : Cx := { cxr2 with lim := gh3.lim, w0 := w3.putObj (D + 1) (.loop (rec st jump)) }
        have r4 := r3.recx (cxB := cx4) rfl rfl rfl rfl hy rfl rfl (loop_cells hl3 _) (loop_iter hl3 _) (Nat.le_of_eq World.putObj_size.symm) τ2.mks τ2.fx a2.defers r3.ex.fx (by
          obtain ⟨Es, e1, e2, e3⟩ := r3.ex.defers
          exact ⟨Es, e1, e2, fun E hE => ⟨(e3 E hE).1, loop_def hl3 _ E _ (e3 E hE).2⟩⟩)
        have hfr : Frm cx.B cx.S w2 (w3.putObj (D + 1) (.loop (rec st jump))) := frm3.trans (putObj_frm w3 (D + 1) _ hlB)
        have rm := r2.mix hy hfr (keep3.trans (loop_keep hl3 _ _)) lim3 (fun k o hk hc hw => by
            have hkn := hold k o hk
            have h1 := r2.ex.oth hy k o hk hc hw
            have h2 := hoth1 k o h1 hc hw
            have h3 := hoth3 k o ((World.putObj_heap_other hkn).trans h2) hc hw
            exact (World.putObj_heap_other hkn).trans h3) r4 rfl rfl T hT (by rw [hIs AS.tm]; exact htm) bs (by rw [hIs AS.tm]; exact hlp) σ.mks a.defers
          ⟨Ds, hds, hnd, fun E hE => ⟨(hDs E hE).1, loop_def hl3 _ E _ (hE3 E hE)⟩⟩
        rw [hI] at rm
        exact ⟨hrun, fun E hE => loop_def hl3 _ E _ (hE3 E hE), loop_def hl3 _ D _ hD3, rm, World.putObj_heap_same hlt3, keep3.trans (loop_keep hl3 _ _), ⟨hfr.os, hfr.tape, hfr.output, hfr.size, fun k hk => (by omega)⟩⟩
      have left : ∀ (c : Code) (bs : List Nat), go s x = false → tmOk T σ.tm τ2.tm = true → lpOk (pick bs τ2.bx) σ.tm = true → AT cx.P cx.gl c (σ.out bs τ2 (σ.mks + 1)) Q →
          ∃ v' w', (Instr.endRound (D + 1) (some c)).run cx.P w3 = .ok v' w' ∧ ∃ lim', Ending.returned v' = .returned (.bool (go s x)) ∧ J (s ++ [x]) (go s x) lim' w' ∧ Keep gh2.lim w2.heap lim' w'.heap ∧ Frm 0 (fun _ => True) w2 w' := by
        intro c bs hgo h1 h2 hat
        obtain ⟨f1, f2, f3, f4, f5, f6, f7⟩ := fin (some c) bs h1 h2 .done rfl
        refine ⟨_, _, f1, gh3.lim, by rw [hgo]; rfl, ?_, f6, f7⟩
        rw [hgo]
        exact ⟨f2, f3, gh3, _, c, rfl, hat, f4, f5⟩
      cases e with
      | normal =>
        obtain ⟨hgo, h1, bs, h2, h3⟩ := hq
        obtain ⟨f1, f2, f3, f4, f5, f6, f7⟩ := fin none bs h1 h2 .ready rfl
        refine ⟨_, _, f1, gh3.lim, by rw [hgo]; rfl, ?_, f6, f7⟩
        rw [hgo]
        rw [h3] at f4
        exact ⟨f2, f3, gh3, rfl, ⟨_, _, _, h3.symm⟩, f4, f5⟩
      | ret => obtain ⟨hgo, h1, bs, h2, h3⟩ := hq; exact left .ret bs hgo h1 h2 h3
      | exit id => obtain ⟨hgo, h1, bs, h2, h3⟩ := hq; exact left (.exit id) bs hgo h1 h2 h3
      | goto t => exact hq.elim
      | panic ch => exact hq.elim
      | outgrown => exact hq.elim
  let Y : Ys := { P := cx.P, l := D + 1, go := go, el := el, J := J, grow := hgrowJ, rd := hrdJ }
  obtain ⟨res, hfn, hval⟩ := hit Y rfl rfl rfl
  have hJ0 : J [] true gh.lim W1 := by
    refine ⟨fun E hE => (hf1.block E (by have := hDlt E hE; omega) id).trans (hDs E hE).2, hK1, { gh with lim := gh.lim }, rfl, ⟨σ.bx, σ.tb, σ.sh, hI0⟩, ?_, hL1⟩
    rw [hI0]
    exact rW
  have hcalls := hval gh.lim W1 (.func (.yield (D + 1)) #[] #[] :: cs.toList) (fun g c h => rW.gl g c h) (.cons (.yld _) (hcaps.mono (Keep.of_same (fun _ _ => rfl) (fun b hb => hf1.block b hb id)))) hJ0
  have hinv : (callFunc gf (#[.func (.yield (D + 1)) #[] #[]] ++ cs)).run cx.P W1 = .ok (.enter gf (#[.func (.yield (D + 1)) #[] #[]] ++ cs)) W1 := by
    have hfn' : ∃ fn, cx.P.funcs[gf]? = some fn ∧ fn.body.isSome = true ∧ (fn.name == "runtime.NumGoroutine") = false := by
      unfold fnOk at hfn
      split at hfn
      · rename_i fn hq
        simp only [Bool.and_eq_true, Bool.not_eq_true'] at hfn
        exact ⟨fn, hq, hfn.1, hfn.2⟩
      · cases hfn
    obtain ⟨fn', hq, hb, hnm⟩ := hfn'
    have hb' : fn'.body.isNone = false := by simpa using hb
    have hnm' : ¬ fn'.name = "runtime.NumGoroutine" := by simpa using hnm
    simp only [callFunc, Sem.run_bind, Sem.run_pure, Result.andThen_ok, run_program, hq, hnm', hb', Bool.false_eq_true, if_false, beq_iff_eq]
  refine ⟨D + 1, [markOf D], W1, { target := .fn (.func gf) cs, args := #[.func (.yield (D + 1)) #[] #[]] }, W1, gf, #[.func (.yield (D + 1)) #[] #[]] ++ cs, W1, ?_, ?_, fun _ _ => trivial, ?_, fun h => (by cases h), ?_⟩
  · have := run_enterLoop_outer (P := cx.P) (w := w) fn a.tmps #[p] assign body
    rw [hD] at this
    rw [← hW1, hrec]
    exact this
  · simp only [resolve, rangeCall, hcs, Deferred.ofValue]
    simp [Act.eval]
  · simp only [invoke]
    exact hinv
  · have hsame : (Value.func (.yield (D + 1)) #[] #[] :: cs.toList).toArray = #[.func (.yield (D + 1)) #[] #[]] ++ cs := by apply Array.ext'; simp
    rw [hsame] at hcalls
    refine (callsIn_fw hcalls).mono fun e w' => ?_
    rintro ⟨v, lim', rfl, hf, hkeep, hres, hE', hD', hj⟩
    have step : ∀ (gh' : Gh) (τ : AS) (rc : Loop), RR cx gh' τ a w' → w'.heap[D + 1]? = some (.loop rc) → R cx { τ with mks := σ.mks + 1 } { a with defers := [markOf D] ++ a.defers } (w'.putObj (D + 1) (.loop { rc with state := .exhausted })) := by
      intro gh' τ rc r' hl'
      refine ⟨gh', r'.step0 hy (putObj_frm w' (D + 1) _ hlB) (loop_cells hl' _) (loop_iter hl' _) (fun k o hk hc hw => (World.putObj_heap_other (hold k o hk)).trans (r'.ex.oth hy k o hk hc hw)) (σ.mks + 1) _ ?_⟩
      refine ⟨D :: Ds, by rw [hds]; rfl, ⟨by simp [hnd.1], List.nodup_cons.2 ⟨fun h => Nat.lt_irrefl _ (hDlt D h), hnd.2⟩⟩, fun E hE => ?_⟩
      rcases List.mem_cons.1 hE with rfl | hE
      · exact ⟨by have := r.base; omega, loop_def hl' _ E _ hD'⟩
      · exact ⟨(hDs E hE).1, loop_def hl' _ E _ (hE' E hE)⟩
    obtain ⟨fs, fb⟩ := fin
    cases fb with
    | true =>
      obtain ⟨gh', hlim, hgood, r', hl'⟩ := hj
      have hrun := run_endLoop (P := cx.P) hl' (by rw [hrec]; simp)
      have hrun := hrun.trans (congrArg (fun z => Result.ok z _) (show (rec .ready none).pending = none by rw [hrec]))
      exact ⟨none, _, hrun, _, hdone rfl, step gh' _ _ r' hl'⟩
    | false =>
      obtain ⟨gh', τ, c, hlim, hat, r', hl'⟩ := hj
      have hrun := run_endLoop (P := cx.P) hl' (by rw [hrec]; simp)
      have hrun := hrun.trans (congrArg (fun z => Result.ok z _) (show (rec .done (some c)).pending = some c by rw [hrec]))
      exact ⟨some c, _, hrun, hat cx none n _ _ rfl rfl (fun _ => rfl) (step gh' τ _ r' hl')⟩

end Go.Pv
end

section
/- The library's contracts, as contracts of this kind. -/
namespace Go.Pv
open Go Go.RowKit

theorem valid_calls {P : Program} {gl : Gl} {f : FuncId} {args : List AV} {r : AV} (hok : fnOk P f = true)
    (h : ∀ (lim : Lim) (w : World) (cargs : List Value), RepL lim w.heap cargs args → Calls P f cargs.toArray w fun e w' => ∃ v, e = .returned v ∧ Below w.heap.size w w' ∧ ∀ lim', (∀ b, b < w.heap.size → lim' b = lim b) → Rep lim' w'.heap v r) : Valid P gl f args r := by
  refine ⟨hok, fun lim w cargs _ hargs _ => (h lim w cargs hargs).mono fun e w' => ?_⟩
  rintro ⟨v, rfl, hb, hr⟩
  exact ⟨v, r, [], lim, rfl, ⟨hb.os, hb.tape, hb.output, hb.size, fun k hk _ => hb.block k hk⟩, fun _ _ => rfl, hr lim (fun _ _ => rfl), fun b c h => (by cases h), ⟨rfl, rfl⟩, fun _ h => h, fun b h => (by cases h)⟩

theorem valid_callsG {P : Program} {gl : Gl} {f : FuncId} {args : List AV} {r : AV} (hok : fnOk P f = true)
    (h : ∀ (lim : Lim) (w : World) (cargs : List Value), GlOk gl lim w.heap → RepL lim w.heap cargs args → Calls P f cargs.toArray w fun e w' => ∃ v, e = .returned v ∧ Below w.heap.size w w' ∧ ∀ lim', (∀ b, b < w.heap.size → lim' b = lim b) → Rep lim' w'.heap v r) : Valid P gl f args r := by
  refine ⟨hok, fun lim w cargs hgl hargs _ => (h lim w cargs hgl hargs).mono fun e w' => ?_⟩
  rintro ⟨v, rfl, hb, hr⟩
  exact ⟨v, r, [], lim, rfl, ⟨hb.os, hb.tape, hb.output, hb.size, fun k hk _ => hb.block k hk⟩, fun _ _ => rfl, hr lim (fun _ _ => rfl), fun b c h => (by cases h), ⟨rfl, rfl⟩, fun _ h => h, fun b h => (by cases h)⟩

end Go.Pv
end

section
/- What the functions on types compute, as plain functions. -/
namespace Go.Pv
open Go

mutual
def wt : Ty → Nat | .mk n ts _ => n.length + 1 + wts ts
def wts : List Ty → Nat | [] => 0 | t :: r => wt t + wts r
end
mutual
def dep : Ty → Nat | .mk _ ts _ => deps ts + 1
def deps : List Ty → Nat | [] => 0 | t :: r => max (dep t) (deps r)
end
mutual
def lst : Ty → List Str | .mk n ts _ => n :: lsts ts
def lsts : List Ty → List Str | [] => [] | t :: r => lst t ++ lsts r
end
mutual
def txt : Ty → Str | .mk n ts _ => if ts.isEmpty then n else n ++ [91] ++ Lib.join (txts ts) [44, 32] ++ [93]
def txts : List Ty → List Str | [] => [] | t :: r => txt t :: txts r
end
mutual
def cnt : Ty → Nat → Nat | .mk n ts _, k => cnts ts (k + 1 + n.length / 50)
def cnts : List Ty → Nat → Nat | [], k => k | t :: r, k => if k ≤ 2000 then cnts r (cnt t k) else k
end

def cmpS (a b : Str) : Int := if Op.bytesLess a b then -1 else if a = b then 0 else 1

mutual
def cmpT : Ty → Ty → Int | .mk n ts _, u => if cmpS n u.name = 0 then cmpTs ts u.args else cmpS n u.name
def cmpTs : List Ty → List Ty → Int
  | [], us => if us.isEmpty then 0 else -1
  | t :: r, us => match us with
    | [] => 1
    | u :: s => if cmpT t u = 0 then cmpTs r s else cmpT t u
end

def Ty.at_ (p : Int) : Ty → Ty | .mk n ts _ => .mk n ts p

def idxF : List Str → Str → Nat → Int | [], _, _ => -1 | x :: r, s, k => if s = x then k else idxF r s (k + 1)

mutual
def sub (ns : List Str) (as : List Ty) : Ty → Ty
  | .mk n ts p => if ts.isEmpty then (if 0 ≤ idxF ns n 0 then (match as[(idxF ns n 0).toNat]? with | some a => a.at_ p | none => .mk n [] p) else .mk n [] p) else .mk n (subs ns as ts) p
def subs (ns : List Str) (as : List Ty) : List Ty → List Ty
  | [] => []
  | t :: r => sub ns as t :: subs ns as r
end

mutual
def eqT : Ty → Ty → Bool | .mk n ts p, u => n == u.name && p == u.pos && eqTs ts u.args
def eqTs : List Ty → List Ty → Bool
  | [], us => us.isEmpty
  | t :: r, us => match us with
    | [] => false
    | u :: s => eqT t u && eqTs r s
end

theorem txts_map (l : List Ty) : txts l = l.map txt := by
  induction l with
  | nil => rfl
  | cons t l ih => simp [txts, ih]
theorem lsts_flat (l : List Ty) : lsts l = (l.map lst).flatten := by
  induction l with
  | nil => rfl
  | cons t l ih => simp [lsts, ih]

theorem take_get {α : Type} (l : List α) (k : Nat) (h : k < l.length) : l.take (k + 1) = l.take k ++ [l[k]] := by
  rw [List.take_add_one, List.getElem?_eq_getElem h]; rfl

theorem wts_app (a b : List Ty) : wts (a ++ b) = wts a + wts b := by
  induction a with
  | nil => simp [wts]
  | cons t a ih => simp [wts, ih, Nat.add_assoc]
theorem lsts_app (a b : List Ty) : lsts (a ++ b) = lsts a ++ lsts b := by simp [lsts_flat]
theorem lsts_take (l : List Ty) (k : Nat) (h : k < l.length) : lsts (l.take (k + 1)) = lsts (l.take k) ++ lst l[k] := by rw [take_get l k h, lsts_app]; simp [lsts]
theorem map_take {α β : Type} (f : α → β) (l : List α) (k : Nat) (h : k < l.length) : (l.take (k + 1)).map f = (l.take k).map f ++ [f l[k]] := by rw [take_get l k h, List.map_append]; rfl
theorem wt_pos (t : Ty) : 0 < wt t := by cases t; simp [wt]; omega
theorem wts_len (l : List Ty) : l.length ≤ wts l := by
  induction l with
  | nil => simp
  | cons t l ih => simp [wts]; have := wt_pos t; omega
theorem wts_mem {l : List Ty} {t : Ty} (h : t ∈ l) : wt t ≤ wts l := by
  induction l with
  | nil => cases h
  | cons x l ih =>
    simp only [wts]
    rcases List.mem_cons.1 h with rfl | h
    · omega
    · have := ih h; omega
theorem wts_take (l : List Ty) (k : Nat) : wts (l.take k) ≤ wts l := by
  have := wts_app (l.take k) (l.drop k)
  rw [List.take_append_drop] at this
  omega

theorem cmpS_nil : cmpS [] [] = 0 := by simp [cmpS, Op.bytesLess]
theorem cmpS_nil_cons (y : UInt8) (b : Str) : cmpS [] (y :: b) = -1 := by simp [cmpS, Op.bytesLess]
theorem cmpS_cons_nil (x : UInt8) (a : Str) : cmpS (x :: a) [] = 1 := by simp [cmpS, Op.bytesLess]
theorem cmpS_cons (x y : UInt8) (a b : Str) : cmpS (x :: a) (y :: b) = if x.toNat < y.toNat then -1 else if y.toNat < x.toNat then 1 else cmpS a b := by
  have hl : ∀ u v : UInt8, (u < v) = (u.toNat < v.toNat) := fun _ _ => rfl
  simp only [cmpS, Op.bytesLess, hl]
  by_cases h1 : x.toNat < y.toNat
  · simp [h1]
  · by_cases h2 : y.toNat < x.toNat
    · have : x ≠ y := fun h => by subst h; exact h1 h2
      simp [h1, h2, this]
    · have : x = y := UInt8.toNat_inj.1 (by omega)
      subst this
      simp

theorem bytesLess_irrefl : ∀ a : Str, Op.bytesLess a a = false
  | [] => rfl
  | x :: a => by
    have : ¬ x < x := fun h => Nat.lt_irrefl _ (show x.toNat < x.toNat from h)
    simp [Op.bytesLess, this, bytesLess_irrefl a]

theorem cmpS_eq (a b : Str) : cmpS a b = 0 ↔ a = b := by
  unfold cmpS
  constructor
  · intro h
    split at h
    · cases h
    · split at h
      · assumption
      · cases h
  · rintro rfl
    simp [bytesLess_irrefl]

theorem cmpTs_cons (t u : Ty) (r s : List Ty) : cmpTs (t :: r) (u :: s) = if cmpT t u = 0 then cmpTs r s else cmpT t u := by simp [cmpTs]

theorem cmpTs_end (a b : List Ty) (k : Nat) (h : a.length ≤ k ∨ b.length ≤ k) (ha : k ≤ a.length) (hb : k ≤ b.length) : cmpTs (a.drop k) (b.drop k) = if a.length < b.length then -1 else if b.length < a.length then 1 else 0 := by
  cases hx : a.drop k with
  | nil =>
    have h1 : a.length ≤ k := by simpa using hx
    cases hy : b.drop k with
    | nil =>
      have h2 : b.length ≤ k := by simpa using hy
      rw [if_neg (by omega), if_neg (by omega)]; simp [cmpTs]
    | cons y b' =>
      have h2 : k < b.length := by
        have := congrArg List.length hy
        simp at this; omega
      rw [if_pos (by omega)]; simp [cmpTs]
  | cons x a' =>
    have h1 : k < a.length := by
      have := congrArg List.length hx
      simp at this; omega
    have h2 : b.length ≤ k := by omega
    rw [List.drop_eq_nil_of_le h2, if_neg (by omega), if_pos (by omega)]; simp [cmpTs]

def encI (x : Int) : List AV := [.int .i64 x]
@[simp] theorem encI_len (s : Int) : (encI s).length = 1 := rfl
@[simp] theorem encI_one (s : Int) : (encI s).all AV.one = true := rfl
@[simp] theorem encI_0 (s : Int) : (encI s)[0]? = some (.int .i64 s) := rfl
@[simp] theorem encI_take (s : Int) : (encI s).take 1 = encI s := rfl
@[simp] theorem encI_g (s : Int) (h : 0 < (encI s).length) : (encI s)[0] = .int .i64 s := rfl
@[simp] theorem encS_g (s : Str) (h : 0 < (encS s).length) : (encS s)[0] = .str s := rfl
@[simp] theorem encI_rows (l : List Int) : Rows 1 (l.map encI) := Rows_map 1 encI (fun _ => ⟨rfl, rfl⟩) l

def orI : List Int → Int | [] => 0 | x :: r => if x = 0 then orI r else x

theorem lst_wt : ∀ t : Ty, (lst t).length ≤ wt t := by
  intro t
  induction t using Ty.ind with
  | h n ts p ih =>
    simp only [lst, wt, List.length_cons]
    have : (lsts ts).length ≤ wts ts := by
      clear p
      induction ts with
      | nil => simp [lsts]
      | cons t ts ih' =>
        have h1 := ih t (by simp)
        have h2 := ih' (fun x hx => ih x (by simp [hx]))
        simp only [lsts, wts, List.length_append]
        omega
    omega
theorem lsts_wts (l : List Ty) : (lsts l).length ≤ wts l := by
  induction l with
  | nil => simp [lsts]
  | cons t l ih => have := lst_wt t; simp only [lsts, wts, List.length_append]; omega

theorem eqTs_cons (t u : Ty) (r s : List Ty) : eqTs (t :: r) (u :: s) = (eqT t u && eqTs r s) := by simp [eqTs]
theorem eqTs_len {a b : List Ty} (h : a.length ≠ b.length) : eqTs a b = false := by
  induction a generalizing b with
  | nil => cases b with
    | nil => exact absurd rfl h
    | cons y b => simp [eqTs]
  | cons x a ih => cases b with
    | nil => simp [eqTs]
    | cons y b => simp [eqTs, ih (b := b) (by simpa using h)]
mutual
def fit : Ty → Prop | .mk n ts _ => n.length ≤ 140737488355328 ∧ ts.length ≤ 140737488355328 ∧ fits ts
def fits : List Ty → Prop | [] => True | t :: r => fit t ∧ fits r
end
theorem join_snoc (l : List Str) (x sep : Str) : Lib.join (l ++ [x]) sep = if l = [] then x else Lib.join l sep ++ sep ++ x := by
  cases l with
  | nil => simp [Lib.join_one]
  | cons y r =>
    simp only [List.cons_append, Lib.join_cons, reduceCtorEq, if_false]
    simp [Lib.joinTail, List.append_assoc]

theorem join_len (l : List Str) (sep : Str) : (Lib.join l sep).length ≤ (l.map fun s => s.length + sep.length).sum := by
  cases l with
  | nil => simp [Lib.join_nil]
  | cons x r =>
    rw [Lib.join_cons]
    have : ∀ r : List Str, (Lib.joinTail sep r).length = (r.map fun s => s.length + sep.length).sum := by
      intro r
      induction r with
      | nil => simp [Lib.joinTail]
      | cons y r ih =>
        have ih' : ((r.map (sep ++ ·)).flatten).length = (r.map fun s => s.length + sep.length).sum := ih
        simp only [Lib.joinTail, List.map_cons, List.flatten_cons, List.length_append, List.sum_cons, ih']
        omega
    rw [List.length_append, this]
    simp only [List.map_cons, List.sum_cons]
    omega

theorem txts_sum : ∀ l : List Ty, (∀ t ∈ l, (txt t).length + 2 ≤ 4 * wt t) → ((txts l).map fun s => s.length + 2).sum ≤ 4 * wts l
  | [], _ => by simp [txts]
  | t :: l, h => by
    have h1 := h t (by simp)
    have h2 := txts_sum l (fun x hx => h x (by simp [hx]))
    simp only [txts, wts, List.map_cons, List.sum_cons]
    omega

theorem txt_wt : ∀ t : Ty, (txt t).length + 2 ≤ 4 * wt t := by
  intro t
  induction t using Ty.ind with
  | h n ts p ih =>
    have h1 := txts_sum ts ih
    have h2 := join_len (txts ts) [44, 32]
    have h3 : ([44, 32] : Str).length = 2 := rfl
    rw [h3] at h2
    rw [txt, wt]
    split
    · omega
    · simp only [List.length_append, List.length_cons, List.length_nil]
      omega

theorem txts_take_len (l : List Ty) (k : Nat) : (Lib.join (txts (l.take k)) [44, 32]).length ≤ 4 * wts l := by
  have h1 := txts_sum (l.take k) (fun t _ => txt_wt t)
  have h2 := join_len (txts (l.take k)) [44, 32]
  have h3 : ([44, 32] : Str).length = 2 := rfl
  rw [h3] at h2
  have h4 := wts_take l k
  omega

def txtK (n : Str) (ts : List Ty) (k : Nat) : Str := if k = 0 then n else n ++ [91] ++ Lib.join (txts (ts.take k)) [44, 32]

theorem txtK_succ (n : Str) (ts : List Ty) (k : Nat) (h : k < ts.length) : txtK n ts (k + 1) = (if k = 0 then txtK n ts k ++ [91] else txtK n ts k ++ [44, 32]) ++ txt ts[k] := by
  unfold txtK
  rw [if_neg (by omega), txts_map, map_take _ _ _ h, join_snoc]
  by_cases hk : k = 0
  · subst hk; simp
  · have : (ts.take k).map txt ≠ [] := by
      intro he
      have := congrArg List.length he
      simp at this
      rcases this with h1 | h1
      · exact hk h1
      · subst h1; simp at h
    rw [if_neg hk, if_neg hk, if_neg this, txts_map]
    simp [List.append_assoc]

theorem txtK_len (n : Str) (ts : List Ty) (k : Nat) : (txtK n ts k).length ≤ n.length + 1 + 4 * wts ts := by
  unfold txtK
  have := txts_take_len ts k
  split
  · omega
  · simp only [List.length_append, List.length_cons, List.length_nil]; omega

theorem txt_end (n : Str) (ts : List Ty) (p : Int) (k : Nat) (hk : k = ts.length) : (0 < ts.length → txtK n ts k ++ [93] = txt (.mk n ts p)) ∧ (ts.length = 0 → txtK n ts k = txt (.mk n ts p)) := by
  subst hk
  cases ts with
  | nil => simp [txtK, txt]
  | cons t r => simp [txtK, txt]

@[simp] theorem encTy_rows_comp {α : Type} (f : α → Ty) (l : List α) : Rows 3 (l.map (encTy ∘ f)) := Rows_map 3 _ (fun t => ⟨encTy_len (f t), encTy_one (f t)⟩) l
theorem Rows_take {sz : Nat} {l : List (List AV)} (h : Rows sz l) (k : Nat) : Rows sz (l.take k) := fun r hr => h r (List.mem_of_mem_take hr)
@[simp] theorem encTy_rows_take {α : Type} (f : α → Ty) (l : List α) (k : Nat) : Rows 3 (List.take k (l.map (encTy ∘ f))) := Rows_take (encTy_rows_comp f l) k
@[simp] theorem encTy_rows_take0 (l : List Ty) (k : Nat) : Rows 3 (List.take k (l.map encTy)) := Rows_take (encTys_rows l) k

def clsI (n : Int) : Int := if (97 ≤ n ∧ n ≤ 122) ∨ (65 ≤ n ∧ n ≤ 90) then 1 else if 48 ≤ n ∧ n ≤ 57 then 2 else if n = 95 then 3 else if n = 9 ∨ n = 10 ∨ n = 13 ∨ n = 32 then 4 else 0

theorem cls_cases (n : Int) : (97 ≤ n ∧ n ≤ 122) ∨ (65 ≤ n ∧ n ≤ 90) ∨ (48 ≤ n ∧ n ≤ 57) ∨ n = 95 ∨ n = 9 ∨ n = 10 ∨ n = 13 ∨ n = 32 ∨ 122 < n ∨ (90 < n ∧ n < 97 ∧ n ≠ 95) ∨ (57 < n ∧ n < 65) ∨ (n < 48 ∧ n ≠ 9 ∧ n ≠ 10 ∧ n ≠ 13 ∧ n ≠ 32) := by omega

end Go.Pv
end

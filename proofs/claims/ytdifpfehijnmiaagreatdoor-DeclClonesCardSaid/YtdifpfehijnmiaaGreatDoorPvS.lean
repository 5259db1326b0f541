import Derived.Test.YtdifpfehijnmiaaGreatDoorPvP
import Derived.Test.YtdifpfehijnmiaaGreatDoorPvOc
set_option linter.all false
section
/- The program's types as plain data, and as values. -/
namespace Go.Pv
open Go

abbrev Str := List UInt8

inductive Ty where
  | mk (name : Str) (args : List Ty) (pos : Int)

@[simp] def Ty.name : Ty → Str | .mk n _ _ => n
@[simp] def Ty.args : Ty → List Ty | .mk _ a _ => a
@[simp] def Ty.pos : Ty → Int | .mk _ _ p => p

mutual
def encTy : Ty → List AV
  | .mk n as p => [.str n, .slice (encTys as), .int .i64 p]
def encTys : List Ty → List (List AV)
  | [] => []
  | t :: r => encTy t :: encTys r
end

theorem encTys_map (l : List Ty) : encTys l = l.map encTy := by
  induction l with
  | nil => simp [encTys]
  | cons t l ih => simp [encTys, ih]

theorem encTy_def (t : Ty) : encTy t = [.str t.name, .slice (t.args.map encTy), .int .i64 t.pos] := by
  cases t with
  | mk n as p => simp [encTy, encTys_map, Ty.name, Ty.args, Ty.pos]

theorem encTy_mk (n : Str) (as : List Ty) (p : Int) : encTy (.mk n as p) = [.str n, .slice (as.map encTy), .int .i64 p] := by rw [encTy_def]; rfl

@[simp] theorem encTy_len (t : Ty) : (encTy t).length = 3 := by rw [encTy_def]; rfl
@[simp] theorem encTy_one (t : Ty) : (encTy t).all AV.one = true := by rw [encTy_def]; rfl
@[simp] theorem encTy_0 (t : Ty) : (encTy t)[0]? = some (.str t.name) := by rw [encTy_def]; rfl
@[simp] theorem encTy_1 (t : Ty) : (encTy t)[1]? = some (.slice (t.args.map encTy)) := by rw [encTy_def]; rfl
@[simp] theorem encTy_2 (t : Ty) : (encTy t)[2]? = some (.int .i64 t.pos) := by rw [encTy_def]; rfl
@[simp] theorem encTy_g0 (t : Ty) (h : 0 < (encTy t).length) : (encTy t)[0] = .str t.name := by have := encTy_0 t; rw [List.getElem?_eq_getElem h] at this; injection this
@[simp] theorem encTy_g1 (t : Ty) (h : 1 < (encTy t).length) : (encTy t)[1] = .slice (t.args.map encTy) := by have := encTy_1 t; rw [List.getElem?_eq_getElem h] at this; injection this
@[simp] theorem encTy_g2 (t : Ty) (h : 2 < (encTy t).length) : (encTy t)[2] = .int .i64 t.pos := by have := encTy_2 t; rw [List.getElem?_eq_getElem h] at this; injection this
@[simp] theorem encTy_take (t : Ty) : (encTy t).take 3 = encTy t := by rw [encTy_def]; rfl
@[simp] theorem encTy_drop (t : Ty) : (encTy t).drop 3 = [] := by rw [encTy_def]; rfl
@[simp] theorem encTy_take2 (t : Ty) : (encTy t).take 2 = [.str t.name, .slice (t.args.map encTy)] := by rw [encTy_def]; rfl
@[simp] theorem encTy_take1 (t : Ty) : (encTy t).take 1 = [.str t.name] := by rw [encTy_def]; rfl
@[simp] theorem encTy_drop2 (t : Ty) : (encTy t).drop 2 = [.int .i64 t.pos] := by rw [encTy_def]; rfl
@[simp] theorem encTys_rows (l : List Ty) : Rows 3 (l.map encTy) := Rows_map 3 encTy (fun t => ⟨encTy_len t, encTy_one t⟩) l

def encS (s : Str) : List AV := [.str s]
@[simp] theorem encS_len (s : Str) : (encS s).length = 1 := rfl
@[simp] theorem encS_one (s : Str) : (encS s).all AV.one = true := rfl
@[simp] theorem encS_0 (s : Str) : (encS s)[0]? = some (.str s) := rfl
@[simp] theorem encS_rows (l : List Str) : Rows 1 (l.map encS) := Rows_map 1 encS (fun _ => ⟨rfl, rfl⟩) l

theorem Ty.ind {p : Ty → Prop} (h : ∀ n as pos, (∀ t ∈ as, p t) → p (.mk n as pos)) : ∀ t, p t := by
  intro t
  exact Ty.rec (motive_1 := p) (motive_2 := fun l => ∀ t ∈ l, p t) (fun n as pos ih => h n as pos ih) (fun t ht => by cases ht) (fun t l h1 h2 x hx => by
    rcases List.mem_cons.1 hx with rfl | hx
    · exact h1
    · exact h2 x hx) t

end Go.Pv
end

section
/- Ranges over functions. -/
namespace Go.Pv
open Go

theorem RR.recx {cxA cxB : Cx} {gh : Gh} {τ : AS} {a : Act} {w w' : World} (r : RR cxA gh τ a w) (hP : cxB.P = cxA.P) (hB : cxB.B = cxA.B) (hS : cxB.S = cxA.S) (hg : cxB.gl.g = cxA.gl.g) (hy : cxB.gl.y = none) (htB : cxB.gl.top = false) (hlim : cxB.lim = gh.lim) (hw : cxB.w0 = w')
    (hc : ∀ (k : Nat) (cs : Array Value) (e : TypeId) (g : Nat × Nat), w.heap[k]? = some (.cells cs e g) → w'.heap[k]? = w.heap[k]?) (hi : ∀ (k : Nat) (o : Obj), w.heap[k]? = some o → o.isItO = true → w'.heap[k]? = some o) (hsz : w.heap.size ≤ w'.heap.size)
    (m : Nat) (fx' : List Nat) (ds : List Deferred) (hfx : ∀ t v, cxB.fx t = some v → t ∈ fx' ∧ a.tmps.getD t undef = v) (hd : DefOk cxB.B cxB.df m ds w') : RR cxB gh { τ with mks := m, fx := fx' } { a with defers := ds } w' := by
  have hkeep : Keep gh.lim w.heap gh.lim w'.heap := Keep.of_cells hc _
  refine { frm := by rw [hw]; exact Frm.refl _ _ _, base := by rw [hB]; exact Nat.le_trans r.base hsz, limB := fun b _ => by rw [hlim], size := r.size, ex := ⟨by rw [hw, hlim]; exact Keep.refl _ _, hd, fun Y hY => (by rw [hy] at hY; cases hY), ⟨fun t q h => ?_, r.ex.its.inj⟩, hfx, fun _ k o hk _ _ => (by rw [← hw]; exact hk), fun h => by rw [htB] at h; cases h⟩, gl := fun g c h => (r.gl g c (by rw [← hg]; exact h)).mono hkeep, tmps := ?_, boxes := ?_, inj := r.inj, shs := ?_, apart := r.apart, tbs := ?_, own := ?_, alone := r.alone }
  · rw [hB]
    exact (r.ex.its.at_ t q h).keep2 hi
  · intro t x h
    have h' := r.tmps t x h
    refine ⟨?_, h'.2⟩
    cases x with
    | un => trivial
    | v y g => exact ⟨h'.1.1.mono hkeep, h'.1.2⟩
    | bld l ns => exact ⟨h'.1.1.mono hkeep, h'.1.2⟩
    | lp k off => exact h'.1
    | it k9 => trivial
    | cl f ks => exact h'.1
  · intro k cells h
    obtain ⟨q1, q2, cs, e, q3, q4⟩ := r.boxes k cells h
    exact ⟨by rw [hB]; exact q1, q2, cs, e, (hc _ _ _ _ q3).trans q3, q4.mono hkeep⟩
  · intro b cells h
    obtain ⟨q1, q2, cs, e, q3, q4⟩ := r.shs b cells h
    exact ⟨by rw [hB, hS]; exact q1, q2, cs, e, (hc _ _ _ _ q3).trans q3, q4.mono hkeep⟩
  · intro k j g e h
    obtain ⟨q1, q2⟩ := r.tbs k j g e h
    exact ⟨q1, (hkeepC hc q2).trans rfl⟩
  · intro g e h
    obtain ⟨⟨m', xs, q1, q2⟩, q3⟩ := r.own g e h
    rw [hP, hB]
    refine ⟨⟨m', xs, ⟨q1.1, ?_⟩, q2⟩, q3⟩
    rcases q1.2 with hn | ⟨g', cap, cur, hv, hbg, hg', rest⟩
    · exact .inl hn
    · exact .inr ⟨g', cap, cur, hv, hbg, (hc _ _ _ _ hg').trans hg', rest⟩
where
  hkeepC {w w' : World} (hc : ∀ (k : Nat) (cs : Array Value) (e : TypeId) (g : Nat × Nat), w.heap[k]? = some (.cells cs e g) → w'.heap[k]? = w.heap[k]?) {b o : Nat} {v : Value} (hcell : cellAt w.heap b o = some v) : cellAt w'.heap b o = some v := by
    unfold cellAt at hcell ⊢
    cases hb : w.heap[b]? with
    | none => rw [hb] at hcell; cases hcell
    | some x =>
      rw [hb] at hcell
      cases x <;> first | cases hcell | skip
      rename_i cs e g
      rw [hc b cs e g hb, hb]; exact hcell

def tmOk (T : List Nat) (tm0 tm : List (Nat × TV)) : Bool := tm0.all fun q => q.2.bareT || (match q.2 with
  | .lp k o => T.contains q.1 && (match look q.1 tm with | some (.lp k' o') => k' == k && o' == o | _ => false)
  | _ => false)

theorem tmOk_spec {T : List Nat} {tm0 tm : List (Nat × TV)} (h : tmOk T tm0 tm = true) {t : Nat} {x : TV} (hx : look t tm0 = some x) : x.bareT = true ∨ ∃ k o, x = .lp k o ∧ t ∈ T ∧ look t tm = some (.lp k o) := by
  unfold tmOk at h
  induction tm0 with
  | nil => cases hx
  | cons q l ih =>
    obtain ⟨j, y⟩ := q
    simp only [List.all_cons, Bool.and_eq_true] at h
    simp only [look] at hx
    split at hx
    · rename_i he
      injection hx with hx
      subst hx; subst he
      have h1 := h.1
      simp only [Bool.or_eq_true] at h1
      rcases h1 with h1 | h1
      · exact .inl h1
      · right
        split at h1
        · rename_i k o
          simp only [Bool.and_eq_true, List.contains_eq_mem, decide_eq_true_eq] at h1
          refine ⟨k, o, rfl, h1.1, ?_⟩
          have h2 := h1.2
          split at h2
          · rename_i k' o' he
            simp only [Bool.and_eq_true, beq_iff_eq] at h2
            rw [he, h2.1, h2.2]
          · cases h2
        · cases h1
    · exact ih h.2 hx

def AS.out (σ : AS) (bs : List Nat) (τ : AS) (m : Nat) : AS := { σ with bx := pick bs τ.bx, tb := τ.tb.filter fun q => (look q.1 (pick bs τ.bx)).isSome, sh := [], mks := m }

theorem RR.mix {cx cxR : Cx} {gh0 gh2 : Gh} {σ0 τ : AS} {a a2 : Act} {w w4 : World} (r0 : RR cx gh0 σ0 a w) (hy : cx.gl.y = none) (hf : Frm cx.B cx.S w w4) (hk : Keep gh0.lim w.heap gh2.lim w4.heap) (hl : ∀ b, b < cx.B → gh2.lim b = gh0.lim b)
    (ho : ∀ (k : Nat) (o : Obj), cx.w0.heap[k]? = some o → o.isCells = false → o.isWalk = false → w4.heap[k]? = some o) (r2 : RR cxR gh2 τ a2 w4) (hP : cxR.P = cx.P) (hB : cxR.B = cx.B) (T : List Nat) (hT : ∀ t ∈ T, a2.tmps.getD t undef = a.tmps.getD t undef)
    (htm : tmOk T σ0.tm τ.tm = true) (bs : List Nat) (hlp : lpOk (pick bs τ.bx) σ0.tm = true) (m : Nat) (ds : List Deferred) (hd : DefOk cx.B cx.df m ds w4) : RR cx gh2 (σ0.out bs τ m) { a with defers := ds } w4 := by
  have hsome : ∀ {k}, (look k (pick bs τ.bx)).isSome = true → (look k τ.bx).isSome = true := fun h => by
    obtain ⟨c, hc⟩ := Option.isSome_iff_exists.1 h
    simp [look_pick τ.bx _ c bs hc]
  have huses : ∀ {g e}, (σ0.out bs τ m).uses g e → τ.uses g e ∧ ∃ k j, (k, j, g, e) ∈ τ.tb := by
    rintro g e (⟨t, x, h⟩ | ⟨k, j, h⟩)
    · rcases tmOk_spec htm (show look t σ0.tm = _ from h) with h1 | ⟨k, o, h1, -⟩
      · cases h1
      · cases h1
    · have := (List.mem_filter.1 h).1
      exact ⟨.inr ⟨k, j, this⟩, k, j, this⟩
  refine { frm := r0.frm.trans hf, base := Nat.le_trans r0.base hf.size, limB := fun b hb => (hl b hb).trans (r0.limB b hb), size := r0.size, ex := ⟨r0.ex.keep.trans hk, hd, fun Y hY => (by rw [hy] at hY; cases hY), ⟨fun t q h => ?_, fun t t' q q' h => ?_⟩, r0.ex.fx, fun _ => ho, r0.ex.top⟩, gl := fun g c h => (r0.gl g c h).mono hk, tmps := ?_, boxes := fun k c h => ?_, inj := fun k k' h h' => r2.inj k k' (hsome h) (hsome h'), shs := fun b c h => (by cases h), apart := fun b k h => (by cases h), tbs := ?_, own := ?_, alone := fun g e g' e' h h' => r2.alone g e g' e' (huses h).1 (huses h').1 }
  · rcases tmOk_spec htm (show look t σ0.tm = _ from h) with h1 | ⟨k, o, h1, -⟩ <;> cases h1
  · rcases tmOk_spec htm (show look t σ0.tm = _ from h) with h1 | ⟨k, o, h1, -⟩ <;> cases h1
  · intro t x h
    have h0 : look t σ0.tm = some x := h
    have hs := tmOk_spec htm h0
    refine ⟨?_, fun k off he => by subst he; exact lpOk_spec hlp t k off h0⟩
    have h' := (r0.tmps t x h0).1
    cases x with
    | un => trivial
    | v y g =>
      rcases hs with hs | ⟨k, o, hs, -⟩
      · cases g with
        | none => exact ⟨h'.1.mono hk, by simp⟩
        | some g => cases hs
      · cases hs
    | bld l ns => exact ⟨h'.1.mono hk, h'.2⟩
    | it k9 => trivial
    | cl f ks => rcases hs with hs | ⟨_, _, hs, -⟩ <;> cases hs
    | lp k off =>
      rcases hs with hs | ⟨k', o', hs, ht, hl2⟩
      · cases hs
      · injection hs with e1 e2
        subst e1; subst e2
        have := (r2.tmps t _ hl2).1
        simp only [TRep] at this ⊢
        rw [hT t ht] at this
        exact this
  · have := r2.boxes k c (look_pick τ.bx k c bs h)
    rw [hB] at this
    exact this
  · intro k j g e h
    obtain ⟨h1, h2⟩ := List.mem_filter.1 h
    exact ⟨h2, (r2.tbs k j g e h1).2⟩
  · intro g e h
    have := r2.own g e (huses h).1
    rw [hP, hB] at this
    exact ⟨this.1, fun b hb => ⟨fun k hk' => (this.2 b hb).1 k (hsome hk'), rfl⟩⟩

end Go.Pv
end

section
/- A range over a function, the elements handed out to a body that is walked once. -/
namespace Go.Pv
open Go

theorem RR.step0 {cx : Cx} {gh : Gh} {τ : AS} {a : Act} {w w' : World} (r : RR cx gh τ a w) (hy : cx.gl.y = none) (hf : Frm cx.B cx.S w w')
    (hc : ∀ (k : Nat) (cs : Array Value) (e : TypeId) (g : Nat × Nat), w.heap[k]? = some (.cells cs e g) → w'.heap[k]? = w.heap[k]?) (hi : ∀ (k : Nat) (o : Obj), w.heap[k]? = some o → o.isItO = true → w'.heap[k]? = some o)
    (ho : ∀ (k : Nat) (o : Obj), cx.w0.heap[k]? = some o → o.isCells = false → o.isWalk = false → w'.heap[k]? = some o) (m : Nat) (ds : List Deferred) (hd : DefOk cx.B cx.df m ds w') : RR cx gh { τ with mks := m } { a with defers := ds } w' := by
  let cxB : Cx := { cx with lim := gh.lim, w0 := w', df := ds, fx := cx.fx, gl := { cx.gl with top := false } }
  have r1 := r.recx (cxB := cxB) rfl rfl rfl rfl hy rfl rfl rfl hc hi hf.size 0 τ.fx ds r.ex.fx ⟨[], rfl, ⟨rfl, List.nodup_nil⟩, fun D hD => (by cases hD)⟩
  have hkeep : Keep gh.lim w.heap gh.lim w'.heap := Keep.of_cells hc _
  exact { frm := r.frm.trans hf, base := r1.base, limB := r.limB, size := r1.size, ex := ⟨r.ex.keep.trans hkeep, hd, fun Y hY => (by rw [hy] at hY; cases hY), r1.ex.its.sub (fun _ _ h => h), r.ex.fx, fun _ => ho, r.ex.top⟩, gl := r1.gl, tmps := r1.tmps, boxes := r1.boxes, inj := r1.inj, shs := r1.shs, apart := r1.apart, tbs := r1.tbs, own := r1.own, alone := r1.alone }

def roundQ (P : Program) (gl : Gl) (σ : AS) (T : List Nat) (I : List AV → AS) (go : List AV → AV → Bool) (s : List AV) (x : AV) (Q : Exit → AS → Prop) : Exit → AS → Prop
  | .normal, τ => go s x = true ∧ tmOk T σ.tm τ.tm = true ∧ ∃ bs, lpOk (pick bs τ.bx) σ.tm = true ∧ σ.out bs τ σ.mks = I (s ++ [x])
  | .ret, τ => go s x = false ∧ tmOk T σ.tm τ.tm = true ∧ ∃ bs, lpOk (pick bs τ.bx) σ.tm = true ∧ AT P gl .ret (σ.out bs τ (σ.mks + 1)) Q
  | .exit id, τ => go s x = false ∧ tmOk T σ.tm τ.tm = true ∧ ∃ bs, lpOk (pick bs τ.bx) σ.tm = true ∧ AT P gl (.exit id) (σ.out bs τ (σ.mks + 1)) Q
  | _, _ => False

theorem putObj_frm {B : Nat} {S : Nat → Prop} (w : World) (l : Nat) (o : Obj) (h : B ≤ l) : Frm B S w (w.putObj l o) := ⟨rfl, rfl, rfl, by simp, fun k hk _ => World.putObj_heap_other (by omega)⟩

section
variable {w : World} {l : Nat} {rc : Loop} (h : w.heap[l]? = some (.loop rc)) (o : Obj)
include h
theorem loop_cells (k : Nat) (cs : Array Value) (e : TypeId) (g : Nat × Nat) (hk : w.heap[k]? = some (.cells cs e g)) : (w.putObj l o).heap[k]? = w.heap[k]? := World.putObj_heap_other (fun he => by rw [he, h] at hk; cases hk)
theorem loop_iter (k : Nat) (o' : Obj) (hk : w.heap[k]? = some o') (ho : o'.isItO = true) : (w.putObj l o).heap[k]? = some o' := (World.putObj_heap_other (fun he => by rw [he, h] at hk; cases hk; cases ho)).trans hk
theorem loop_def (k : Nat) (d : Option (List Deferred)) (hk : w.heap[k]? = some (.deferred d)) : (w.putObj l o).heap[k]? = some (.deferred d) := (World.putObj_heap_other (fun he => by rw [he, h] at hk; cases hk)).trans hk
theorem loop_keep (lim : Lim) : Keep lim w.heap lim (w.putObj l o).heap := Keep.of_cells (loop_cells h o) _
end

theorem AT_rangeFunc {P : Program} {gl : Gl} {σ : AS} {Q : Exit → AS → Prop} {g : Operand} {p : Tmp} {assign body : Code} {gf : FuncId} {caps : List AV} {tag : Option (Nat × Nat)} (hy : gl.y = none) (hrnd : gl.rnd = false) (hg : ev gl σ g = .v (.func gf caps) tag)
    (hp : p < σ.n ∧ p ∉ σ.fx) (T : List Nat) (hpT : p ∉ T) (el : List AV → AV → Prop) (go : List AV → AV → Bool) (fin : List AV × Bool)
    (hit : ∀ Y : Ys, Y.P = P → Y.go = go → Y.el = el → ∃ r, ValidY P (G1 gl.g Y) Y gf (.yld Y.l :: caps) ([], true) r fin) (I : List AV → AS) (hI0 : I [] = σ)
    (hround : ∀ s x, el s x → AT P { gl with rnd := true } assign { (I s).put (some p) (.v x none) with mks := 0, fx := T } (thenA (fun τ => AT P { gl with rnd := true } body τ (roundQ P gl σ T I go s x Q)) (fun _ _ => False)))
    (hdone : fin.2 = true → Q .normal { I fin.1 with mks := σ.mks + 1 }) (htp : gl.top = false := by rfl) : AT P gl (.rangeFunc g #[p] assign body) σ Q := by
  intro cx ro n a w hP hg' hro r
  obtain rfl := hro hrnd
  subst hP; subst hg'
  obtain ⟨gh, r⟩ := r
  have hev := r.ev g
  rw [hg] at hev
  obtain ⟨cs, hcs, hcaps⟩ := Rep.func_iff.1 hev.1
  refine wpIn_rangeFunc ?_
  intro fn _
  obtain ⟨rec, hrec⟩ : ∃ rec : LoopState → Option Code → Loop, rec = fun st pe => { state := st, pending := pe, fn, tmps := a.tmps, params := #[p], assign, body, defers := w.heap.size } := ⟨_, rfl⟩
  obtain ⟨W1, hW1⟩ : ∃ W1, (w.alloc (.deferred (some []))).alloc (.loop (rec .ready none)) = W1 := ⟨_, rfl⟩
  generalize hD : w.heap.size = D at *
  have hlB : cx.B ≤ D + 1 := by have := r.base; omega
  have hL1 : W1.heap[D + 1]? = some (.loop (rec .ready none)) := by
    rw [← hW1, ← hD]; have := World.alloc_heap_new (w.alloc (.deferred (some []))) (.loop (rec .ready none)); rwa [World.size_alloc] at this
  have hK1 : W1.heap[D]? = some (.deferred (some [])) := by
    rw [← hW1, ← hD]; exact (heap_alloc_old _ _ (by simp)).trans (heap_alloc_new w _)
  have hf1 : Frm w.heap.size (fun _ => False) w W1 := by
    rw [← hW1]
    exact (Frm.alloc w _).trans ((Frm.alloc (w.alloc (.deferred (some []))) _).mono (by simp) (fun _ _ h => h))
  have rW := r.grow (w' := W1) gh.lim hf1 (fun _ _ => rfl)
  -- the marks that lie already lie below
  have hold : ∀ (k : Nat) (o : Obj), cx.w0.heap[k]? = some o → k ≠ D + 1 := fun k o hk he => by
    have h1 := (Array.getElem?_eq_some_iff.1 hk).1
    have h2 := r.frm.size
    omega
  obtain ⟨Ds, hds, hnd, hDs⟩ := r.ex.defers
  have hDlt : ∀ E ∈ Ds, E < D := fun E hE => by have := (Array.getElem?_eq_some_iff.1 (hDs E hE).2).1; omega
  let J : List AV → Bool → Lim → World → Prop := fun s b lim w' =>
    (∀ E ∈ Ds, w'.heap[E]? = some (.deferred (some []))) ∧ w'.heap[D]? = some (.deferred (some [])) ∧
    match b with
    | true => ∃ gh' : Gh, gh'.lim = lim ∧ (∃ bx tb sh, I s = { σ with bx := bx, tb := tb, sh := sh }) ∧ RR cx gh' (I s) a w' ∧ w'.heap[D + 1]? = some (.loop (rec .ready none))
    | false => ∃ (gh' : Gh) (τ : AS) (c : Code), gh'.lim = lim ∧ AT cx.P cx.gl c { τ with mks := σ.mks + 1 } Q ∧ RR cx gh' τ a w' ∧ w'.heap[D + 1]? = some (.loop (rec .done (some c)))
  have hgrowJ : ∀ s b lim lim' w w', J s b lim w → Frm w.heap.size (fun _ => False) w w' → (∀ k, k < w.heap.size → lim' k = lim k) → J s b lim' w' := by
    rintro s b lim lim' w2 w3 ⟨h1, h2, h3⟩ hf hl
    have hin : ∀ {k : Nat} {o : Obj}, w2.heap[k]? = some o → w3.heap[k]? = some o := fun hk => (hf.block _ (Array.getElem?_eq_some_iff.1 hk).1 id).trans hk
    refine ⟨fun E hE => hin (h1 E hE), hin h2, ?_⟩
    cases b with
    | true =>
      obtain ⟨gh', rfl, hgood, r', hl'⟩ := h3
      exact ⟨_, rfl, hgood, r'.grow lim' hf hl, hin hl'⟩
    | false =>
      obtain ⟨gh', τ, c, rfl, hat, r', hl'⟩ := h3
      exact ⟨_, τ, c, rfl, hat, r'.grow lim' hf hl, hin hl'⟩
  have hrdJ : ∀ n s lim w v x, J s true lim w → Rep lim w.heap v x → el s x → YieldAt (Fw none) n cx.P (D + 1) #[v] w fun e w' => ∃ lim', e = .returned (.bool (go s x)) ∧ J (s ++ [x]) (go s x) lim' w' ∧ Keep lim w.heap lim' w'.heap ∧ Frm 0 (fun _ => True) w w' := by
    rintro n' s lim w2 v x ⟨hE2, hD2, gh2, rfl, ⟨bx, tb, sh, hI⟩, r2, hl2⟩ hx hel
    have hyl := run_yield (P := cx.P) (args := #[v]) hl2 (by rw [hrec]; simp)
    refine ⟨_, _, _, _, hyl, ?_⟩
    rw [hrec]
    refine roundIn_of_wpIn (F := Fw none) trivial ?_
    have hIs : ∀ {α : Type} (f : AS → α), f (I s) = f { σ with bx := bx, tb := tb, sh := sh } := fun f => by rw [hI]
    let fx : Nat → Option Value := fun t => if t ∈ T then some (a.tmps.getD t undef) else none
    let cxr : Cx := { cx with lim := gh2.lim, w0 := w2, df := [], gl := { cx.gl with rnd := true }, fx := fx }
    have rp := r2.put_v (some p) (fun t ht => by injection ht with ht; subst ht; rw [hIs AS.n, hIs AS.fx]; exact hp) hx
    have rs := rp.recx (cxB := cxr) rfl rfl rfl rfl hy htp rfl rfl (fun _ _ _ _ _ => rfl) (fun _ _ h _ => h) (Nat.le_refl _) 0 T [] (fun t u ht => by
      simp only [cxr, fx] at ht
      split at ht
      · rename_i hmem
        injection ht with ht
        exact ⟨hmem, by rw [getD_put_ne a (fun he : p = t => hpT (he ▸ hmem))]; exact ht⟩
      · cases ht) ⟨[], rfl, ⟨rfl, List.nodup_nil⟩, fun D hD => (by cases hD)⟩
    have hstart := hround s x hel cxr (some (D + 1)) n' { tmps := a.tmps.setIfInBounds p v, defers := [] } w2 rfl rfl (fun h => by cases h) ⟨gh2, rs⟩
    have htm : (Array.foldl (fun tmps x => match x with | (t, a) => tmps.setIfInBounds t a) a.tmps (#[p].zip #[v])) = a.tmps.setIfInBounds p v := by simp [Array.zip]
    dsimp only
    rw [htm]
    refine wpIn_mono hstart fun e a1 w1 ⟨τ1, hth, gh1, r1⟩ => ?_
    cases e with
    | exit id => exact hth.elim
    | goto t => exact hth.elim
    | ret => exact hth.elim
    | panic ch => exact hth.elim
    | outgrown => exact hth.elim
    | normal =>
      have hoth1 := r1.ex.oth hy
      have hl1 := hoth1 (D + 1) _ hl2 rfl rfl
      have hD1 := hoth1 D _ hD2 rfl rfl
      refine ⟨_, run_beginRound hl1 (by rw [hrec]), ?_⟩
      generalize hbusy : ({ rec .ready none with state := .busy } : Loop) = rb
      have hlt1 := (Array.getElem?_eq_some_iff.1 hl1).1
      let cxr2 : Cx := { cxr with lim := gh1.lim, w0 := w1.putObj (D + 1) (.loop rb) }
      have r1' := r1.recx (cxB := cxr2) rfl rfl rfl rfl hy htp rfl rfl (loop_cells hl1 _) (loop_iter hl1 _) (Nat.le_of_eq World.putObj_size.symm) τ1.mks τ1.fx a1.defers r1.ex.fx (by
        obtain ⟨Es, e1, e2, e3⟩ := r1.ex.defers
        exact ⟨Es, e1, e2, fun E hE => ⟨(e3 E hE).1, loop_def hl1 _ E _ (e3 E hE).2⟩⟩)
      refine wpIn_mono (hth cxr2 (some (D + 1)) n' a1 _ rfl rfl (fun h => by cases h) ⟨gh1, r1'⟩) fun e a2 w3 ⟨τ2, hq, gh3, r3⟩ => ?_
      have hoth3 := r3.ex.oth hy
      have hl3 := hoth3 (D + 1) _ (World.putObj_heap_same hlt1) rfl rfl
      have hD3 := hoth3 D _ (loop_def hl1 _ D _ hD1) rfl rfl
      have hE3 : ∀ E ∈ Ds, w3.heap[E]? = some (.deferred (some [])) := fun E hE => hoth3 E _ (loop_def hl1 _ E _ (hoth1 E _ (hE2 E hE) rfl rfl)) rfl rfl
      have hT : ∀ t ∈ T, a2.tmps.getD t undef = a.tmps.getD t undef := fun t ht => (r3.ex.fx t (a.tmps.getD t undef) (by simp only [cxr2, cxr, fx, ht, if_true])).2
      have frm3 : Frm cx.B cx.S w2 w3 := (r1.frm.trans (putObj_frm w1 (D + 1) (.loop rb) hlB)).trans r3.frm
      have keep3 : Keep gh2.lim w2.heap gh3.lim w3.heap := (r1.ex.keep.trans (loop_keep hl1 _ _)).trans r3.ex.keep
      have lim3 : ∀ b, b < cx.B → gh3.lim b = gh2.lim b := fun b hb => (r3.limB b hb).trans (r1.limB b hb)
      -- the round's end
      have fin : ∀ (jump : Option Code) (bs : List Nat), tmOk T σ.tm τ2.tm = true → lpOk (pick bs τ2.bx) σ.tm = true → ∀ st, st = (if jump.isNone then LoopState.ready else .done) →
          (Instr.endRound (D + 1) jump).run cx.P w3 = .ok (.bool jump.isNone) (w3.putObj (D + 1) (.loop (rec st jump))) ∧
          (∀ E ∈ Ds, (w3.putObj (D + 1) (.loop (rec st jump))).heap[E]? = some (.deferred (some []))) ∧ (w3.putObj (D + 1) (.loop (rec st jump))).heap[D]? = some (.deferred (some [])) ∧
          RR cx gh3 (σ.out bs τ2 σ.mks) a (w3.putObj (D + 1) (.loop (rec st jump))) ∧ (w3.putObj (D + 1) (.loop (rec st jump))).heap[D + 1]? = some (.loop (rec st jump)) ∧
          Keep gh2.lim w2.heap gh3.lim (w3.putObj (D + 1) (.loop (rec st jump))).heap ∧ Frm 0 (fun _ => True) w2 (w3.putObj (D + 1) (.loop (rec st jump))) := by
        intro jump bs htm hlp st hst
        have hrun := run_endRound (P := cx.P) jump hl3
        have hrb : ({ rb with state := if jump.isNone then .ready else .done, pending := jump } : Loop) = rec st jump := by rw [← hbusy, hrec, hst]
        rw [hrb] at hrun
        have hlt3 := (Array.getElem?_eq_some_iff.1 hl3).1
        let cx4 : Cx := { cxr2 with lim := gh3.lim, w0 := w3.putObj (D + 1) (.loop (rec st jump)) }
        have r4 := r3.recx (cxB := cx4) rfl rfl rfl rfl hy htp rfl rfl (loop_cells hl3 _) (loop_iter hl3 _) (Nat.le_of_eq World.putObj_size.symm) τ2.mks τ2.fx a2.defers r3.ex.fx (by
          obtain ⟨Es, e1, e2, e3⟩ := r3.ex.defers
          exact ⟨Es, e1, e2, fun E hE => ⟨(e3 E hE).1, loop_def hl3 _ E _ (e3 E hE).2⟩⟩)
        have hfr : Frm cx.B cx.S w2 (w3.putObj (D + 1) (.loop (rec st jump))) := frm3.trans (putObj_frm w3 (D + 1) _ hlB)
        have rm := r2.mix hy hfr (keep3.trans (loop_keep hl3 _ _)) lim3 (fun k o hk hc hw => by
            have hkn := hold k o hk
            have h1 := r2.ex.oth hy k o hk hc hw
            have h2 := hoth1 k o h1 hc hw
            have h3 := hoth3 k o ((World.putObj_heap_other hkn).trans h2) hc hw
            exact (World.putObj_heap_other hkn).trans h3) r4 rfl rfl T hT (by rw [hIs AS.tm]; exact htm) bs (by rw [hIs AS.tm]; exact hlp) σ.mks a.defers
          ⟨Ds, hds, hnd, fun E hE => ⟨(hDs E hE).1, loop_def hl3 _ E _ (hE3 E hE)⟩⟩
        rw [hI] at rm
        exact ⟨hrun, fun E hE => loop_def hl3 _ E _ (hE3 E hE), loop_def hl3 _ D _ hD3, rm, World.putObj_heap_same hlt3, keep3.trans (loop_keep hl3 _ _), ⟨hfr.os, hfr.tape, hfr.output, hfr.size, fun k hk => (by omega)⟩⟩
      have left : ∀ (c : Code) (bs : List Nat), go s x = false → tmOk T σ.tm τ2.tm = true → lpOk (pick bs τ2.bx) σ.tm = true → AT cx.P cx.gl c (σ.out bs τ2 (σ.mks + 1)) Q →
          ∃ v' w', (Instr.endRound (D + 1) (some c)).run cx.P w3 = .ok v' w' ∧ ∃ lim', Ending.returned v' = .returned (.bool (go s x)) ∧ J (s ++ [x]) (go s x) lim' w' ∧ Keep gh2.lim w2.heap lim' w'.heap ∧ Frm 0 (fun _ => True) w2 w' := by
        intro c bs hgo h1 h2 hat
        obtain ⟨f1, f2, f3, f4, f5, f6, f7⟩ := fin (some c) bs h1 h2 .done rfl
        refine ⟨_, _, f1, gh3.lim, by rw [hgo]; rfl, ?_, f6, f7⟩
        rw [hgo]
        exact ⟨f2, f3, gh3, _, c, rfl, hat, f4, f5⟩
      cases e with
      | normal =>
        obtain ⟨hgo, h1, bs, h2, h3⟩ := hq
        obtain ⟨f1, f2, f3, f4, f5, f6, f7⟩ := fin none bs h1 h2 .ready rfl
        refine ⟨_, _, f1, gh3.lim, by rw [hgo]; rfl, ?_, f6, f7⟩
        rw [hgo]
        rw [h3] at f4
        exact ⟨f2, f3, gh3, rfl, ⟨_, _, _, h3.symm⟩, f4, f5⟩
      | ret => obtain ⟨hgo, h1, bs, h2, h3⟩ := hq; exact left .ret bs hgo h1 h2 h3
      | exit id => obtain ⟨hgo, h1, bs, h2, h3⟩ := hq; exact left (.exit id) bs hgo h1 h2 h3
      | goto t => exact hq.elim
      | panic ch => exact hq.elim
      | outgrown => exact hq.elim
  let Y : Ys := { P := cx.P, l := D + 1, go := go, el := el, J := J, grow := hgrowJ, rd := hrdJ }
  obtain ⟨res, hfn, hval⟩ := hit Y rfl rfl rfl
  have hJ0 : J [] true gh.lim W1 := by
    refine ⟨fun E hE => (hf1.block E (by have := hDlt E hE; omega) id).trans (hDs E hE).2, hK1, { gh with lim := gh.lim }, rfl, ⟨σ.bx, σ.tb, σ.sh, hI0⟩, ?_, hL1⟩
    rw [hI0]
    exact rW
  have hcalls := hval gh.lim W1 (.func (.yield (D + 1)) #[] #[] :: cs.toList) (fun g c h => rW.gl g c h) (.cons (.yld _) (hcaps.mono (Keep.of_same (fun _ _ => rfl) (fun b hb => hf1.block b hb id)))) hJ0
  have hinv : (callFunc gf (#[.func (.yield (D + 1)) #[] #[]] ++ cs)).run cx.P W1 = .ok (.enter gf (#[.func (.yield (D + 1)) #[] #[]] ++ cs)) W1 := by
    have hfn' : ∃ fn, cx.P.funcs[gf]? = some fn ∧ fn.body.isSome = true ∧ (fn.name == "runtime.NumGoroutine") = false := by
      unfold fnOk at hfn
      split at hfn
      · rename_i fn hq
        simp only [Bool.and_eq_true, Bool.not_eq_true'] at hfn
        exact ⟨fn, hq, hfn.1, hfn.2⟩
      · cases hfn
    obtain ⟨fn', hq, hb, hnm⟩ := hfn'
    have hb' : fn'.body.isNone = false := by simpa using hb
    have hnm' : ¬ fn'.name = "runtime.NumGoroutine" := by simpa using hnm
    simp only [callFunc, Sem.run_bind, Sem.run_pure, Result.andThen_ok, run_program, hq, hnm', hb', Bool.false_eq_true, if_false, beq_iff_eq]
  refine ⟨D + 1, [markOf D], W1, { target := .fn (.func gf) cs, args := #[.func (.yield (D + 1)) #[] #[]] }, W1, gf, #[.func (.yield (D + 1)) #[] #[]] ++ cs, W1, ?_, ?_, fun _ _ => trivial, ?_, fun h => (by cases h), ?_⟩
  · have := run_enterLoop_outer (P := cx.P) (w := w) fn a.tmps #[p] assign body
    rw [hD] at this
    rw [← hW1, hrec]
    exact this
  · simp only [resolve, rangeCall, hcs, Deferred.ofValue]
    simp [Act.eval]
  · simp only [invoke]
    exact hinv
  · have hsame : (Value.func (.yield (D + 1)) #[] #[] :: cs.toList).toArray = #[.func (.yield (D + 1)) #[] #[]] ++ cs := by apply Array.ext'; simp
    rw [hsame] at hcalls
    refine (callsIn_fw hcalls).mono fun e w' => ?_
    rintro ⟨v, lim', rfl, hf, hkeep, hres, hE', hD', hj⟩
    have step : ∀ (gh' : Gh) (τ : AS) (rc : Loop), RR cx gh' τ a w' → w'.heap[D + 1]? = some (.loop rc) → R cx { τ with mks := σ.mks + 1 } { a with defers := [markOf D] ++ a.defers } (w'.putObj (D + 1) (.loop { rc with state := .exhausted })) := by
      intro gh' τ rc r' hl'
      refine ⟨gh', r'.step0 hy (putObj_frm w' (D + 1) _ hlB) (loop_cells hl' _) (loop_iter hl' _) (fun k o hk hc hw => (World.putObj_heap_other (hold k o hk)).trans (r'.ex.oth hy k o hk hc hw)) (σ.mks + 1) _ ?_⟩
      refine ⟨D :: Ds, by rw [hds]; rfl, ⟨by simp [hnd.1], List.nodup_cons.2 ⟨fun h => Nat.lt_irrefl _ (hDlt D h), hnd.2⟩⟩, fun E hE => ?_⟩
      rcases List.mem_cons.1 hE with rfl | hE
      · exact ⟨by have := r.base; omega, loop_def hl' _ E _ hD'⟩
      · exact ⟨(hDs E hE).1, loop_def hl' _ E _ (hE' E hE)⟩
    obtain ⟨fs, fb⟩ := fin
    cases fb with
    | true =>
      obtain ⟨gh', hlim, hgood, r', hl'⟩ := hj
      have hrun := run_endLoop (P := cx.P) hl' (by rw [hrec]; simp)
      have hrun := hrun.trans (congrArg (fun z => Result.ok z _) (show (rec .ready none).pending = none by rw [hrec]))
      exact ⟨none, _, hrun, _, hdone rfl, step gh' _ _ r' hl'⟩
    | false =>
      obtain ⟨gh', τ, c, hlim, hat, r', hl'⟩ := hj
      have hrun := run_endLoop (P := cx.P) hl' (by rw [hrec]; simp)
      have hrun := hrun.trans (congrArg (fun z => Result.ok z _) (show (rec .done (some c)).pending = some c by rw [hrec]))
      exact ⟨some c, _, hrun, hat cx none n _ _ rfl rfl (fun _ => rfl) (step gh' τ _ r' hl')⟩

end Go.Pv
end

import Derived.Test.YtocmdbojefgpbaaGreatDoorPvN
import Derived.Scope
set_option linter.all false
section
/- Code over the abstract state: statements, loops, functions. -/
namespace Go.Pv
open Go

def G0 (g : Nat → Option (List AV)) (rnd : Bool) : Gl := ⟨g, none, rnd, false⟩
@[simp] theorem Gz_g (g : Nat → Option (List AV)) (rnd : Bool) : (G0 g rnd).g = g := rfl
@[simp] theorem Gz_y (g : Nat → Option (List AV)) (rnd : Bool) : (G0 g rnd).y = none := rfl
def G1 (g : Nat → Option (List AV)) (Y : Ys) : Gl := ⟨g, some Y, false, false⟩
@[simp] theorem Gw_g (g : Nat → Option (List AV)) (Y : Ys) : (G1 g Y).g = g := rfl
@[simp] theorem Gw_y (g : Nat → Option (List AV)) (Y : Ys) : (G1 g Y).y = some Y := rfl

def AT (P : Program) (gl : Gl) (c : Code) (σ : AS) (Q : Exit → AS → Prop) : Prop :=
  ∀ (cx : Cx) (ro : Option Nat) (n : Nat) (a : Act) (w : World), cx.P = P → cx.gl = gl → (gl.rnd = false → ro = none) → R cx σ a w → c.wpIn (Fw ro) n P (fun e a' w' => ∃ σ', Q e σ' ∧ R cx σ' a' w') a w

section
variable {P : Program} {gl : Gl} {σ : AS} {Q : Exit → AS → Prop}

def thenA (next : AS → Prop) (Q : Exit → AS → Prop) : Exit → AS → Prop
  | .normal, σ => next σ
  | e, σ => Q e σ

theorem AT_mono {c : Code} {Q' : Exit → AS → Prop} (h : AT P gl c σ Q) (hq : ∀ e s, Q e s → Q' e s) : AT P gl c σ Q' :=
  fun cx ro n a w hP hg hro r => wpIn_mono (h cx ro n a w hP hg hro r) fun _ _ _ ⟨s, hs, r'⟩ => ⟨s, hq _ _ hs, r'⟩

theorem AT_weak {c : Code} {σ' : AS} (hle : σ'.le σ) (h : AT P gl c σ' Q) : AT P gl c σ Q :=
  fun cx ro n a w hP hg hro r => h cx ro n a w hP hg hro (let ⟨gh, rr⟩ := r; ⟨gh, rr.weak hle⟩)

theorem AT_keep {c : Code} (ts bs : List Nat) (hok : lpOk (pick bs σ.bx) (pick ts σ.tm) = true) (h : AT P gl c (σ.keep ts bs) Q) : AT P gl c σ Q := AT_weak (AS.keep_le hok) h

theorem AT_skip (h : Q .normal σ) : AT P gl .skip σ Q := fun _ _ _ _ _ _ _ _ r => wpIn_skip ⟨σ, h, r⟩
theorem AT_ret (h : Q .ret σ) : AT P gl .ret σ Q := fun _ _ _ _ _ _ _ _ r => wpIn_ret ⟨σ, h, r⟩
theorem AT_exit {id : Nat} (h : Q (.exit id) σ) : AT P gl (.exit id) σ Q := fun _ _ _ _ _ _ _ _ r => wpIn_exit ⟨σ, h, r⟩

theorem AT_seq {x y : Code} (h : AT P gl x σ (thenA (fun s => AT P gl y s Q) Q)) : AT P gl (.seq x y) σ Q := by
  intro cx ro n a w hP hg hro r
  refine wpIn_seq (wpIn_mono (h cx ro n a w hP hg hro r) fun e a' w' ⟨s, hs, r'⟩ => ?_)
  cases e with
  | normal => exact hs cx ro n a' w' hP hg hro r'
  | exit id => exact ⟨s, hs, r'⟩
  | goto l => exact ⟨s, hs, r'⟩
  | ret => exact ⟨s, hs, r'⟩
  | panic ch => exact ⟨s, hs, r'⟩
  | outgrown => exact ⟨s, hs, r'⟩

theorem AT_seq_k {x y : Code} (h : ∀ K : AS → Prop, (∀ s, AT P gl y s Q → K s) → AT P gl x σ (thenA K Q)) : AT P gl (.seq x y) σ Q := AT_seq (h _ fun _ h => h)

theorem AT_cond {c : Operand} {x y : Code} {b : Bool} {g : Option (Nat × Nat)} (hc : ev gl σ c = .v (.bool b) g) (ht : b = true → AT P gl x σ Q) (hf : b = false → AT P gl y σ Q) : AT P gl (.cond c x y) σ Q := by
  intro cx ro n a w hP hg hro r
  obtain ⟨gh, rr⟩ := r
  have h1 := rr.ev c
  rw [hg, hc] at h1
  have hb := rep_bool h1.1
  refine wpIn_cond hb ?_
  cases b with
  | true => exact ht rfl cx ro n a w hP hg hro ⟨gh, rr⟩
  | false => exact hf rfl cx ro n a w hP hg hro ⟨gh, rr⟩

def inBlockA (id : Nat) (Q : Exit → AS → Prop) : Exit → AS → Prop
  | .exit id', s => if id' = id then Q .normal s else Q (.exit id') s
  | e, s => Q e s

theorem AT_block {id : Nat} {c : Code} (h : AT P gl c σ (inBlockA id Q)) : AT P gl (.block id c) σ Q := by
  intro cx ro n a w hP hg hro r
  refine wpIn_block (wpIn_mono (h cx ro n a w hP hg hro r) fun e a' w' ⟨s, hs, r'⟩ => ?_)
  cases e with
  | exit id' =>
    simp only [inBlockA] at hs
    simp only [Exit.inBlock]
    split at hs
    · rename_i he; rw [if_pos he]; exact ⟨s, hs, r'⟩
    · rename_i he; rw [if_neg he]; exact ⟨s, hs, r'⟩
  | normal => exact ⟨s, hs, r'⟩
  | goto l => exact ⟨s, hs, r'⟩
  | ret => exact ⟨s, hs, r'⟩
  | panic ch => exact ⟨s, hs, r'⟩
  | outgrown => exact ⟨s, hs, r'⟩

theorem stepR_scope {P : Program} {b : Frame} {a : Act} {k : List Item} {cs : List Frame} {w : World} {c : Code} :
    step P (lone (b.atR a (.code (.scope c) :: k)) cs w) = .next (lone (b.atR a (.code c :: .inScope c :: k)) cs w) :=
  step_lone_go (by simp [stepG, stepG.exec, Frame.atR])
theorem stepR_inScope {P : Program} {b : Frame} {a : Act} {k : List Item} {cs : List Frame} {w : World} {c : Code} :
    step P (lone (b.atR a (.inScope c :: k)) cs w) = .next (lone (b.atR a k) cs w) :=
  step_lone_go (by simp [stepG, stepG.exec, Frame.atR])

theorem wpIn_scope_straight {F : Fence} {n : Nat} {P : Program} {Q : Exit → Act → World → Prop} {a : Act} {w : World} {c : Code} (h : c.wpIn F n P (Exit.noGoto Q) a w) : (Code.scope c).wpIn F n P Q a w := by
  intro b k cs hro hb hr
  have h0 : (lone (b.atR a (.code (.scope c) :: k)) cs w).fenced P F := fenced_calm hb hr rfl
  obtain ⟨e, a₁, w₁, hq, harr⟩ := h b (.inScope c :: k) cs hro hb hr
  cases e with
  | normal => exact ⟨.normal, a₁, w₁, hq, .head h0 stepR_scope (StepsIn.trans harr (.one (fenced_calm hb hr rfl) stepR_inScope))⟩
  | exit id =>
    have hx : exitTo id (.inScope c :: k) = exitTo id k := by simp [exitTo]
    exact ⟨_, a₁, w₁, hq, fun k' hk => .head h0 stepR_scope (harr.1 k' (by rw [hx]; exact hk)),
      fun hr' hk => let ⟨k₁, h1, h2⟩ := harr.2 hr' (by rw [hx]; exact hk); ⟨k₁, h1, .head h0 stepR_scope h2⟩⟩
  | goto l => exact hq.elim
  | ret => exact ⟨_, a₁, w₁, hq, .of_steps (.one h0 stepR_scope) harr⟩
  | panic ch => exact ⟨_, a₁, w₁, hq, .of_steps (.one h0 stepR_scope) harr⟩
  | outgrown => exact ⟨_, a₁, w₁, hq, .of_steps (.one h0 stepR_scope) harr⟩

theorem AT_label {l : Nat} (h : Q .normal σ) : AT P gl (.label l) σ Q := fun _ _ _ _ _ _ _ _ r => wpIn_label ⟨σ, h, r⟩

def noGotoA (Q : Exit → AS → Prop) : Exit → AS → Prop
  | .goto _, _ => False
  | e, s => Q e s

theorem AT_scope {c : Code} (h : AT P gl c σ (noGotoA Q)) : AT P gl (.scope c) σ Q := by
  intro cx ro n a w hP hg hro r
  refine wpIn_scope_straight (wpIn_mono (h cx ro n a w hP hg hro r) fun e a' w' ⟨s, hs, r'⟩ => ?_)
  cases e with
  | goto l => exact hs.elim
  | exit id => exact ⟨s, hs, r'⟩
  | normal => exact ⟨s, hs, r'⟩
  | ret => exact ⟨s, hs, r'⟩
  | panic ch => exact ⟨s, hs, r'⟩
  | outgrown => exact ⟨s, hs, r'⟩

theorem wpIn_loopG {F : Fence} {n : Nat} {c : Code} {Q : Exit → Act → World → Prop} (J : Nat → Act → World → Prop) (j0 : Nat) {a : Act} {w : World} (h₀ : J j0 a w)
    (round : ∀ j a w, J j a w → c.wpIn F n P (Exit.then (fun a' w' => ∃ m, m < j ∧ J m a' w') Q) a w) : (Code.loop c).wpIn F n P Q a w := by
  intro b k cs hro hb hr
  have key : ∀ j a w, J j a w →
      ∃ e a' w', Q e a' w' ∧ ArrivesIn (Machine.fenced P F) P (lone (b.atR a (.code c :: .inLoop c :: k)) cs w) b k cs e a' w' := by
    intro j
    induction j using Nat.strongRecOn with
    | _ j ih =>
      intro a w hI
      obtain ⟨e, a₁, w₁, hq, harr⟩ := round j a w hI b (.inLoop c :: k) cs hro hb hr
      cases e with
      | normal =>
        obtain ⟨m, hlt, hI₁⟩ := hq
        obtain ⟨e₂, a₂, w₂, hq₂, harr₂⟩ := ih m hlt a₁ w₁ hI₁
        exact ⟨e₂, a₂, w₂, hq₂, .of_steps (StepsIn.trans harr (.one (fenced_calm hb hr rfl) stepR_inLoop)) harr₂⟩
      | exit id => exact ⟨_, a₁, w₁, hq, .pass (x := .inLoop c) rfl (fun _ _ => .inl (by simp)) harr⟩
      | goto l => exact ⟨_, a₁, w₁, hq, .pass (x := .inLoop c) rfl (fun _ _ => .inl (by simp)) harr⟩
      | ret => exact ⟨_, a₁, w₁, hq, .pass (x := .inLoop c) rfl (fun _ _ => .inl (by simp)) harr⟩
      | panic ch => exact ⟨_, a₁, w₁, hq, .pass (x := .inLoop c) rfl (fun _ _ => .inl (by simp)) harr⟩
      | outgrown => exact ⟨_, a₁, w₁, hq, .pass (x := .inLoop c) rfl (fun _ _ => .inl (by simp)) harr⟩
  obtain ⟨e, a', w', hq, harr⟩ := key j0 a w h₀
  exact ⟨e, a', w', hq, .of_steps (.one (fenced_calm hb hr rfl) stepR_loop) harr⟩

theorem AT_loop {c : Code} (I : Nat → AS → Prop) (j0 : Nat) (h0 : I j0 σ) (round : ∀ j s, I j s → AT P gl c s (thenA (fun s' => ∃ m, m < j ∧ I m s') Q)) : AT P gl (.loop c) σ Q := by
  intro cx ro n a w hP hg hro r
  refine wpIn_loopG (fun j a w => ∃ s, I j s ∧ R cx s a w) j0 ⟨σ, h0, r⟩ fun j a w ⟨s, hI, r⟩ => ?_
  refine wpIn_mono (round j s hI cx ro n a w hP hg hro r) fun e a' w' ⟨s', hs, r'⟩ => ?_
  cases e with
  | normal => obtain ⟨m, hm, hI'⟩ := hs; exact ⟨m, hm, s', hI', r'⟩
  | exit id => exact ⟨s', hs, r'⟩
  | goto l => exact ⟨s', hs, r'⟩
  | ret => exact ⟨s', hs, r'⟩
  | panic ch => exact ⟨s', hs, r'⟩
  | outgrown => exact ⟨s', hs, r'⟩

theorem AT_loopK {c : Code} (ts bs : List Nat) (I : Nat → AS → Prop) (j0 : Nat) (hok : lpOk (pick bs σ.bx) (pick ts σ.tm) = true) (h0 : I j0 (σ.keep ts bs))
    (round : ∀ j s, I j s → AT P gl c s (thenA (fun s' => lpOk (pick bs s'.bx) (pick ts s'.tm) = true ∧ ∃ m, m < j ∧ I m (s'.keep ts bs)) Q)) : AT P gl (.loop c) σ Q := by
  refine AT_keep ts bs hok (AT_loop (fun j s => I j s) j0 h0 fun j s hI => ?_)
  intro cx ro n a w hP hg hro r
  refine wpIn_mono (round j s hI cx ro n a w hP hg hro r) fun e a' w' ⟨s', hs, r'⟩ => ?_
  cases e with
  | normal =>
    obtain ⟨h1, m, hm, hI'⟩ := hs
    obtain ⟨gh, rr⟩ := r'
    exact ⟨s'.keep ts bs, ⟨m, hm, hI'⟩, gh, rr.weak (AS.keep_le h1)⟩
  | exit id => exact ⟨s', hs, r'⟩
  | goto l => exact ⟨s', hs, r'⟩
  | ret => exact ⟨s', hs, r'⟩
  | panic ch => exact ⟨s', hs, r'⟩
  | outgrown => exact ⟨s', hs, r'⟩

theorem AT_region {id : Nat} {l : List Oper} (h : RV P gl l.toArray l σ (Q .normal)) : AT P gl (.region id l.toArray false) σ Q := by
  intro cx ro n a w hP hg hro r
  subst hP; subst hg
  exact region_sound (K := Q .normal) (fun s a w hk r => ⟨s, hk, r⟩) r (by simpa using h)

theorem AT_draw_m {id : Nat} {l : List Oper} (b : Bool) (m : List (Nat × Nat)) (hm : P.follows .mixedOrders = true) (hok : lexOkM b m l.toArray = true) (him : Iv b m σ) (h : RVd P gl l.toArray l { σ with hint := [] } fun s => Q .normal { s with hint := σ.hint }) : AT P gl (.region id l.toArray true) σ Q := by
  intro cx ro n a w hP hg hro r
  subst hP; subst hg
  exact region_draw_sound (K := Q .normal) b m hm hok him (fun s a w hk r => ⟨s, hk, r⟩) r (by simpa using h)
theorem AT_draw {id : Nat} {l : List Oper} (hm : P.follows .mixedOrders = true) (hok : lexOk l.toArray = true) (h : RVd P gl l.toArray l { σ with hint := [] } fun s => Q .normal { s with hint := σ.hint }) : AT P gl (.region id l.toArray true) σ Q :=
  AT_draw_m false [] hm hok ⟨rfl, fun h => by cases h⟩ h

theorem AT_region_q {id : Nat} {l : List Oper} (h : ∀ K : AS → Prop, (∀ s, Q .normal s → K s) → RV P gl l.toArray l σ K) : AT P gl (.region id l.toArray false) σ Q := AT_region (h _ fun _ h => h)

theorem AT_seq_region {id : Nat} {l : List Oper} {y : Code} (h : ∀ K : AS → Prop, (∀ s, AT P gl y s Q → K s) → RV P gl l.toArray l σ K) : AT P gl (.seq (.region id l.toArray false) y) σ Q :=
  AT_seq (AT_region (h _ fun _ h => h))

theorem sr {id : Nat} {l : List Oper} {y : Code} (h : ∀ K : AS → Prop, (∀ s, AT P gl y s Q → K s) → RV P gl l.toArray l σ K) : AT P gl (.seq (.region id l.toArray false) y) σ Q := AT_seq_region h
theorem AT_draw_q {id : Nat} {l : List Oper} (hm : P.follows .mixedOrders = true) (hok : lexOk l.toArray = true) (h : ∀ K : AS → Prop, (∀ s, Q .normal { s with hint := σ.hint } → K s) → RVd P gl l.toArray l { σ with hint := [] } K) : AT P gl (.region id l.toArray true) σ Q :=
  AT_draw hm hok (h _ fun _ h => h)

theorem AT_seq_draw {id : Nat} {l : List Oper} {y : Code} (hm : P.follows .mixedOrders = true) (hok : lexOk l.toArray = true) (h : ∀ K : AS → Prop, (∀ s, AT P gl y { s with hint := σ.hint } Q → K s) → RVd P gl l.toArray l { σ with hint := [] } K) : AT P gl (.seq (.region id l.toArray true) y) σ Q :=
  AT_seq (AT_draw hm hok (h _ fun _ h => h))

theorem AT_seq_draw_m {id : Nat} {l : List Oper} {y : Code} (b : Bool) (m : List (Nat × Nat)) (hm : P.follows .mixedOrders = true) (hok : lexOkM b m l.toArray = true) (him : Iv b m σ) (h : ∀ K : AS → Prop, (∀ s, AT P gl y { s with hint := σ.hint } Q → K s) → RVd P gl l.toArray l { σ with hint := [] } K) : AT P gl (.seq (.region id l.toArray true) y) σ Q :=
  AT_seq (AT_draw_m b m hm hok him (h _ fun _ h => h))

theorem AT_loop_q {c : Code} (ts bs : List Nat) (I : Nat → AS → Prop) (j0 : Nat) (hok : lpOk (pick bs σ.bx) (pick ts σ.tm) = true) (h0 : I j0 (σ.keep ts bs))
    (round : ∀ j s, I j s → ∀ K : AS → Prop, (∀ s', lpOk (pick bs s'.bx) (pick ts s'.tm) = true → ∀ m, m < j → I m (s'.keep ts bs) → K s') → AT P gl c s (thenA K Q)) : AT P gl (.loop c) σ Q :=
  AT_loopK ts bs I j0 hok h0 fun j s hI => round j s hI _ fun _ h1 m hm h2 => ⟨h1, m, hm, h2⟩

def mkTm : Nat → List AV → List (Nat × TV)
  | _, [] => []
  | i, x :: r => (i, .v x none) :: mkTm (i + 1) r

def entry (fn : Func) (args : List AV) (sh : List (Nat × List AV)) (hint : List (Nat × Nat)) : AS :=
  { n := args.length + (fn.ntmps - args.length), tm := mkTm 0 args, bx := [], tb := [], sh := sh, hint := hint }

def resOne (P : Program) (σ : AS) : ResultVar → AV → Prop
  | .tmp t, x => (σ.get t).av = some x
  | .cell t ty, x => match loadOpR P σ ty (σ.get t) with
    | .val c y => c ∧ y.av = some x
    | _ => False

def resAll (P : Program) (σ : AS) : List ResultVar → List AV → Prop
  | [], [] => True
  | v :: r, x :: xs => resOne P σ v x ∧ resAll P σ r xs
  | _, _ => False

def resOk (P : Program) (fn : Func) (σ : AS) (r : AV) : Prop :=
  match fn.results.toList with
  | [v] => resOne P σ v r
  | vs => ∃ xs, r = .tup xs ∧ resAll P σ vs xs

def done (P : Program) (fn : Func) (post : AV → AS → Prop) : Exit → AS → Prop
  | .ret, σ | .normal, σ => ∃ r, resOk P fn σ r ∧ post r σ
  | _, _ => False

theorem look_mkTm : ∀ (args : List AV) (i t : Nat) (x : TV), look t (mkTm i args) = some x → ∃ j y, t = i + j ∧ args[j]? = some y ∧ x = .v y none
  | [], i, t, x, h => by cases h
  | y :: r, i, t, x, h => by
    simp only [mkTm, look] at h
    split at h
    · rename_i he
      injection h with h
      exact ⟨0, y, by omega, rfl, h.symm⟩
    · obtain ⟨j, z, h1, h2, h3⟩ := look_mkTm r (i + 1) t x h
      exact ⟨j + 1, z, by omega, by simpa using h2, h3⟩

def resSem (tmps : Array Value) : ResultVar → Sem Value
  | .tmp t => pure (tmps.getD t undef)
  | .cell ad t => do loadVar t (← asAddr (tmps.getD ad undef))

theorem results_eq (fn : Func) (tmps : Array Value) : results fn tmps = (do let vs ← fn.results.mapM (resSem tmps); pure (if h : vs.size = 1 then vs[0] else .tuple vs)) := by
  unfold results
  congr 2

theorem run_resOne {cx : Cx} {gh : Gh} {a : Act} {w : World} (r : RR cx gh σ a w) {v : ResultVar} {x : AV} (h : resOne cx.P σ v x) :
    ∃ u, (resSem a.tmps v).run cx.P w = .ok u w ∧ Rep gh.lim w.heap u x := by
  cases v with
  | tmp t => exact ⟨_, rfl, r.av (.tmp t) x h⟩
  | cell t ty =>
    simp only [resOne] at h
    split at h
    · rename_i c y hl
      obtain ⟨hc, hy⟩ := h
      have hok := ok_load (o := ⟨none, .load ty (.tmp t), 0, "", #[], none⟩) r rfl hl hc
      obtain ⟨u, w', gh', hrun, -, -, -⟩ := hok
      -- the same load, by asAddr
      have hev := r.ev (.tmp t)
      have hp : ∃ ad, a.eval (.tmp t) = .pointer (some ad) := by
        simp only [Pv.ev] at hev
        unfold loadOpR at hl
        split at hl
        · rename_i l g hk; rw [hk] at hev; obtain ⟨b, off, vs, hv, -, -⟩ := Rep.ro_iff.1 hev.1; exact ⟨_, hv⟩
        · rename_i k off hk; rw [hk] at hev; exact ⟨_, hev⟩
        · rename_i b off g hk; rw [hk] at hev; exact ⟨_, rep_gp hev.1⟩
        · cases hl
      obtain ⟨ad, had⟩ := hp
      have hyl := ok_load (o := ⟨none, .load ty (.tmp t), 0, "", #[], none⟩) r rfl hl hc
      have key : ∃ u, (loadVar ty ad).run cx.P w = .ok u w ∧ TRep gh w.heap u y := by
        have hx := r.ev (.tmp t)
        simp only [Pv.ev] at hx
        unfold loadOpR at hl
        split at hl
        · rename_i l g hk
          rw [hk] at hx
          obtain ⟨b, off, vs, hv, hrl, hcell⟩ := Rep.ro_iff.1 hx.1
          rw [had] at hv; injection hv with hv; injection hv with hv; subst hv
          exact loadR_sound b off vs hrl (fun j u hu => (hcell j u hu).2) hl hc
        · rename_i k off hk
          rw [hk] at hx
          have hv : a.eval (.tmp t) = .pointer (some ⟨gh.bl k, off, none⟩) := hx
          rw [had] at hv; injection hv with hv; injection hv with hv; subst hv
          split at hl
          · rename_i cells hcells
            obtain ⟨vs, hrl, hcell⟩ := r.cells_at hcells
            have hcell' : ∀ j u, (vs.drop off)[j]? = some u → cellAt w.heap (gh.bl k) (off + j) = some u := fun j u hu => by
              rw [List.getElem?_drop] at hu; exact hcell _ u hu
            split at hl
            · exact loadR_sound (gh.bl k) off (vs.drop off) (hrl.drop off) hcell' hl hc
            · unfold retag at hl
              split at hl
              · rename_i c' y' hl'
                simp only [OR.val.injEq] at hl
                obtain ⟨rfl, rfl⟩ := hl
                obtain ⟨u, h1, h2⟩ := loadR_sound (gh.bl k) off (vs.drop off) (hrl.drop off) hcell' hl' hc
                obtain ⟨v', w'', gh'', hrun2, -, ht, -, -⟩ := hyl
                refine ⟨u, h1, h2.1, fun p hp => ?_⟩
                cases htag : tagAt σ.tb k off with
                | none => rw [htag] at hp; cases hp
                | some q =>
                  rw [htag] at hp; injection hp with hp; subst hp
                  have htb := r.tbs k off q.1 q.2 (tagAt_mem htag)
                  have hcell0 : w.cell? ⟨gh.bl k, off, none⟩ = some (gh.gv q.1) := by rw [cell?_eq]; exact htb.2
                  have hagg : aggO cx.P ty = some false := by assumption
                  unfold loadVar at h1
                  simp [run_isAgg hagg, hcell0] at h1
                  exact h1.symm
              · rename_i hl'
                exact loadR_sound (gh.bl k) off (vs.drop off) (hrl.drop off) hcell' hl hc
            · cases hl
          · cases hl
        · rename_i b off g hk
          rw [hk] at hx
          have hv := rep_gp hx.1
          rw [had] at hv; injection hv with hv; injection hv with hv; subst hv
          split at hl
          · rename_i cells hcells
            obtain ⟨-, -, cs, e, hcs, hrep⟩ := r.shs b cells hcells
            refine loadR_sound b off (cs.toList.drop off) (hrep.drop off) (fun j u hu => ?_) hl hc
            rw [List.getElem?_drop] at hu
            unfold cellAt
            rw [hcs]
            simpa using hu
          · cases hl
        · cases hl
      obtain ⟨u, h1, h2⟩ := key
      refine ⟨u, ?_, av_rep h2 hy⟩
      have had' : a.tmps.getD t undef = .pointer (some ad) := had
      simp only [resSem, Sem.run_bind, had', asAddr, Sem.run_pure, Result.andThen_ok]
      exact h1
    · exact h.elim

theorem run_resAll {cx : Cx} {gh : Gh} {a : Act} {w : World} (r : RR cx gh σ a w) : ∀ (vs : List ResultVar) (xs : List AV), resAll cx.P σ vs xs →
    ∃ us : List Value, (vs.mapM (resSem a.tmps)).run cx.P w = .ok us w ∧ RepL gh.lim w.heap us xs
  | [], [], _ => ⟨[], by simp, RepL.nil _ _⟩
  | v :: vs, x :: xs, h => by
    obtain ⟨u, h1, h2⟩ := run_resOne r h.1
    obtain ⟨us, h3, h4⟩ := run_resAll r vs xs h.2
    refine ⟨u :: us, ?_, .cons h2 h4⟩
    rw [List.mapM_cons]
    simp only [Sem.run_bind, h1, Result.andThen_ok, h3, Sem.run_pure]
  | [], x :: xs, h => h.elim
  | v :: vs, [], h => h.elim

theorem run_results {cx : Cx} {gh : Gh} {a : Act} {w : World} (r : RR cx gh σ a w) {fn : Func} {x : AV} (h : resOk cx.P fn σ x) : ∃ u, (results fn a.tmps).run cx.P w = .ok u w ∧ Rep gh.lim w.heap u x := by
  have hm : ∀ (us : List Value), (fn.results.toList.mapM (resSem a.tmps)).run cx.P w = .ok us w →
      (results fn a.tmps).run cx.P w = .ok (if h : us.toArray.size = 1 then us.toArray[0] else .tuple us.toArray) w := by
    intro us hus
    rw [results_eq, ← Array.toArray_toList (xs := fn.results), List.mapM_toArray]
    simp only [Sem.run_bind, Sem.run_map, hus, Result.andThen_ok, Sem.run_pure]
  unfold resOk at h
  split at h
  · rename_i v hv
    obtain ⟨u, h1, h2⟩ := run_resOne r h
    refine ⟨u, ?_, h2⟩
    rw [hm [u] (by rw [hv, List.mapM_cons]; simp only [Sem.run_bind, h1, Result.andThen_ok, List.mapM_nil, Sem.run_pure])]
    rfl
  · rename_i vs hne
    obtain ⟨xs, rfl, hall⟩ := h
    obtain ⟨us, h1, h2⟩ := run_resAll r _ xs hall
    have hlen : us.length ≠ 1 := by
      intro h1'
      have : fn.results.toList.length = 1 := by
        have := resAll_len hall
        rw [this, ← h2.1, h1']
      obtain ⟨v, hv⟩ := List.length_eq_one_iff.1 this
      exact hne v hv
    refine ⟨.tuple us.toArray, ?_, Rep.tup_iff.2 ⟨us.toArray, rfl, by simpa using h2⟩⟩
    rw [hm us h1]
    simp [hlen]
where
  resAll_len {vs : List ResultVar} {xs : List AV} (h : resAll cx.P σ vs xs) : vs.length = xs.length := by
    induction vs generalizing xs with
    | nil => cases xs with
      | nil => rfl
      | cons => exact h.elim
    | cons v vs ih => cases xs with
      | nil => exact h.elim
      | cons x xs => simp [ih h.2]

theorem RR.take {cx : Cx} {gh : Gh} {a : Act} {w : World} (r : RR cx gh σ a w) (hy : cx.gl.y = none) (hBw : cx.B = cx.w0.heap.size) {k : Nat} (hk : σ.mks = k + 1) :
    ∃ D ds, a.defers = markOf D :: ds ∧ w.heap[D]? = some (.deferred (some [])) ∧ RR cx gh { σ with mks := k } { a with defers := ds } (w.putObj D (.deferred none)) := by
  obtain ⟨Ds, h1, h2, h3⟩ := r.ex.defers
  cases Ds with
  | nil => have := h2.1; rw [hk] at this; simp at this
  | cons D Ds =>
    obtain ⟨hB, hD⟩ := h3 D (by simp)
    have hlt := (Array.getElem?_eq_some_iff.1 hD).1
    have hother : ∀ {i : Nat}, i ≠ D → (w.putObj D (.deferred none)).heap[i]? = w.heap[i]? := fun hi => World.putObj_heap_other hi
    have hcells : ∀ {i : Nat} {cs : Array Value} {e : TypeId} {g : Nat × Nat}, w.heap[i]? = some (.cells cs e g) → (w.putObj D (.deferred none)).heap[i]? = w.heap[i]? := fun hi => hother (fun he => by rw [he, hD] at hi; cases hi)
    have hkeep : Keep gh.lim w.heap gh.lim (w.putObj D (.deferred none)).heap := Keep.of_cells (fun k cs e g hk => hcells hk) _
    have hfrm : Frm cx.B cx.S w (w.putObj D (.deferred none)) := ⟨rfl, rfl, rfl, by simp, fun i hi _ => hother (by omega)⟩
    refine ⟨D, Ds.map markOf ++ cx.df, by rw [h1]; rfl, hD, ?_⟩
    have hnd : D ∉ Ds ∧ Ds.Nodup := List.nodup_cons.1 h2.2
    refine { frm := r.frm.trans hfrm, base := by simpa using r.base, limB := r.limB, size := r.size, ex := ⟨r.ex.keep.trans hkeep, ?_, fun Y hY => ?_, ?_, r.ex.fx, fun hy i o hi hc hw => (hother (fun he => by have := (Array.getElem?_eq_some_iff.1 hi).1; omega)).trans (r.ex.oth hy i o hi hc hw), r.ex.top⟩, gl := fun g c h => (r.gl g c h).mono hkeep, tmps := fun t x h => ?_, boxes := ?_, inj := r.inj, shs := ?_, apart := r.apart, tbs := ?_, own := ?_, alone := r.alone }
    · refine ⟨Ds, rfl, ⟨?_, hnd.2⟩, fun E hE => ⟨(h3 E (by simp [hE])).1, (hother (fun he => hnd.1 (he ▸ hE))).trans (h3 E (by simp [hE])).2⟩⟩
      have := h2.1; rw [hk] at this; simpa using this
    · rw [hy] at hY; cases hY
    · refine ⟨fun t q ht => (r.ex.its.at_ t q ht).keep2 fun k o hk ho => (hother (fun he => by rw [he, hD] at hk; cases hk; cases ho)).trans hk, r.ex.its.inj⟩
    · have h' := r.tmps t x h
      refine ⟨?_, h'.2⟩
      cases x with
      | un => trivial
      | v y g => exact ⟨h'.1.1.mono hkeep, h'.1.2⟩
      | bld l ns => exact ⟨h'.1.1.mono hkeep, h'.1.2⟩
      | lp k off => exact h'.1
      | it k9 => trivial
      | cl f ks => exact h'.1
    · intro k cells h
      obtain ⟨q1, q2, cs, e, q3, q4⟩ := r.boxes k cells h
      exact ⟨q1, q2, cs, e, (hcells q3).trans q3, q4.mono hkeep⟩
    · intro b cells h
      obtain ⟨q1, q2, cs, e, q3, q4⟩ := r.shs b cells h
      exact ⟨q1, q2, cs, e, (hcells q3).trans q3, q4.mono hkeep⟩
    · intro k j g e h
      obtain ⟨q1, q2⟩ := r.tbs k j g e h
      refine ⟨q1, ?_⟩
      unfold cellAt at q2 ⊢
      rw [hother (fun he => by rw [he, hD] at q2; cases q2)]; exact q2
    · intro g e h
      obtain ⟨⟨m, xs, q1, q2⟩, q3⟩ := r.own g e h
      refine ⟨⟨m, xs, ⟨q1.1, ?_⟩, q2⟩, q3⟩
      rcases q1.2 with hn | ⟨g', cap, cur, hv, hbg, hg', rest⟩
      · exact .inl hn
      · exact .inr ⟨g', cap, cur, hv, hbg, (hcells hg').trans hg', rest⟩

theorem leaves_marks {cx : Cx} {gh : Gh} {fn : Func} {Rq : Ending → World → Prop} {n : Nat} {tmps : Array Value} (hdf : cx.df = []) : ∀ (k : Nat) (σ : AS) (a : Act) (w : World), ((cx.gl.y = none ∧ cx.B = cx.w0.heap.size) ∨ σ.mks = 0) → RR cx gh σ a w → σ.mks = k → a.tmps = tmps →
    (∀ (a' : Act) (w' : World), RR cx gh { σ with mks := 0 } a' w' → a'.tmps = tmps → ∃ v, (results fn tmps).run cx.P w' = .ok v w' ∧ Rq (.returned v) w') → LeavesInM (Fw none) n cx.P fn tmps Rq a.defers .returning w
  | 0, σ, a, w, _, r, hk, ht, h => by
    obtain ⟨Ds, h1, h2, -⟩ := r.ex.defers
    have : Ds = [] := List.eq_nil_of_length_eq_zero (by rw [h2.1]; exact hk)
    subst this
    rw [hdf] at h1
    rw [h1]
    have he : σ = { σ with mks := 0 } := by rw [← hk]
    exact h a w (by rw [← he]; exact r) ht
  | k + 1, σ, a, w, hy, r, hk, ht, h => by
    have hy' := hy.resolve_right (by omega)
    obtain ⟨D, ds, h1, h2, r'⟩ := r.take hy'.1 hy'.2 hk
    rw [h1]
    exact ⟨by simp, .inl ⟨D, _, rfl, run_takeDeferred h2, leaves_marks hdf k _ _ _ (.inl hy') r' rfl ht (fun a' w' r'' ht' => h a' w' r'' ht')⟩⟩

theorem resOk_mks {fn : Func} {r : AV} {k : Nat} (h : resOk P fn σ r) : resOk P fn { σ with mks := k } r := by
  have hone : ∀ v x, resOne P σ v x → resOne P { σ with mks := k } v x := fun v x h => by cases v <;> exact h
  have hall : ∀ vs xs, resAll P σ vs xs → resAll P { σ with mks := k } vs xs := by
    intro vs
    induction vs with
    | nil => intro xs h; cases xs <;> exact h
    | cons v vs ih => intro xs h; cases xs with
      | nil => exact h
      | cons x xs => exact ⟨hone v x h.1, ih xs h.2⟩
  unfold resOk at h ⊢
  revert h
  generalize fn.results.toList = l
  intro h
  cases l with
  | nil => obtain ⟨xs, h1, h2⟩ := h; exact ⟨xs, h1, hall _ _ h2⟩
  | cons v t =>
    cases t with
    | nil => exact hone _ _ h
    | cons u t => obtain ⟨xs, h1, h2⟩ := h; exact ⟨xs, h1, hall _ _ h2⟩

theorem entry_rr {cx : Cx} {fn : Func} {args : List AV} {sh : List (Nat × List AV)} {hint : List (Nat × Nat)} {ys : List AV × Bool} {cargs : List Value} (hB : cx.B ≤ cx.w0.heap.size) (htop : cx.gl.top = true → cx.w0.heap.size ≤ cx.B ∧ ∀ b r, cx.lim b = .reg r → r = 0) (hdf : cx.df = []) (hgl : GlOk cx.gl cx.lim cx.w0.heap) (hargs : RepL cx.lim cx.w0.heap cargs args)
    (hsh : ∀ b cl, look b sh = some cl → (cx.S b ∨ cx.B ≤ b) ∧ BoxAt cx.lim cx.w0.heap b cl) (hfx : ∀ t, cx.fx t = none) (hy : ∀ Y, cx.gl.y = some Y → (cx.B = 0 ∧ Y.P = cx.P) ∧ Y.J ys.1 ys.2 cx.lim cx.w0) :
    RR cx { lim := cx.lim, bl := fun _ => 0, gv := fun _ => .nilIface } { entry fn args sh hint with ys := ys } { tmps := cargs.toArray ++ Array.replicate (fn.ntmps - cargs.toArray.size) undef, defers := [] } cx.w0 := by
  have hit : ∀ t q, look t (mkTm 0 args) ≠ some (.it q) := fun t q h => by
    obtain ⟨j, y, h1, h2, h3⟩ := look_mkTm args 0 t _ h
    cases h3
  refine { frm := Frm.refl _ _ _, base := hB, limB := fun _ _ => rfl, size := ?_, ex := ⟨Keep.refl _ _, ⟨[], by rw [hdf]; rfl, ⟨rfl, List.nodup_nil⟩, fun D hD => (by cases hD)⟩, hy, ⟨fun t q h => absurd h (hit t q), fun t _ q _ h => absurd h (hit t q)⟩, fun t v h => (by rw [hfx] at h; cases h), fun _ _ _ h _ _ => h, fun h => ⟨(htop h).1, hgl, (htop h).2⟩⟩, gl := hgl, tmps := ?_, boxes := fun k c h => (by cases h), inj := fun k k' h => (by cases h), shs := hsh, apart := fun b k _ h => (by cases h), tbs := fun k j g e h => (by cases h), own := ?_, alone := ?_ }
  · simp [entry, hargs.1]
  · intro t x ht
    obtain ⟨j, y, h1, h2, rfl⟩ := look_mkTm args 0 t x ht
    rw [Nat.zero_add] at h1
    subst h1
    have h3 := hargs.2 t y h2
    have hlt : t < cargs.length := by rw [hargs.1]; exact (List.getElem?_eq_some_iff.1 h2).1
    refine ⟨⟨?_, by simp⟩, by simp⟩
    rw [List.getD_eq_getElem?_getD] at h3
    rw [Array.getD_eq_getD_getElem?, Array.getElem?_append_left (by simpa using hlt)]
    simpa using h3
  · rintro g e (⟨t, x, ht⟩ | ⟨k, j, hk⟩)
    · obtain ⟨j, y, -, -, h3⟩ := look_mkTm args 0 t _ ht; cases h3
    · cases hk
  · rintro g e g' e' (⟨t, x, ht⟩ | ⟨k, j, hk⟩)
    · obtain ⟨j, y, -, -, h3⟩ := look_mkTm args 0 t _ ht; cases h3
    · cases hk

theorem calls_of_AT' {cx : Cx} {f : FuncId} {fn : Func} {c : Code} {σ0 : AS} {gh0 : Gh} {cargs : List Value} {post : AV → AS → Prop} {Rq : Ending → World → Prop}
    (hf : cx.P.funcs[f]? = some fn) (hb : fn.body = some c) (hdf : cx.df = [])
    (hr : RR cx gh0 σ0 { tmps := cargs.toArray ++ Array.replicate (fn.ntmps - cargs.toArray.size) undef, defers := [] } cx.w0)
    (h : AT cx.P cx.gl c σ0 (done cx.P fn post))
    (hmk : ∀ s r, post r s → (cx.gl.y = none ∧ cx.B = cx.w0.heap.size) ∨ s.mks = 0)
    (fin : ∀ s r gh a' w' v, post r s → RR cx gh { s with mks := 0 } a' w' → Rep gh.lim w'.heap v r → Rq (.returned v) w') : Calls cx.P f cargs.toArray cx.w0 Rq := by
  refine calls_of_fw (n := 0) (callsIn_of_wp_marks hf hb trivial ?_)
  refine wpIn_mono (h cx none 0 _ cx.w0 rfl rfl (fun _ => rfl) ⟨_, hr⟩) fun e a' w' => ?_
  have key : ∀ s r, resOk cx.P fn s r → post r s → R cx s a' w' → LeavesInM (Fw none) 0 cx.P fn a'.tmps Rq a'.defers .returning w' := by
    rintro s r hres hpost ⟨gh, rr⟩
    refine leaves_marks hdf s.mks s a' w' (hmk s r hpost) rr rfl rfl fun a2 w2 r2 ht => ?_
    obtain ⟨u, h1, h2⟩ := run_results r2 (resOk_mks hres)
    rw [ht] at h1
    exact ⟨u, h1, fin s r gh a2 w2 u hpost r2 h2⟩
  rintro ⟨s, hs, r'⟩
  cases e with
  | normal => obtain ⟨r, h1, h2⟩ := hs; exact key s r h1 h2 r'
  | ret => obtain ⟨r, h1, h2⟩ := hs; exact key s r h1 h2 r'
  | exit id => exact hs.elim
  | goto l => exact hs.elim
  | panic ch => exact hs.elim
  | outgrown => exact hs.elim

theorem calls_of_AT {cx : Cx} {f : FuncId} {fn : Func} {c : Code} {args : List AV} {sh : List (Nat × List AV)} {hint : List (Nat × Nat)} {ys : List AV × Bool} {cargs : List Value} {post : AV → AS → Prop} {Rq : Ending → World → Prop}
    (hf : cx.P.funcs[f]? = some fn) (hb : fn.body = some c) (hdf : cx.df = [])
    (hr : RR cx { lim := cx.lim, bl := fun _ => 0, gv := fun _ => .nilIface } { entry fn args sh hint with ys := ys } { tmps := cargs.toArray ++ Array.replicate (fn.ntmps - cargs.toArray.size) undef, defers := [] } cx.w0)
    (h : AT cx.P cx.gl c { entry fn args sh hint with ys := ys } (done cx.P fn post))
    (hmk : ∀ s r, post r s → (cx.gl.y = none ∧ cx.B = cx.w0.heap.size) ∨ s.mks = 0)
    (fin : ∀ s r gh a' w' v, post r s → RR cx gh { s with mks := 0 } a' w' → Rep gh.lim w'.heap v r → Rq (.returned v) w') : Calls cx.P f cargs.toArray cx.w0 Rq := calls_of_AT' hf hb hdf hr h hmk fin

theorem validH_of {f : FuncId} {fn : Func} {c : Code} {args : List AV} {sh : List (Nat × List AV)} {post : AV → List (Nat × List AV) → Prop} (hint : List (Nat × Nat)) (hf : P.funcs[f]? = some fn) (hb : fn.body = some c) (hok : fnOk P f = true)
    (h : AT P gl c (entry fn args sh hint) (done P fn fun r s => ∃ sh', (∀ b cl, look b sh' = some cl → look b s.sh = some cl) ∧ (∀ b, (look b sh).isSome = true → (look b sh').isSome = true) ∧ post r sh')) (hy : gl.y = none := by rfl) (ht : gl.top = false := by rfl) : ValidH P gl f args sh post := by
  refine ⟨hok, fun lim w cargs hgl hargs hsh => ?_⟩
  let cx : Cx := { P := P, B := w.heap.size, S := fun b => (look b sh).isSome = true, lim := lim, w0 := w, df := [], gl := gl, fx := fun _ => none }
  have hr := entry_rr (cx := cx) (fn := fn) (hint := hint) (ys := ([], true)) (Nat.le_refl _) (fun h => by rw [show cx.gl.top = false from ht] at h; cases h) rfl hgl hargs (fun b cl hb => ⟨.inl (show (look b sh).isSome = true by rw [show look b sh = some cl from hb]; rfl), hsh b cl hb⟩) (fun _ => rfl) (fun Y hY => by rw [show cx.gl.y = none from hy] at hY; cases hY)
  refine calls_of_AT (cx := cx) hf hb rfl hr h (fun _ _ _ => .inl ⟨hy, rfl⟩) fun s r gh a' w' v => ?_
  rintro ⟨sh', hsub, hcov, hpost⟩ rr h2
  refine ⟨v, r, sh', gh.lim, rfl, rr.frm, rr.limB, h2, fun b cl hb => (rr.shs b cl (hsub b cl hb)).2, hpost, hcov, fun b hb' => ?_⟩
  obtain ⟨cl, hcl⟩ := Option.isSome_iff_exists.1 hb'
  exact (rr.shs b cl (hsub b cl hcl)).1

theorem valid_of {f : FuncId} {fn : Func} {c : Code} {args : List AV} {r : AV} (hint : List (Nat × Nat)) (hf : P.funcs[f]? = some fn) (hb : fn.body = some c) (hok : fnOk P f = true)
    (h : AT P gl c (entry fn args [] hint) (done P fn fun r' _ => r' = r)) (hy : gl.y = none := by rfl) (ht : gl.top = false := by rfl) : Valid P gl f args r := by
  refine validH_of hint hf hb hok (AT_mono h fun e s hs => ?_) hy ht
  have key : (∃ r', resOk P fn s r' ∧ r' = r) → ∃ r', resOk P fn s r' ∧ ∃ sh', (∀ b cl, look b sh' = some cl → look b s.sh = some cl) ∧ (∀ b, (look b ([] : List (Nat × List AV))).isSome = true → (look b sh').isSome = true) ∧ r' = r ∧ sh' = [] :=
    fun ⟨r', h1, h2⟩ => ⟨r', h1, [], fun b cl h => (by cases h), fun b h => h, h2, rfl⟩
  cases e with
  | normal => exact key hs
  | ret => exact key hs
  | exit id => exact hs
  | goto l => exact hs
  | panic ch => exact hs
  | outgrown => exact hs

def ownRes (fn : Func) (s : AS) : Option (Nat × Nat) :=
  match fn.results.toList with
  | [.tmp t] => match look t s.tm with
    | some (.v _ g) => g
    | _ => none
  | _ => none
def mkTmB : Nat → List Nat → List (Nat × TV)
  | _, [] => []
  | i, k :: r => (i, .lp k 0) :: mkTmB (i + 1) r
def fxs : Nat → List Nat → List Nat
  | _, [] => []
  | i, _ :: r => i :: fxs (i + 1) r
def fxv (bl : Nat → Nat) : Nat → List Nat → List (Nat × Value)
  | _, [] => []
  | i, k :: r => (i, Value.pointer (some ⟨bl k, 0, none⟩)) :: fxv bl (i + 1) r
def keepB (tm : List (Nat × TV)) : Nat → List Nat → Bool
  | _, [] => true
  | i, k :: r => (match look i tm with | some (.lp k' 0) => k' == k | _ => false) && keepB tm (i + 1) r

def entryB (fn : Func) (args : List AV) (ks : List Nat) (bx : List (Nat × List AV)) (tb : List (Nat × Nat × Nat × Nat)) (hint : List (Nat × Nat)) : AS :=
  { n := (args.length + ks.length) + (fn.ntmps - (args.length + ks.length)), tm := mkTm 0 args ++ mkTmB args.length ks, bx := bx, tb := tb, sh := [], hint := hint, fx := fxs args.length ks }

end
end Go.Pv
end

section
/- A drawn region whose last operation comes after all others: that one may see the hints, and whatever else is known by then. Nil slices that are known as such. -/
namespace Go.Pv
open Go

def guardsIn (n : Nat) (l : List Oper) : Bool := l.all fun o => match o.guard with | some (j, _) => decide (j < n) | none => true
def edgesIn : Nat → List Oper → Bool
  | _, [] => true
  | i, o :: r => (edgesOf o).all (fun e => decide (e < i)) && edgesIn (i + 1) r
def lastOk (l : List Oper) (o : Oper) : Bool :=
  guardsIn l.length l && edgesIn 0 (l ++ [o]) && (List.range l.length).all fun i => ((masks (l ++ [o]) []).getD l.length 0).testBit i

theorem edgesIn_spec : ∀ (l : List Oper) (i : Nat), edgesIn i l = true → ∀ (k : Nat) (o : Oper), l[k]? = some o → ∀ e ∈ o.after, Region.binds .any e = true → e.on < i + k
  | [], _, _, k, o, h => by simp at h
  | o' :: r, i, h, k, o, hk => by
    simp only [edgesIn, Bool.and_eq_true] at h
    cases k with
    | zero =>
      simp at hk; subst hk
      intro e he hb
      have := List.all_eq_true.1 h.1 e.on (List.mem_map.2 ⟨e, List.mem_filter.2 ⟨by simpa using he, hb⟩, rfl⟩)
      simpa using this
    | succ k =>
      intro e he hb
      have := edgesIn_spec r (i + 1) h.2 k o (by simpa using hk) e he hb
      omega

section
variable {ops ops' : Array Oper}

theorem ready_nil_all {ops : Array Oper} {listed : Array Bool} (hsz : listed.size = ops.size) (hedge : ∀ (j : Nat) (o : Oper), ops[j]? = some o → ∀ e ∈ o.after, Region.binds .any e = true → e.on < j)
    (h : Region.ready .any ops listed = []) : ∀ i, i < ops.size → listed.getD i false = true := by
  intro i
  induction i using Nat.strongRecOn with
  | _ i ih =>
    intro hi
    cases hl : listed.getD i false with
    | true => rfl
    | false =>
      exfalso
      have hm : i ∈ Region.ready .any ops listed := by
        refine mem_ready.2 ⟨?_, ops[i], by simp [hi], fun e he hb => ?_⟩
        · have : i < listed.size := by omega
          simpa [this] using hl
        · have h1 := hedge i ops[i] (by simp [hi]) e he hb
          exact ih e.on h1 (by omega)
      rw [h] at hm
      cases hm

theorem all_ready_nil {ops : Array Oper} {listed : Array Bool} (hsz : listed.size = ops.size) (h : ∀ i, i < ops.size → listed.getD i false = true) : Region.ready .any ops listed = [] := by
  cases hr : Region.ready .any ops listed with
  | nil => rfl
  | cons i r =>
    exfalso
    have hi : i ∈ Region.ready .any ops listed := by rw [hr]; simp
    obtain ⟨h1, o, ho, _⟩ := mem_ready.1 hi
    have hlt := (Array.getElem?_eq_some_iff.1 ho).1
    have h2 := h i hlt
    have : i < listed.size := by omega
    simp [this] at h1 h2
    rw [h2] at h1
    cases h1

theorem push_getD {l : Array Bool} {i : Nat} (h : i < l.size) (d b : Bool) : (l.push b).getD i d = l.getD i d := by
  simp [Array.getElem?_push, Nat.ne_of_lt h]
theorem push_set {l : Array Bool} {i : Nat} (h : i < l.size) (a b : Bool) : (l.push b).setIfInBounds i a = (l.setIfInBounds i a).push b := by
  apply Array.ext_getElem?
  intro j
  simp only [Array.getElem?_setIfInBounds, Array.getElem?_push, Array.size_push, Array.size_setIfInBounds]
  by_cases hij : i = j
  · subst hij
    simp [h, Nat.lt_succ_of_lt h, Nat.ne_of_lt h]
  · simp [hij]

theorem push_ready {oL : Oper} (hops : ops = ops'.push oL) (hedge : ∀ (j : Nat) (o : Oper), ops[j]? = some o → ∀ e ∈ o.after, Region.binds .any e = true → e.on < j) {listed : Array Bool} (hsz : listed.size = ops'.size) {i : Nat} (hi : i < ops'.size) :
    i ∈ Region.ready .any ops (listed.push false) ↔ i ∈ Region.ready .any ops' listed := by
  have ho : ops[i]? = ops'[i]? := by rw [hops, Array.getElem?_push]; simp [Nat.ne_of_lt hi]
  rw [mem_ready, mem_ready, push_getD (by omega), ho]
  refine and_congr_right fun _ => exists_congr fun o => and_congr_right fun h => ?_
  have hlt : ∀ e ∈ o.after, Region.binds .any e = true → (listed.push false).getD e.on false = listed.getD e.on false := fun e he hb => by
    have := hedge i o (ho.trans h) e he hb
    exact push_getD (by omega) _ _
  constructor
  · intro h e he hb
    rw [← hlt e he hb]; exact h e he hb
  · intro h e he hb
    rw [hlt e he hb]; exact h e he hb

theorem anyA_last {cx : Cx} {ro : Option Nat} {n : Nat} {oL : Oper} {Q : Exit → Act → World → Prop} {K : AS → Prop} (hops : ops = ops'.push oL)
    (hg : ∀ (j : Nat) (o : Oper), ops'[j]? = some o → ∀ i b, o.guard = some (i, b) → i < ops'.size)
    (hedge : ∀ (j : Nat) (o : Oper), ops[j]? = some o → ∀ e ∈ o.after, Region.binds .any e = true → e.on < j)
    (hreach : ∀ i, i < ops'.size → Reach ops ops'.size i)
    (hQ : ∀ σ a w, K σ → R cx σ a w → wpOpIn (Fw ro) n cx.P ops Q ops'.size (fun a w => Q .normal a w) a w) :
    ∀ (fuel : Nat) (listed : Array Bool) (σ : AS) (a : Act) (w : World), listed.size = ops'.size → DC ops (listed.push false) → R cx σ a w → anyA cx.P cx.gl ops' K fuel listed σ →
      wpAnyIn (Fw ro) n cx.P .any ops Q (fuel + 1) (listed.push false) a w := by
  have hsize : ops.size = ops'.size + 1 := by rw [hops]; simp
  have hL : ops[ops'.size]? = some oL := by rw [hops]; simp
  have hedge' : ∀ (j : Nat) (o : Oper), ops'[j]? = some o → ∀ e ∈ o.after, Region.binds .any e = true → e.on < j := fun j o ho => by
    have hlt := (Array.getElem?_eq_some_iff.1 ho).1
    exact hedge j o (by rw [hops, Array.getElem?_push, if_neg (Nat.ne_of_lt hlt)]; exact ho)
  have hguard : ∀ (j : Nat) (o : Oper), ops'[j]? = some o → ∀ σ, guardB ops' o σ = guardB ops o σ := fun j o ho σ => by
    unfold guardB
    cases hgd : o.guard with
    | none => rfl
    | some p =>
      obtain ⟨i, b⟩ := p
      have := hg j o ho i b hgd
      simp only [hops, Array.getElem?_push, if_neg (Nat.ne_of_lt this)]
  -- when only the last one is left
  have hend : ∀ (listed : Array Bool), listed.size = ops'.size → Region.ready .any ops (listed.push false) ≠ [] := by
    intro listed hsz h
    cases hr : Region.ready .any ops' listed with
    | nil =>
      have hall := ready_nil_all hsz hedge' hr
      have hm : ops'.size ∈ Region.ready .any ops (listed.push false) := by
        refine mem_ready.2 ⟨by simp [← hsz], oL, hL, fun e he hb => ?_⟩
        have h1 := hedge _ oL hL e he hb
        rw [push_getD (by omega)]
        exact hall _ h1
      rw [h] at hm; cases hm
    | cons i r =>
      have hi : i ∈ Region.ready .any ops' listed := by rw [hr]; simp
      obtain ⟨_, o, ho, _⟩ := mem_ready.1 hi
      have hlt := (Array.getElem?_eq_some_iff.1 ho).1
      have := (push_ready hops hedge hsz hlt).2 hi
      rw [h] at this; cases this
  have hlast : ∀ (fuel : Nat) (listed : Array Bool) (σ : AS) (a : Act) (w : World), listed.size = ops'.size → (∀ i, i < ops'.size → listed.getD i false = true) → K σ → R cx σ a w →
      wpOpIn (Fw ro) n cx.P ops Q ops'.size (wpAnyIn (Fw ro) n cx.P .any ops Q fuel ((listed.push false).setIfInBounds ops'.size true)) a w := by
    intro fuel listed σ a w hsz hall hk r
    refine wpOpIn_mono (fun a w hq => ?_) (hQ σ a w hk r)
    have hnil : Region.ready .any ops ((listed.push false).setIfInBounds ops'.size true) = [] := by
      refine all_ready_nil (by simp [hsz, hsize]) fun i hi => ?_
      by_cases hil : i = ops'.size
      · subst hil
        simp [← hsz]
      · rw [getD_set_ne false (fun h => hil h.symm), push_getD (by omega)]
        exact hall i (by omega)
    cases fuel with
    | zero => exact ⟨hnil, hq⟩
    | succ m => exact ⟨fun _ => hq, fun i hi => by rw [hnil] at hi; cases hi⟩
  intro fuel
  induction fuel with
  | zero =>
    intro listed σ a w hsz hdc r h
    refine ⟨fun h0 => absurd h0 (hend listed hsz), fun i hi => ?_⟩
    have hall := ready_nil_all hsz hedge' h.1
    obtain ⟨_, o, ho, _⟩ := mem_ready.1 hi
    have hlt := (Array.getElem?_eq_some_iff.1 ho).1
    by_cases hil : i = ops'.size
    · subst hil
      exact hlast 0 listed σ a w hsz hall h.2 r
    · have hm := (push_ready hops hedge hsz (by omega)).1 hi
      rw [h.1] at hm; cases hm
  | succ m ih =>
    intro listed σ a w hsz hdc r h
    refine ⟨fun h0 => absurd h0 (hend listed hsz), fun i hi => ?_⟩
    obtain ⟨_, o, ho, _⟩ := mem_ready.1 hi
    have hlt := (Array.getElem?_eq_some_iff.1 ho).1
    by_cases hil : i = ops'.size
    · subst hil
      have hall : ∀ i, i < ops'.size → listed.getD i false = true := fun i h => by
        have := hdc.ready (hreach i h) hi
        rwa [push_getD (by omega)] at this
      exact hlast (m + 1) listed σ a w hsz hall (h.1 (all_ready_nil hsz hall)) r
    · have hlt' : i < ops'.size := by omega
      have hm := (push_ready hops hedge hsz hlt').1 hi
      obtain ⟨o', ho', hn⟩ := h.2 i hm
      have hoo : ops[i]? = some o' := by rw [hops, Array.getElem?_push, if_neg (Nat.ne_of_lt hlt')]; exact ho'
      have hn2 : nextV cx.P cx.gl ops o' σ (anyA cx.P cx.gl ops' K m (listed.setIfInBounds i true)) := by
        have := nextV_of hn
        unfold nextV at this ⊢
        rw [← hguard i o' ho']
        exact this
      refine wpOpIn_mono (fun a' w' hh => ?_) (opIn_sound (ro := ro) (n := n) (Q := Q) hoo r hn2)
      obtain ⟨σ', hk, r'⟩ := hh
      rw [push_set (by omega)]
      refine ih _ σ' a' w' (by simpa using hsz) ?_ r' hk
      rw [← push_set (by omega)]
      exact hdc.set hi
end

def Gives (P : Program) (σ σ' : AS) : Prop := ∀ (cx : Cx) (a : Act) (w : World), cx.P = P → R cx σ a w → R cx σ' a w
theorem Gives.refl {P : Program} {σ : AS} : Gives P σ σ := fun _ _ _ _ h => h
theorem Gives.trans {P : Program} {σ1 σ2 σ3 : AS} (h : Gives P σ1 σ2) (k : Gives P σ2 σ3) : Gives P σ1 σ3 := fun cx a w hP r => k cx a w hP (h cx a w hP r)

theorem region_draw_last {cx : Cx} {ro : Option Nat} {n : Nat} {id : Nat} {l : List Oper} {oL : Oper} {Q : Exit → Act → World → Prop} {K : AS → Prop} {σ : AS} {a : Act} {w : World} (b : Bool) (m : List (Nat × Nat)) (hm : cx.P.follows .mixedOrders = true) (hok : lexOkM b m l.toArray = true) (hl : lastOk l oL = true) (him : Iv b m σ)
    (hQ : ∀ s a w, K s → R cx s a w → Q .normal a w) (r : R cx σ a w) (h : RVd cx.P cx.gl l.toArray l { σ with hint := [] } fun s => ∃ s', Gives cx.P { s with hint := σ.hint } s' ∧ nextV cx.P cx.gl (l ++ [oL]).toArray oL s' K) : (Code.region id (l ++ [oL]).toArray true).wpIn (Fw ro) n cx.P Q a w := by
  refine wpIn_region_any hm ?_
  let K0 : AS → Prop := fun s => ∃ s', Gives cx.P { s with hint := σ.hint } s' ∧ nextV cx.P cx.gl (l ++ [oL]).toArray oL s' K
  let K' : AS → Prop := fun s => ∃ s0, Eqv s0 s ∧ K0 s0
  have hK' : ∀ s s', Eqv s s' → K' s → K' s' := fun s s' e ⟨s0, e0, hk⟩ =>
    ⟨s0, ⟨⟨e.ex.1.trans e0.ex.1, e.ex.2.1.trans e0.ex.2.1, e.ex.2.2.trans e0.ex.2.2⟩, e.n.trans e0.n, fun t => (e.tm t).trans (e0.tm t), e.bx.trans e0.bx, e.tb.trans e0.tb, e.sh.trans e0.sh, e0.hint.1, e.hint.2⟩, hk⟩
  have hmono : ∀ (q : List Oper) (s : AS), s.hint = [] → RVd cx.P cx.gl l.toArray q s K0 → RVd cx.P cx.gl l.toArray q s K' := by
    intro q
    induction q with
    | nil => intro s hs h; exact ⟨s, ⟨⟨rfl, rfl, rfl⟩, rfl, fun _ => rfl, rfl, rfl, rfl, hs, hs⟩, h⟩
    | cons o q ih =>
      intro s hs h
      have h2 := eff_hint hs h
      exact nextVd_eqv ⟨⟨rfl, rfl, rfl⟩, rfl, fun _ => rfl, rfl, rfl, rfl, hs, hs⟩ (fun s1 s2 e hk => by
        have h3 := ih s1 hk.1 hk.2
        exact region_draw_sound.RVd_eqv hK' q s1 s2 e h3) h2
  have h' := hmono l _ rfl h
  have hok2 := hok
  simp only [lexOkM, Bool.and_eq_true, Bool.or_eq_true, Bool.not_eq_true'] at hok2
  have hom : OkM b m l.toArray := ⟨hok2.1.1.elim (fun h => .inl (List.isEmpty_iff.1 h)) fun h => .inr fun j o ho => List.all_eq_true.1 h o (List.mem_of_getElem? (by simpa using ho)), hok2.1.2.elim .inl fun h => .inr fun j o ho => List.all_eq_true.1 h o (List.mem_of_getElem? (by simpa using ho))⟩
  have ha := anyA_lex hom hK' l 0 (Array.replicate l.length false) { σ with hint := [] } (by simp) (by simpa using hok2.2) (by simp) (by simp) (fun j hj => by simp at hj; simp [hj]) (fun j o _ hj => by rw [Array.getD_eq_getD_getElem?, Array.getElem?_replicate] at hj; split at hj <;> simp at hj) rfl him h'
  simp only [lastOk, Bool.and_eq_true] at hl
  obtain ⟨⟨hg, he⟩, hr⟩ := hl
  have hedge : ∀ (j : Nat) (o : Oper), ((l ++ [oL]).toArray)[j]? = some o → ∀ e ∈ o.after, Region.binds .any e = true → e.on < j := fun j o ho e hm hb => by
    have := edgesIn_spec (l ++ [oL]) 0 he j o (by simpa using ho) e hm hb
    omega
  have hpush : (l ++ [oL]).toArray = l.toArray.push oL := by simp
  have hs := anyA_last (cx := cx) (ro := ro) (n := n) (Q := Q) (K := K') hpush
    (fun j o ho i b hgd => by
      have := List.all_eq_true.1 hg o (List.mem_of_getElem? (by simpa using ho))
      rw [hgd] at this
      simpa using this) hedge
    (fun i hi => by
      have h1 := List.all_eq_true.1 hr i (by simpa using hi)
      have := masks_spec (ops := (l ++ [oL]).toArray) (l ++ [oL]) [] (by simp) (by simp) l.length i h1
      simpa using this)
    (fun s a w ⟨s0, e0, s', hstr, hn⟩ r => by
      have r1 := hstr cx a w rfl ((r.eqv e0.symm).setHint σ.hint)
      refine wpOpIn_mono (fun a' w' hh => ?_) (opIn_sound (ro := ro) (n := n) (Q := Q) (by simp) r1 hn)
      obtain ⟨σ', hk, r'⟩ := hh
      exact hQ σ' a' w' hk r') l.length (Array.replicate l.length false) _ a _ (by simp)
    (fun j o ho hj => by
      rw [Array.getD_eq_getD_getElem?, Array.getElem?_push, Array.getElem?_replicate] at hj
      split at hj <;> first | (simp at hj; done) | (split at hj <;> simp at hj)) ((r.setHint []).drew (w.drawn + 1)) ha
  have e1 : (Array.replicate l.length false).push false = Array.replicate ((l ++ [oL]).toArray).size false := by
    simp [Array.replicate_succ]
  rw [← e1]
  simpa using hs

section
variable {P : Program} {gl : Gl} {σ : AS} {Q : Exit → AS → Prop}

theorem AT_str {c : Code} {σ' : AS} (hs : Gives P σ σ') (h : AT P gl c σ' Q) : AT P gl c σ Q := fun cx ro n a w hP hg hro r => h cx ro n a w hP hg hro (hs cx a w hP r)

theorem AT_draw_last {id : Nat} {l : List Oper} {oL : Oper} (b : Bool) (m : List (Nat × Nat)) (hm : P.follows .mixedOrders = true) (hok : lexOkM b m l.toArray = true) (hl : lastOk l oL = true) (him : Iv b m σ)
    (h : RVd P gl l.toArray l { σ with hint := [] } fun s => ∃ s', Gives P { s with hint := σ.hint } s' ∧ nextV P gl (l ++ [oL]).toArray oL s' (Q .normal)) : AT P gl (.region id (l ++ [oL]).toArray true) σ Q := by
  intro cx ro n a w hP hg hro r
  subst hP; subst hg
  exact region_draw_last (K := Q .normal) b m hm hok hl him (fun s a w hk r => ⟨s, hk, r⟩) r h

theorem AT_seq_draw_last {id : Nat} {l : List Oper} {y : Code} (hne : l ≠ []) (b : Bool) (m : List (Nat × Nat)) (hm : P.follows .mixedOrders = true) (hok : lexOkM b m l.dropLast.toArray = true) (hl : lastOk l.dropLast (l.getLast hne) = true) (him : Iv b m σ)
    (h : ∀ K : AS → Prop, (∀ s s', Gives P { s with hint := σ.hint } s' → (∀ K2 : AS → Prop, (∀ s, AT P gl y s Q → K2 s) → RV P gl l.toArray [l.getLast hne] s' K2) → K s) → RVd P gl l.dropLast.toArray l.dropLast { σ with hint := [] } K) : AT P gl (.seq (.region id l.toArray true) y) σ Q := by
  have e : l.dropLast ++ [l.getLast hne] = l := List.dropLast_concat_getLast hne
  have := AT_draw_last (Q := thenA (fun s => AT P gl y s Q) Q) (id := id) b m hm hok hl him (h _ fun s s' hs hn => ⟨s', hs, by
    have h2 := hn _ (fun _ h => h)
    rw [e]
    exact h2⟩)
  rw [e] at this
  exact AT_seq this
end

def nilled (l : List AV) (ns : List Nat) : List AV := ns.foldl (fun l n => l.set n .nilS) l
attribute [simp] nilled

theorem rep_nilS {lim : Lim} {h : Array Obj} {v : Value} (r : Rep lim h v .nilS) : v = .slice none 0 0 := by cases r; rfl

theorem nilled_rep {lim : Lim} {h : Array Obj} {vs : List Value} : ∀ (ns : List Nat) (l : List AV), RepL lim h vs l → (∀ j ∈ ns, vs[j]? = some (.slice none 0 0)) → RepL lim h vs (nilled l ns)
  | [], l, r, _ => r
  | n :: ns, l, r, hn => by
    refine nilled_rep ns (l.set n .nilS) ?_ (fun j hj => hn j (List.mem_cons_of_mem _ hj))
    have h1 := hn n (List.mem_cons_self ..)
    have e : vs.set n (.slice none 0 0) = vs := by
      apply List.ext_getElem?
      intro i
      rw [List.getElem?_set]
      split
      · rename_i he; subst he
        obtain ⟨h2, -⟩ := List.getElem?_eq_some_iff.1 h1
        rw [if_pos h2, h1]
      · rfl
    have := r.set n (x := .nilS) .nilS
    rwa [e] at this

theorem R.nilled {cx : Cx} {σ : AS} {a : Act} {w : World} (h : R cx σ a w) {t : Nat} {l : List AV} {ns : List Nat} (hl : look t σ.tm = some (.bld l ns)) : R cx { σ with tm := (t, .v (.agg (Pv.nilled l ns)) none) :: σ.tm } a w := by
  obtain ⟨gh, r⟩ := h
  have hu : ∀ {g e}, AS.uses { σ with tm := (t, .v (.agg (Pv.nilled l ns)) none) :: σ.tm } g e → σ.uses g e := by
    rintro g e (⟨s, y, h⟩ | h)
    · simp only [look] at h
      split at h
      · injection h with h; cases h
      · exact .inl ⟨s, y, h⟩
    · exact .inr h
  refine ⟨gh, { frm := r.frm, base := r.base, limB := r.limB, size := r.size, ex := r.ex.sub (fun s q hq => ?_) rfl rfl, gl := r.gl, tmps := fun s y hy => ?_, boxes := r.boxes, inj := r.inj, shs := r.shs, apart := r.apart, tbs := r.tbs, own := fun g e h => r.own g e (hu h), alone := fun g e g' e' h h' => r.alone g e g' e' (hu h) (hu h') }⟩
  · simp only [look] at hq
    split at hq
    · cases hq
    · exact hq
  · simp only [look] at hy
    split at hy
    · rename_i he; subst he
      injection hy with hy; subst hy
      have h1 := (r.tmps t _ hl).1
      obtain ⟨cs, hv, hr⟩ := Rep.agg_iff.1 h1.1
      refine ⟨⟨Rep.agg_iff.2 ⟨cs, hv, nilled_rep ns l hr fun j hj => ?_⟩, by simp⟩, fun k off hk => by cases hk⟩
      have := h1.2 j hj
      rw [hv] at this
      simpa [Value.cells] using this
    · exact r.tmps s y hy

theorem R.openN {cx : Cx} {σ : AS} {a : Act} {w : World} (h : R cx σ a w) (k j e : Nat) {cells : List AV} (hk : look k σ.bx = some cells) (hj : cells[j]? = some .nilS) (hu : σ.usesB (gid k j) = false) :
    R cx { σ with bx := (k, cells.set j (.slice [])) :: σ.bx, tb := (k, j, gid k j, e) :: σ.tb } a w := by
  obtain ⟨gh, r⟩ := h
  have hlk : ∀ k', (look k' ((k, cells.set j (.slice [])) :: σ.bx)).isSome = (look k' σ.bx).isSome := by
    intro k'
    simp only [look]
    split
    · rename_i h; subst h; rw [hk]; rfl
    · rfl
  obtain ⟨hB, hlim, cs, ee, hcs, hrep⟩ := r.boxes k cells hk
  obtain ⟨v, hv, hrv⟩ := hrep.get hj
  obtain rfl := rep_nilS hrv
  have hset : cs.toList.set j (.slice none 0 0) = cs.toList := by
    apply List.ext_getElem?
    intro i
    rw [List.getElem?_set]
    split
    · rename_i he; subst he
      obtain ⟨h2, -⟩ := List.getElem?_eq_some_iff.1 hv
      rw [if_pos h2, hv]
    · rfl
  have r1 : RR cx gh { σ with bx := (k, cells.set j (.slice [])) :: σ.bx } a w := by
    refine { frm := r.frm, base := r.base, limB := r.limB, size := r.size, ex := r.ex.sub (fun _ _ h => h) rfl rfl, gl := r.gl, tmps := fun t x hx => ⟨(r.tmps t x hx).1, fun k' o h => by rw [hlk]; exact (r.tmps t x hx).2 k' o h⟩, boxes := fun k' c hc => ?_, inj := fun k1 k2 h1 h2 => by rw [hlk] at h1 h2; exact r.inj k1 k2 h1 h2, shs := r.shs, apart := fun b k' h1 h2 => by rw [hlk] at h2; exact r.apart b k' h1 h2, tbs := fun k' i g e h => ⟨by rw [hlk]; exact (r.tbs k' i g e h).1, (r.tbs k' i g e h).2⟩, own := fun g e h => ⟨(r.own g e h).1, fun b hb => ⟨fun k' h' => by rw [hlk] at h'; exact ((r.own g e h).2 b hb).1 k' h', ((r.own g e h).2 b hb).2⟩⟩, alone := r.alone }
    simp only [look] at hc
    split at hc
    · rename_i he; subst he
      injection hc with hc; subst hc
      have := hrep.set j (x := .slice []) (.slice0 none 0)
      rw [hset] at this
      exact ⟨hB, hlim, cs, ee, hcs, this⟩
    · exact r.boxes k' c hc
  obtain ⟨gh', r2⟩ := RR.openB k [(gid k j, e)] [j] _ gh r1 (by simp [look]) (fun i hi => by
    simp at hi; subst hi
    show cellAt w.heap (gh.bl k) i = _
    unfold cellAt
    rw [hcs]
    simpa using hv)
  refine ⟨gh', ?_⟩
  have hu' : AS.usesB { σ with bx := (k, cells.set j (.slice [])) :: σ.bx } (gid k j) = false := hu
  have e1 : AS.openB { σ with bx := (k, cells.set j (.slice [])) :: σ.bx } k [(gid k j, e)] [j] = { σ with bx := (k, cells.set j (.slice [])) :: σ.bx, tb := (k, j, gid k j, e) :: σ.tb } := by
    simp only [AS.openB, look, if_true, hu', Bool.false_eq_true, if_false]
  rw [e1] at r2
  exact r2

theorem Gives.nilled {P : Program} {σ : AS} (t : Nat) {l : List AV} {ns : List Nat} (hl : look t σ.tm = some (.bld l ns)) : Gives P σ { σ with tm := (t, .v (.agg (Pv.nilled l ns)) none) :: σ.tm } := fun _ _ _ _ r => r.nilled hl
theorem Gives.openN {P : Program} {σ : AS} (k j e : Nat) {cells : List AV} (hk : look k σ.bx = some cells) (hj : cells[j]? = some .nilS) (hu : σ.usesB (gid k j) = false) :
    Gives P σ { σ with bx := (k, cells.set j (.slice [])) :: σ.bx, tb := (k, j, gid k j, e) :: σ.tb } := fun _ _ _ _ r => r.openN k j e hk hj hu

end Go.Pv
end

section
/- A drawn region by all its orders. Shared objects: calls of methods, objects that a function makes. -/
namespace Go.Pv
open Go

section
variable {P : Program} {gl : Gl} {ops : Array Oper} {Q : Exit → AS → Prop} {σ : AS}

def ANY (P : Program) (gl : Gl) (ops : Array Oper) (Q : Exit → AS → Prop) (fuel : Nat) (listed : Array Bool) (σ : AS) : Prop :=
  ∀ (cx : Cx) (ro : Option Nat) (n : Nat) (a : Act) (w : World), cx.P = P → cx.gl = gl → (gl.rnd = false → ro = none) → R cx σ a w →
    wpAnyIn (Fw ro) n P .any ops (fun e a' w' => ∃ σ', Q e σ' ∧ R cx σ' a' w') fuel listed a w

theorem AT_any {id : Nat} (hm : P.follows .mixedOrders = true) (h : ANY P gl ops Q ops.size (Array.replicate ops.size false) σ) : AT P gl (.region id ops true) σ Q := by
  intro cx ro n a w hP hg hro r
  exact wpIn_region_any hm (h cx ro n a _ hP hg hro (r.drew (w.drawn + 1)))

theorem ANY_done {listed : Array Bool} {fuel : Nat} (hr : Region.ready .any ops listed = []) (h : Q .normal σ) : ANY P gl ops Q fuel listed σ :=
  fun _ _ _ _ _ _ _ _ r => wpAnyIn_done hr ⟨σ, h, r⟩ fuel

def AnyAll (P : Program) (gl : Gl) (ops : Array Oper) (Q : Exit → AS → Prop) (fuel : Nat) (listed : Array Bool) (σ : AS) (rs : List Nat) : Prop :=
  ∀ i ∈ rs, ∃ o, ops[i]? = some o ∧ nextV P gl ops o σ fun s => ANY P gl ops Q fuel (listed.setIfInBounds i true) s

theorem AnyAll.nil {listed : Array Bool} {fuel : Nat} : AnyAll P gl ops Q fuel listed σ [] := fun _ h => by cases h
theorem AnyAll.cons {listed : Array Bool} {fuel i : Nat} {rs : List Nat} {o : Oper} (ho : ops[i]? = some o) (h : ∀ K : AS → Prop, (∀ s, ANY P gl ops Q fuel (listed.setIfInBounds i true) s → K s) → RV P gl ops [o] σ K) (hs : AnyAll P gl ops Q fuel listed σ rs) :
    AnyAll P gl ops Q fuel listed σ (i :: rs) := fun j hj => by
  rcases List.mem_cons.1 hj with rfl | hj
  · exact ⟨o, ho, h _ fun _ h => h⟩
  · exact hs j hj

theorem ANY_ready {listed : Array Bool} {fuel : Nat} (rs : List Nat) (hr : Region.ready .any ops listed = rs) (hne : rs ≠ []) (h : AnyAll P gl ops Q fuel listed σ rs) : ANY P gl ops Q (fuel + 1) listed σ := by
  intro cx ro n a w hP hg hro r
  refine wpAnyIn_all hr hne fun i hi => ?_
  obtain ⟨o, ho, hn⟩ := h i hi
  subst hP; subst hg
  refine wpOpIn_mono (fun a' w' hh => ?_) (opIn_sound (ro := ro) (n := n) ho r hn)
  obtain ⟨σ', hk, r'⟩ := hh
  exact hk cx ro n a' w' rfl rfl hro r'

theorem ANY_take {listed : Array Bool} {fuel : Nat} (i : Nat) {o : Oper} {x : TV} (hy : gl.rnd = false) (hQ : ∀ c s, ¬ Q (.panic c) s) (ho : ops[i]? = some o) (hg : guardB ops o σ = some true) (hd : dstOk P o σ = true)
    (hv : (∃ y, o.op = .move y ∧ x = ev gl σ y) ∨ ∃ t y f k off j, o.op = .fieldAddr t y f ∧ ev gl σ y = .lp k off ∧ foff P t f = some j ∧ x = .lp k (off + j))
    (hs : Region.noSelect ops = true) (hf : Region.free .any ops listed i = true) (hr : (Region.ready .any ops listed).contains i = true)
    (h : ANY P gl ops Q fuel (listed.setIfInBounds i true) (σ.put o.dst x)) : ANY P gl ops Q (fuel + 1) listed σ := by
  intro cx ro n a w hP hgl hro r
  subst hP; subst hgl
  obtain rfl := hro hy
  obtain ⟨gh, r⟩ := r
  have hw : Region.wanted o (yielded ops a.tmps) = true := wanted_of r hg
  have hd' := dst_of hd
  rcases hv with ⟨y, hop, rfl⟩ | ⟨t, y, f, k, off, j, hop, hy, hj, rfl⟩
  · refine wpAnyIn_take (v := a.eval y) rfl ho hs hf hr (fun c a w hq => ?_) ⟨.inl ⟨hw, fun w => by simp [execOp, hop]⟩, fun w => by simp [Oper.about, hop]⟩ ?_
    · obtain ⟨s, hq, -⟩ := hq; exact absurd hq (hQ c s)
    · exact h cx none n _ w rfl rfl (fun _ => rfl) ⟨gh, r.put o.dst hd' (ev_nit _ _ _) (r.ev y) (fun k off h => r.ev_lp y h) fun z g e h => r.ev_uses y h⟩
  · have hx := r.ev y
    rw [hy] at hx
    refine wpAnyIn_take (v := .pointer (some ⟨gh.bl k, off + j, none⟩)) rfl ho hs hf hr (fun c a w hq => ?_) ⟨.inl ⟨hw, fun w => ?_⟩, fun w => by simp [Oper.about, hop]⟩ ?_
    · obtain ⟨s, hq, -⟩ := hq; exact absurd hq (hQ c s)
    · have he : execOp a.eval o = (do pure (.value (← Instr.fieldAt t (a.eval y) f))) := by simp [execOp, hop]
      rw [he, show a.eval y = .pointer (some ⟨gh.bl k, off, none⟩) from hx]
      simp [run_fieldAt hj w]
    · exact h cx none n _ w rfl rfl (fun _ => rfl) ⟨gh, r.put o.dst hd' rfl rfl (fun k' o' h => by injection h with e1 e2; subst e1; exact r.ev_lp y hy) (by simp)⟩

theorem AT_seq_any {id : Nat} {l : List Oper} {y : Code} (ts bs : List Nat) (J : AS → Prop) (hm : P.follows .mixedOrders = true)
    (h : ∀ K : Exit → AS → Prop, (∀ s, lpOk (pick bs s.bx) (pick ts s.tm) = true → J (s.keep ts bs) → K .normal s) → (∀ c s, ¬ K (.panic c) s) → ANY P gl l.toArray K l.length (Array.replicate l.length false) σ) (hy : ∀ s, J s → AT P gl y s Q) : AT P gl (.seq (.region id l.toArray true) y) σ Q := by
  refine AT_seq ?_
  have := AT_any (id := id) (ops := l.toArray) hm (by
    have := h (fun e s => match e with | .normal => AT P gl y s Q | _ => False) (fun s hok hj => AT_keep ts bs hok (hy _ hj)) (fun c s h => h)
    simpa using this)
  exact AT_mono this fun e s hs => by cases e <;> first | exact hs | exact hs.elim
end

section
variable {P : Program} {gl : Gl}

def ValidC (P : Program) (gl : Gl) (f : FuncId) (args : List AV) (b : Nat) (c : List AV) (r : AV) (c' : List AV) : Prop :=
  ValidH P gl f (.gp b 0 :: args) [(b, c)] fun r' sh' => r' = r ∧ sh' = [(b, c')]

theorem validC_of {f : FuncId} {fn : Func} {cd : Code} {args : List AV} {b : Nat} {c c' : List AV} {r : AV} (hint : List (Nat × Nat)) (hf : P.funcs[f]? = some fn) (hb : fn.body = some cd) (hok : fnOk P f = true)
    (h : AT P gl cd (entry fn (.gp b 0 :: args) [(b, c)] hint) (done P fn fun r' s => r' = r ∧ look b s.sh = some c')) (hy : gl.y = none := by rfl) (ht : gl.top = false := by rfl) : ValidC P gl f args b c r c' := by
  refine validH_of hint hf hb hok (AT_mono h fun e s hs => ?_) hy ht
  have key : (∃ r', resOk P fn s r' ∧ r' = r ∧ look b s.sh = some c') → ∃ r', resOk P fn s r' ∧ ∃ sh', (∀ b' cl, look b' sh' = some cl → look b' s.sh = some cl) ∧ (∀ b', (look b' [(b, c)]).isSome = true → (look b' sh').isSome = true) ∧ r' = r ∧ sh' = [(b, c')] :=
    fun ⟨r', h1, h2, h3⟩ => ⟨r', h1, [(b, c')], fun b' cl h => (by
      simp only [look] at h
      split at h
      · rename_i he; subst he; injection h with h; subst h; exact h3
      · cases h), fun b' h => (by
      simp only [look] at h ⊢
      split
      · rfl
      · rename_i hne; simp [hne] at h), h2, rfl⟩
  cases e with
  | normal => exact key hs
  | ret => exact key hs
  | exit id => exact hs
  | goto l => exact hs
  | panic ch => exact hs
  | outgrown => exact hs

theorem callV_C {f : FuncId} {args : List AV} {σ : AS} {d : Option Nat} {K : AS → Prop} {b : Nat} {c c' : List AV} {r : AV} (hy : gl.y = none) (h : ValidC P gl f args b c r c') (hsh : σ.sh = [(b, c)]) (k : K ({ σ with sh := [(b, c')] }.put d (.v r none))) : callV P gl f (.gp b 0 :: args) σ d K :=
  .inl ⟨hy, [(b, c)], _, id, ⟨fun sh' b' c' h => by rw [look_append]; rw [show look b' sh' = some c' from h]; rfl, fun b' c' h => by rw [hsh]; exact h⟩, h, fun r' sh' hp => by obtain ⟨rfl, rfl⟩ := hp; exact k⟩

def ValidN (P : Program) (gl : Gl) (f : FuncId) (args : List AV) (c : List AV) : Prop :=
  ValidH P gl f args [] fun r sh' => ∃ b, r = .gp b 0 ∧ sh' = [(b, c)]

def TV.esc (k b : Nat) : TV → TV
  | .lp k' o => if k' = k then .v (.gp b o) none else .lp k' o
  | x => x
def AS.esc (σ : AS) (k b : Nat) (cells : List AV) : AS := { σ with tm := σ.tm.map fun p => (p.1, p.2.esc k b), bx := σ.bx.filter fun p => !(p.1 == k), sh := (b, cells) :: σ.sh }

theorem look_map_esc {k b t : Nat} : ∀ (tm : List (Nat × TV)), look t (tm.map fun p => (p.1, p.2.esc k b)) = (look t tm).map (·.esc k b)
  | [] => rfl
  | (j, x) :: r => by
    simp only [List.map_cons, look]
    split
    · rfl
    · exact look_map_esc r
theorem look_filter_ne {α : Type} {k k' : Nat} (h : k' ≠ k) : ∀ (l : List (Nat × α)), look k' (l.filter fun p => !(p.1 == k)) = look k' l
  | [] => rfl
  | (j, x) :: r => by
    by_cases hj : j = k
    · subst hj
      simp only [List.filter_cons, BEq.rfl, Bool.not_true, Bool.false_eq_true, if_false, look, if_neg (Ne.symm h)]
      exact look_filter_ne h r
    · have hj' : (j == k) = false := by simpa using hj
      simp only [List.filter_cons, hj', Bool.not_false, if_true, look]
      split
      · rfl
      · exact look_filter_ne h r
theorem look_filter_eq {α : Type} {k : Nat} : ∀ (l : List (Nat × α)), look k (l.filter fun p => !(p.1 == k)) = none
  | [] => rfl
  | (j, x) :: r => by
    by_cases hj : j = k
    · subst hj
      simp only [List.filter_cons, BEq.rfl, Bool.not_true, Bool.false_eq_true, if_false]
      exact look_filter_eq r
    · have hj' : (j == k) = false := by simpa using hj
      simp only [List.filter_cons, hj', Bool.not_false, if_true, look, if_neg hj]
      exact look_filter_eq r

theorem RR.esc {cx : Cx} {gh : Gh} {σ : AS} {a : Act} {w : World} (r : RR cx gh σ a w) {k : Nat} {cells : List AV} (hk : look k σ.bx = some cells) (htb : (σ.tb.all fun q => !(q.1 == k)) = true) (hcl : noClP k σ.tm) :
    RR cx gh (σ.esc k (gh.bl k) cells) a w := by
  have hks : (look k σ.bx).isSome = true := by simp [hk]
  have hne : ∀ {k'}, (look k' (σ.esc k (gh.bl k) cells).bx).isSome = true → k' ≠ k ∧ (look k' σ.bx).isSome = true := by
    intro k' h
    by_cases he : k' = k
    · subst he
      rw [show (σ.esc k' (gh.bl k') cells).bx = σ.bx.filter fun p => !(p.1 == k') from rfl, look_filter_eq] at h; cases h
    · rw [show (σ.esc k (gh.bl k) cells).bx = σ.bx.filter fun p => !(p.1 == k) from rfl, look_filter_ne he] at h
      exact ⟨he, h⟩
  have hin : ∀ {k'}, k' ≠ k → look k' (σ.esc k (gh.bl k) cells).bx = look k' σ.bx := fun he => look_filter_ne he _
  have hu : ∀ {g e}, AS.uses (σ.esc k (gh.bl k) cells) g e → σ.uses g e := by
    rintro g e (⟨t, x, h⟩ | h)
    · rw [show (σ.esc k (gh.bl k) cells).tm = σ.tm.map fun p => (p.1, p.2.esc k (gh.bl k)) from rfl, look_map_esc] at h
      obtain ⟨y, hy, he⟩ := Option.map_eq_some_iff.1 h
      cases y with
      | lp k' o => simp only [TV.esc] at he; split at he <;> simp at he
      | v z g' => simp only [TV.esc] at he; rw [he] at hy; exact .inl ⟨t, x, hy⟩
      | un => cases he
      | bld l ns => cases he
      | it k9 => cases he
      | cl f ks => cases he
    · exact .inr h
  obtain ⟨hB, hbox⟩ := r.boxes k cells hk
  refine { frm := r.frm, base := r.base, limB := r.limB, size := r.size, ex := r.ex.sub (fun t q hq => ?_) rfl rfl, gl := r.gl, tmps := fun t x hx => ?_, boxes := fun k' c hc => ?_, inj := fun k1 k2 h1 h2 => r.inj k1 k2 (hne h1).2 (hne h2).2, shs := fun b c hb => ?_, apart := fun b k' h1 h2 => ?_, tbs := fun k' j g e hq => ?_, own := fun g e h => ?_, alone := fun g e g' e' h h' => r.alone g e g' e' (hu h) (hu h') }
  · rw [show (σ.esc k (gh.bl k) cells).tm = σ.tm.map fun p => (p.1, p.2.esc k (gh.bl k)) from rfl, look_map_esc] at hq
    obtain ⟨y, hy, he⟩ := Option.map_eq_some_iff.1 hq
    cases y with
    | lp k' o => simp only [TV.esc] at he; split at he <;> cases he
    | it k9 => simp only [TV.esc] at he; rw [he] at hy; exact hy
    | v z g' => cases he
    | un => cases he
    | bld l ns => cases he
    | cl f ks => cases he
  · rw [show (σ.esc k (gh.bl k) cells).tm = σ.tm.map fun p => (p.1, p.2.esc k (gh.bl k)) from rfl, look_map_esc] at hx
    obtain ⟨y, hy, rfl⟩ := Option.map_eq_some_iff.1 hx
    have h1 := r.tmps t y hy
    cases y with
    | lp k' o =>
      simp only [TV.esc]
      by_cases he : k' = k
      · subst he
        rw [if_pos rfl]
        have h2 : a.tmps.getD t undef = .pointer (some ⟨gh.bl k', o, none⟩) := h1.1
        refine ⟨⟨?_, by simp⟩, fun k2 off h => by cases h⟩
        rw [h2]; exact .gp _ _
      · rw [if_neg he]
        refine ⟨h1.1, fun k2 off h => ?_⟩
        injection h with e1 e2; subst e1
        rw [hin he]; exact h1.2 k' o rfl
    | v z g' => exact ⟨h1.1, fun k2 off h => by cases h⟩
    | un => exact ⟨h1.1, fun k2 off h => by cases h⟩
    | bld l ns => exact ⟨h1.1, fun k2 off h => by cases h⟩
    | it k9 => exact ⟨h1.1, fun k2 off h => by cases h⟩
    | cl f ks => exact ⟨h1.1, fun k2 off h => by cases h⟩
  · have hn := hne (k' := k') (by rw [hc]; rfl)
    rw [hin hn.1] at hc
    exact r.boxes k' c hc
  · rw [show (σ.esc k (gh.bl k) cells).sh = (gh.bl k, cells) :: σ.sh from rfl] at hb
    simp only [look] at hb
    split at hb
    · rename_i he; subst he
      injection hb with hb; subst hb
      exact ⟨.inr hB, hbox⟩
    · exact r.shs b c hb
  · have hn := hne h2
    rw [show (σ.esc k (gh.bl k) cells).sh = (gh.bl k, cells) :: σ.sh from rfl] at h1
    simp only [look] at h1
    split at h1
    · rename_i he; subst he
      exact fun h => hn.1 (r.inj k' k hn.2 hks h)
    · exact r.apart b k' h1 hn.2
  · have hq' : (k', j, g, e) ∈ σ.tb := hq
    have h1 := r.tbs k' j g e hq'
    have hkk : k' ≠ k := by
      have := List.all_eq_true.1 htb _ hq'
      simpa using this
    exact ⟨by rw [hin hkk]; exact h1.1, h1.2⟩
  · have h1 := r.own g e (hu h)
    refine ⟨h1.1, fun b hb => ⟨fun k' hk' => (h1.2 b hb).1 k' (hne hk').2, ?_⟩⟩
    rw [show (σ.esc k (gh.bl k) cells).sh = (gh.bl k, cells) :: σ.sh from rfl]
    simp only [look]
    rw [if_neg ((h1.2 b hb).1 k hks)]
    exact (h1.2 b hb).2

theorem AT_esc {σ : AS} {Q : Exit → AS → Prop} {c : Code} (k : Nat) {cells : List AV} (hk : look k σ.bx = some cells) (htb : (σ.tb.all fun q => !(q.1 == k)) = true) (hcl : noClP k σ.tm) (h : ∀ b, AT P gl c (σ.esc k b cells) Q) : AT P gl c σ Q := by
  intro cx ro n a w hP hg hro r
  obtain ⟨gh, r⟩ := r
  exact h (gh.bl k) cx ro n a w hP hg hro ⟨gh, r.esc hk htb hcl⟩
end
attribute [simp] TV.esc AS.esc

end Go.Pv
end

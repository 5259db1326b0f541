import Derived.Test.YtpjkdaechknogaaDoorPvN
import Derived.Scope
set_option linter.all false
section
/- Code over the abstract state: statements, loops, functions. -/
namespace Go.Pv
open Go

/-- The globals alone. -/
def G0 (g : Nat → Option (List AV)) (rnd : Bool) : Gl := ⟨g, none, rnd⟩
@[simp] theorem Gz_g (g : Nat → Option (List AV)) (rnd : Bool) : (G0 g rnd).g = g := rfl
@[simp] theorem Gz_y (g : Nat → Option (List AV)) (rnd : Bool) : (G0 g rnd).y = none := rfl
/-- The globals, and an iteration under way. -/
def G1 (g : Nat → Option (List AV)) (Y : Ys) : Gl := ⟨g, some Y, false⟩
@[simp] theorem Gw_g (g : Nat → Option (List AV)) (Y : Ys) : (G1 g Y).g = g := rfl
@[simp] theorem Gw_y (g : Nat → Option (List AV)) (Y : Ys) : (G1 g Y).y = some Y := rfl

def AT (P : Program) (gl : Gl) (c : Code) (σ : AS) (Q : Exit → AS → Prop) : Prop :=
  ∀ (cx : Cx) (ro : Option Nat) (n : Nat) (a : Act) (w : World), cx.P = P → cx.gl = gl → (gl.rnd = false → ro = none) → R cx σ a w → c.wpIn (Fw ro) n P (fun e a' w' => ∃ σ', Q e σ' ∧ R cx σ' a' w') a w

section
variable {P : Program} {gl : Gl} {σ : AS} {Q : Exit → AS → Prop}

def thenA (next : AS → Prop) (Q : Exit → AS → Prop) : Exit → AS → Prop
  | .normal, σ => next σ
  | e, σ => Q e σ

theorem AT_mono {c : Code} {Q' : Exit → AS → Prop} (h : AT P gl c σ Q) (hq : ∀ e s, Q e s → Q' e s) : AT P gl c σ Q' :=
  fun cx ro n a w hP hg hro r => wpIn_mono (h cx ro n a w hP hg hro r) fun _ _ _ ⟨s, hs, r'⟩ => ⟨s, hq _ _ hs, r'⟩

theorem AT_weak {c : Code} {σ' : AS} (hle : σ'.le σ) (h : AT P gl c σ' Q) : AT P gl c σ Q :=
  fun cx ro n a w hP hg hro r => h cx ro n a w hP hg hro (let ⟨gh, rr⟩ := r; ⟨gh, rr.weak hle⟩)

theorem AT_keep {c : Code} (ts bs : List Nat) (hok : lpOk (pick bs σ.bx) (pick ts σ.tm) = true) (h : AT P gl c (σ.keep ts bs) Q) : AT P gl c σ Q := AT_weak (AS.keep_le hok) h

theorem AT_skip (h : Q .normal σ) : AT P gl .skip σ Q := fun _ _ _ _ _ _ _ _ r => wpIn_skip ⟨σ, h, r⟩
theorem AT_ret (h : Q .ret σ) : AT P gl .ret σ Q := fun _ _ _ _ _ _ _ _ r => wpIn_ret ⟨σ, h, r⟩
theorem AT_exit {id : Nat} (h : Q (.exit id) σ) : AT P gl (.exit id) σ Q := fun _ _ _ _ _ _ _ _ r => wpIn_exit ⟨σ, h, r⟩

theorem AT_seq {x y : Code} (h : AT P gl x σ (thenA (fun s => AT P gl y s Q) Q)) : AT P gl (.seq x y) σ Q := by
  intro cx ro n a w hP hg hro r
  refine wpIn_seq (wpIn_mono (h cx ro n a w hP hg hro r) fun e a' w' ⟨s, hs, r'⟩ => ?_)
  cases e with
  | normal => exact hs cx ro n a' w' hP hg hro r'
  | exit id => exact ⟨s, hs, r'⟩
  | goto l => exact ⟨s, hs, r'⟩
  | ret => exact ⟨s, hs, r'⟩
  | panic ch => exact ⟨s, hs, r'⟩
  | outgrown => exact ⟨s, hs, r'⟩

theorem AT_seq_k {x y : Code} (h : ∀ K : AS → Prop, (∀ s, AT P gl y s Q → K s) → AT P gl x σ (thenA K Q)) : AT P gl (.seq x y) σ Q := AT_seq (h _ fun _ h => h)

theorem AT_cond {c : Operand} {x y : Code} {b : Bool} {g : Option (Nat × Nat)} (hc : ev gl σ c = .v (.bool b) g) (ht : b = true → AT P gl x σ Q) (hf : b = false → AT P gl y σ Q) : AT P gl (.cond c x y) σ Q := by
  intro cx ro n a w hP hg hro r
  obtain ⟨gh, rr⟩ := r
  have h1 := rr.ev c
  rw [hg, hc] at h1
  have hb := rep_bool h1.1
  refine wpIn_cond hb ?_
  cases b with
  | true => exact ht rfl cx ro n a w hP hg hro ⟨gh, rr⟩
  | false => exact hf rfl cx ro n a w hP hg hro ⟨gh, rr⟩

def inBlockA (id : Nat) (Q : Exit → AS → Prop) : Exit → AS → Prop
  | .exit id', s => if id' = id then Q .normal s else Q (.exit id') s
  | e, s => Q e s

theorem AT_block {id : Nat} {c : Code} (h : AT P gl c σ (inBlockA id Q)) : AT P gl (.block id c) σ Q := by
  intro cx ro n a w hP hg hro r
  refine wpIn_block (wpIn_mono (h cx ro n a w hP hg hro r) fun e a' w' ⟨s, hs, r'⟩ => ?_)
  cases e with
  | exit id' =>
    simp only [inBlockA] at hs
    simp only [Exit.inBlock]
    split at hs
    · rename_i he; rw [if_pos he]; exact ⟨s, hs, r'⟩
    · rename_i he; rw [if_neg he]; exact ⟨s, hs, r'⟩
  | normal => exact ⟨s, hs, r'⟩
  | goto l => exact ⟨s, hs, r'⟩
  | ret => exact ⟨s, hs, r'⟩
  | panic ch => exact ⟨s, hs, r'⟩
  | outgrown => exact ⟨s, hs, r'⟩

/-! ### Scopes -/
theorem stepR_scope {P : Program} {b : Frame} {a : Act} {k : List Item} {cs : List Frame} {w : World} {c : Code} :
    step P (lone (b.atR a (.code (.scope c) :: k)) cs w) = .next (lone (b.atR a (.code c :: .inScope c :: k)) cs w) :=
  step_lone_go (by simp [stepG, stepG.exec, Frame.atR])
theorem stepR_inScope {P : Program} {b : Frame} {a : Act} {k : List Item} {cs : List Frame} {w : World} {c : Code} :
    step P (lone (b.atR a (.inScope c :: k)) cs w) = .next (lone (b.atR a k) cs w) :=
  step_lone_go (by simp [stepG, stepG.exec, Frame.atR])

theorem wpIn_scope_straight {F : Fence} {n : Nat} {P : Program} {Q : Exit → Act → World → Prop} {a : Act} {w : World} {c : Code} (h : c.wpIn F n P (Exit.noGoto Q) a w) : (Code.scope c).wpIn F n P Q a w := by
  intro b k cs hro hb hr
  have h0 : (lone (b.atR a (.code (.scope c) :: k)) cs w).fenced P F := fenced_calm hb hr rfl
  obtain ⟨e, a₁, w₁, hq, harr⟩ := h b (.inScope c :: k) cs hro hb hr
  cases e with
  | normal => exact ⟨.normal, a₁, w₁, hq, .head h0 stepR_scope (StepsIn.trans harr (.one (fenced_calm hb hr rfl) stepR_inScope))⟩
  | exit id =>
    have hx : exitTo id (.inScope c :: k) = exitTo id k := by simp [exitTo]
    exact ⟨_, a₁, w₁, hq, fun k' hk => .head h0 stepR_scope (harr.1 k' (by rw [hx]; exact hk)),
      fun hr' hk => let ⟨k₁, h1, h2⟩ := harr.2 hr' (by rw [hx]; exact hk); ⟨k₁, h1, .head h0 stepR_scope h2⟩⟩
  | goto l => exact hq.elim
  | ret => exact ⟨_, a₁, w₁, hq, .of_steps (.one h0 stepR_scope) harr⟩
  | panic ch => exact ⟨_, a₁, w₁, hq, .of_steps (.one h0 stepR_scope) harr⟩
  | outgrown => exact ⟨_, a₁, w₁, hq, .of_steps (.one h0 stepR_scope) harr⟩

theorem AT_label {l : Nat} (h : Q .normal σ) : AT P gl (.label l) σ Q := fun _ _ _ _ _ _ _ _ r => wpIn_label ⟨σ, h, r⟩

def noGotoA (Q : Exit → AS → Prop) : Exit → AS → Prop
  | .goto _, _ => False
  | e, s => Q e s

/-- A scope in which nobody jumps. -/
theorem AT_scope {c : Code} (h : AT P gl c σ (noGotoA Q)) : AT P gl (.scope c) σ Q := by
  intro cx ro n a w hP hg hro r
  refine wpIn_scope_straight (wpIn_mono (h cx ro n a w hP hg hro r) fun e a' w' ⟨s, hs, r'⟩ => ?_)
  cases e with
  | goto l => exact hs.elim
  | exit id => exact ⟨s, hs, r'⟩
  | normal => exact ⟨s, hs, r'⟩
  | ret => exact ⟨s, hs, r'⟩
  | panic ch => exact ⟨s, hs, r'⟩
  | outgrown => exact ⟨s, hs, r'⟩

theorem wpIn_loopG {F : Fence} {n : Nat} {c : Code} {Q : Exit → Act → World → Prop} (J : Nat → Act → World → Prop) (j0 : Nat) {a : Act} {w : World} (h₀ : J j0 a w)
    (round : ∀ j a w, J j a w → c.wpIn F n P (Exit.then (fun a' w' => ∃ m, m < j ∧ J m a' w') Q) a w) : (Code.loop c).wpIn F n P Q a w := by
  intro b k cs hro hb hr
  have key : ∀ j a w, J j a w →
      ∃ e a' w', Q e a' w' ∧ ArrivesIn (Machine.fenced P F) P (lone (b.atR a (.code c :: .inLoop c :: k)) cs w) b k cs e a' w' := by
    intro j
    induction j using Nat.strongRecOn with
    | _ j ih =>
      intro a w hI
      obtain ⟨e, a₁, w₁, hq, harr⟩ := round j a w hI b (.inLoop c :: k) cs hro hb hr
      cases e with
      | normal =>
        obtain ⟨m, hlt, hI₁⟩ := hq
        obtain ⟨e₂, a₂, w₂, hq₂, harr₂⟩ := ih m hlt a₁ w₁ hI₁
        exact ⟨e₂, a₂, w₂, hq₂, .of_steps (StepsIn.trans harr (.one (fenced_calm hb hr rfl) stepR_inLoop)) harr₂⟩
      | exit id => exact ⟨_, a₁, w₁, hq, .pass (x := .inLoop c) rfl (fun _ _ => .inl (by simp)) harr⟩
      | goto l => exact ⟨_, a₁, w₁, hq, .pass (x := .inLoop c) rfl (fun _ _ => .inl (by simp)) harr⟩
      | ret => exact ⟨_, a₁, w₁, hq, .pass (x := .inLoop c) rfl (fun _ _ => .inl (by simp)) harr⟩
      | panic ch => exact ⟨_, a₁, w₁, hq, .pass (x := .inLoop c) rfl (fun _ _ => .inl (by simp)) harr⟩
      | outgrown => exact ⟨_, a₁, w₁, hq, .pass (x := .inLoop c) rfl (fun _ _ => .inl (by simp)) harr⟩
  obtain ⟨e, a', w', hq, harr⟩ := key j0 a w h₀
  exact ⟨e, a', w', hq, .of_steps (.one (fenced_calm hb hr rfl) stepR_loop) harr⟩

/-- A loop: what holds at each head (I), with a number that goes down. -/
theorem AT_loop {c : Code} (I : Nat → AS → Prop) (j0 : Nat) (h0 : I j0 σ) (round : ∀ j s, I j s → AT P gl c s (thenA (fun s' => ∃ m, m < j ∧ I m s') Q)) : AT P gl (.loop c) σ Q := by
  intro cx ro n a w hP hg hro r
  refine wpIn_loopG (fun j a w => ∃ s, I j s ∧ R cx s a w) j0 ⟨σ, h0, r⟩ fun j a w ⟨s, hI, r⟩ => ?_
  refine wpIn_mono (round j s hI cx ro n a w hP hg hro r) fun e a' w' ⟨s', hs, r'⟩ => ?_
  cases e with
  | normal => obtain ⟨m, hm, hI'⟩ := hs; exact ⟨m, hm, s', hI', r'⟩
  | exit id => exact ⟨s', hs, r'⟩
  | goto l => exact ⟨s', hs, r'⟩
  | ret => exact ⟨s', hs, r'⟩
  | panic ch => exact ⟨s', hs, r'⟩
  | outgrown => exact ⟨s', hs, r'⟩

/-- As AT_loop, the state at each head cut down to these temporaries and boxes. -/
theorem AT_loopK {c : Code} (ts bs : List Nat) (I : Nat → AS → Prop) (j0 : Nat) (hok : lpOk (pick bs σ.bx) (pick ts σ.tm) = true) (h0 : I j0 (σ.keep ts bs))
    (round : ∀ j s, I j s → AT P gl c s (thenA (fun s' => lpOk (pick bs s'.bx) (pick ts s'.tm) = true ∧ ∃ m, m < j ∧ I m (s'.keep ts bs)) Q)) : AT P gl (.loop c) σ Q := by
  refine AT_keep ts bs hok (AT_loop (fun j s => I j s) j0 h0 fun j s hI => ?_)
  intro cx ro n a w hP hg hro r
  refine wpIn_mono (round j s hI cx ro n a w hP hg hro r) fun e a' w' ⟨s', hs, r'⟩ => ?_
  cases e with
  | normal =>
    obtain ⟨h1, m, hm, hI'⟩ := hs
    obtain ⟨gh, rr⟩ := r'
    exact ⟨s'.keep ts bs, ⟨m, hm, hI'⟩, gh, rr.weak (AS.keep_le h1)⟩
  | exit id => exact ⟨s', hs, r'⟩
  | goto l => exact ⟨s', hs, r'⟩
  | ret => exact ⟨s', hs, r'⟩
  | panic ch => exact ⟨s', hs, r'⟩
  | outgrown => exact ⟨s', hs, r'⟩

theorem AT_region {id : Nat} {l : List Oper} (h : RV P gl l.toArray l σ (Q .normal)) : AT P gl (.region id l.toArray false) σ Q := by
  intro cx ro n a w hP hg hro r
  subst hP; subst hg
  exact region_sound (K := Q .normal) (fun s a w hk r => ⟨s, hk, r⟩) r (by simpa using h)

theorem AT_draw_m {id : Nat} {l : List Oper} (b : Bool) (m : List (Nat × Nat)) (hm : P.follows .mixedOrders = true) (hok : lexOkM b m l.toArray = true) (him : Iv b m σ) (h : RVd P gl l.toArray l { σ with hint := [] } fun s => Q .normal { s with hint := σ.hint }) : AT P gl (.region id l.toArray true) σ Q := by
  intro cx ro n a w hP hg hro r
  subst hP; subst hg
  exact region_draw_sound (K := Q .normal) b m hm hok him (fun s a w hk r => ⟨s, hk, r⟩) r (by simpa using h)
theorem AT_draw {id : Nat} {l : List Oper} (hm : P.follows .mixedOrders = true) (hok : lexOk l.toArray = true) (h : RVd P gl l.toArray l { σ with hint := [] } fun s => Q .normal { s with hint := σ.hint }) : AT P gl (.region id l.toArray true) σ Q :=
  AT_draw_m false [] hm hok ⟨rfl, fun h => by cases h⟩ h

theorem AT_region_q {id : Nat} {l : List Oper} (h : ∀ K : AS → Prop, (∀ s, Q .normal s → K s) → RV P gl l.toArray l σ K) : AT P gl (.region id l.toArray false) σ Q := AT_region (h _ fun _ h => h)

theorem AT_seq_region {id : Nat} {l : List Oper} {y : Code} (h : ∀ K : AS → Prop, (∀ s, AT P gl y s Q → K s) → RV P gl l.toArray l σ K) : AT P gl (.seq (.region id l.toArray false) y) σ Q :=
  AT_seq (AT_region (h _ fun _ h => h))

/-- A drawn region; the hints stay aside. -/
theorem AT_draw_q {id : Nat} {l : List Oper} (hm : P.follows .mixedOrders = true) (hok : lexOk l.toArray = true) (h : ∀ K : AS → Prop, (∀ s, Q .normal { s with hint := σ.hint } → K s) → RVd P gl l.toArray l { σ with hint := [] } K) : AT P gl (.region id l.toArray true) σ Q :=
  AT_draw hm hok (h _ fun _ h => h)

theorem AT_seq_draw {id : Nat} {l : List Oper} {y : Code} (hm : P.follows .mixedOrders = true) (hok : lexOk l.toArray = true) (h : ∀ K : AS → Prop, (∀ s, AT P gl y { s with hint := σ.hint } Q → K s) → RVd P gl l.toArray l { σ with hint := [] } K) : AT P gl (.seq (.region id l.toArray true) y) σ Q :=
  AT_seq (AT_draw hm hok (h _ fun _ h => h))

/-- As AT_draw_q; m: which boxes the temporaries point into whose loads come beside stores. -/
theorem AT_draw_mq {id : Nat} {l : List Oper} (b : Bool) (m : List (Nat × Nat)) (hm : P.follows .mixedOrders = true) (hok : lexOkM b m l.toArray = true) (him : Iv b m σ) (h : ∀ K : AS → Prop, (∀ s, Q .normal { s with hint := σ.hint } → K s) → RVd P gl l.toArray l { σ with hint := [] } K) : AT P gl (.region id l.toArray true) σ Q :=
  AT_draw_m b m hm hok him (h _ fun _ h => h)
theorem AT_seq_draw_m {id : Nat} {l : List Oper} {y : Code} (b : Bool) (m : List (Nat × Nat)) (hm : P.follows .mixedOrders = true) (hok : lexOkM b m l.toArray = true) (him : Iv b m σ) (h : ∀ K : AS → Prop, (∀ s, AT P gl y { s with hint := σ.hint } Q → K s) → RVd P gl l.toArray l { σ with hint := [] } K) : AT P gl (.seq (.region id l.toArray true) y) σ Q :=
  AT_seq (AT_draw_m b m hm hok him (h _ fun _ h => h))

/-- As AT_loopK, what is owed at the round's end behind a name. -/
theorem AT_loop_q {c : Code} (ts bs : List Nat) (I : Nat → AS → Prop) (j0 : Nat) (hok : lpOk (pick bs σ.bx) (pick ts σ.tm) = true) (h0 : I j0 (σ.keep ts bs))
    (round : ∀ j s, I j s → ∀ K : AS → Prop, (∀ s', lpOk (pick bs s'.bx) (pick ts s'.tm) = true → ∀ m, m < j → I m (s'.keep ts bs) → K s') → AT P gl c s (thenA K Q)) : AT P gl (.loop c) σ Q :=
  AT_loopK ts bs I j0 hok h0 fun j s hI => round j s hI _ fun _ h1 m hm h2 => ⟨h1, m, hm, h2⟩

/-! ### Functions -/
def mkTm : Nat → List AV → List (Nat × TV)
  | _, [] => []
  | i, x :: r => (i, .v x none) :: mkTm (i + 1) r

def entry (fn : Func) (args : List AV) (sh : List (Nat × List AV)) (hint : List (Nat × Nat)) : AS :=
  { n := args.length + (fn.ntmps - args.length), tm := mkTm 0 args, bx := [], tb := [], sh := sh, hint := hint }

def resOne (P : Program) (σ : AS) : ResultVar → AV → Prop
  | .tmp t, x => (σ.get t).av = some x
  | .cell t ty, x => match loadOpR P σ ty (σ.get t) with
    | .val c y => c ∧ y.av = some x
    | _ => False

def resAll (P : Program) (σ : AS) : List ResultVar → List AV → Prop
  | [], [] => True
  | v :: r, x :: xs => resOne P σ v x ∧ resAll P σ r xs
  | _, _ => False

def resOk (P : Program) (fn : Func) (σ : AS) (r : AV) : Prop :=
  match fn.results.toList with
  | [v] => resOne P σ v r
  | vs => ∃ xs, r = .tup xs ∧ resAll P σ vs xs

/-- What is owed where a function's body is left. -/
def done (P : Program) (fn : Func) (post : AV → AS → Prop) : Exit → AS → Prop
  | .ret, σ | .normal, σ => ∃ r, resOk P fn σ r ∧ post r σ
  | _, _ => False

theorem look_mkTm : ∀ (args : List AV) (i t : Nat) (x : TV), look t (mkTm i args) = some x → ∃ j y, t = i + j ∧ args[j]? = some y ∧ x = .v y none
  | [], i, t, x, h => by cases h
  | y :: r, i, t, x, h => by
    simp only [mkTm, look] at h
    split at h
    · rename_i he
      injection h with h
      exact ⟨0, y, by omega, rfl, h.symm⟩
    · obtain ⟨j, z, h1, h2, h3⟩ := look_mkTm r (i + 1) t x h
      exact ⟨j + 1, z, by omega, by simpa using h2, h3⟩

def resSem (tmps : Array Value) : ResultVar → Sem Value
  | .tmp t => pure (tmps.getD t undef)
  | .cell ad t => do loadVar t (← asAddr (tmps.getD ad undef))

theorem results_eq (fn : Func) (tmps : Array Value) : results fn tmps = (do let vs ← fn.results.mapM (resSem tmps); pure (if h : vs.size = 1 then vs[0] else .tuple vs)) := by
  unfold results
  congr 2

theorem run_resOne {cx : Cx} {gh : Gh} {a : Act} {w : World} (r : RR cx gh σ a w) {v : ResultVar} {x : AV} (h : resOne cx.P σ v x) :
    ∃ u, (resSem a.tmps v).run cx.P w = .ok u w ∧ Rep gh.lim w.heap u x := by
  cases v with
  | tmp t => exact ⟨_, rfl, r.av (.tmp t) x h⟩
  | cell t ty =>
    simp only [resOne] at h
    split at h
    · rename_i c y hl
      obtain ⟨hc, hy⟩ := h
      have hok := ok_load (o := ⟨none, .load ty (.tmp t), 0, "", #[], none⟩) r rfl hl hc
      obtain ⟨u, w', gh', hrun, -, -, -⟩ := hok
      -- the same load, by asAddr
      have hev := r.ev (.tmp t)
      have hp : ∃ ad, a.eval (.tmp t) = .pointer (some ad) := by
        simp only [Pv.ev] at hev
        unfold loadOpR at hl
        split at hl
        · rename_i l g hk; rw [hk] at hev; obtain ⟨b, off, vs, hv, -, -⟩ := Rep.ro_iff.1 hev.1; exact ⟨_, hv⟩
        · rename_i k off hk; rw [hk] at hev; exact ⟨_, hev⟩
        · rename_i b off g hk; rw [hk] at hev; exact ⟨_, rep_gp hev.1⟩
        · cases hl
      obtain ⟨ad, had⟩ := hp
      have hyl := ok_load (o := ⟨none, .load ty (.tmp t), 0, "", #[], none⟩) r rfl hl hc
      have key : ∃ u, (loadVar ty ad).run cx.P w = .ok u w ∧ TRep gh w.heap u y := by
        have hx := r.ev (.tmp t)
        simp only [Pv.ev] at hx
        unfold loadOpR at hl
        split at hl
        · rename_i l g hk
          rw [hk] at hx
          obtain ⟨b, off, vs, hv, hrl, hcell⟩ := Rep.ro_iff.1 hx.1
          rw [had] at hv; injection hv with hv; injection hv with hv; subst hv
          exact loadR_sound b off vs hrl (fun j u hu => (hcell j u hu).2) hl hc
        · rename_i k off hk
          rw [hk] at hx
          have hv : a.eval (.tmp t) = .pointer (some ⟨gh.bl k, off, none⟩) := hx
          rw [had] at hv; injection hv with hv; injection hv with hv; subst hv
          split at hl
          · rename_i cells hcells
            obtain ⟨vs, hrl, hcell⟩ := r.cells_at hcells
            have hcell' : ∀ j u, (vs.drop off)[j]? = some u → cellAt w.heap (gh.bl k) (off + j) = some u := fun j u hu => by
              rw [List.getElem?_drop] at hu; exact hcell _ u hu
            split at hl
            · exact loadR_sound (gh.bl k) off (vs.drop off) (hrl.drop off) hcell' hl hc
            · unfold retag at hl
              split at hl
              · rename_i c' y' hl'
                simp only [OR.val.injEq] at hl
                obtain ⟨rfl, rfl⟩ := hl
                obtain ⟨u, h1, h2⟩ := loadR_sound (gh.bl k) off (vs.drop off) (hrl.drop off) hcell' hl' hc
                obtain ⟨v', w'', gh'', hrun2, -, ht, -, -⟩ := hyl
                refine ⟨u, h1, h2.1, fun p hp => ?_⟩
                cases htag : tagAt σ.tb k off with
                | none => rw [htag] at hp; cases hp
                | some q =>
                  rw [htag] at hp; injection hp with hp; subst hp
                  have htb := r.tbs k off q.1 q.2 (tagAt_mem htag)
                  have hcell0 : w.cell? ⟨gh.bl k, off, none⟩ = some (gh.gv q.1) := by rw [cell?_eq]; exact htb.2
                  have hagg : aggO cx.P ty = some false := by assumption
                  unfold loadVar at h1
                  simp [run_isAgg hagg, hcell0] at h1
                  exact h1.symm
              · rename_i hl'
                exact loadR_sound (gh.bl k) off (vs.drop off) (hrl.drop off) hcell' hl hc
            · cases hl
          · cases hl
        · rename_i b off g hk
          rw [hk] at hx
          have hv := rep_gp hx.1
          rw [had] at hv; injection hv with hv; injection hv with hv; subst hv
          split at hl
          · rename_i cells hcells
            obtain ⟨-, -, cs, e, hcs, hrep⟩ := r.shs b cells hcells
            refine loadR_sound b off (cs.toList.drop off) (hrep.drop off) (fun j u hu => ?_) hl hc
            rw [List.getElem?_drop] at hu
            unfold cellAt
            rw [hcs]
            simpa using hu
          · cases hl
        · cases hl
      obtain ⟨u, h1, h2⟩ := key
      refine ⟨u, ?_, av_rep h2 hy⟩
      have had' : a.tmps.getD t undef = .pointer (some ad) := had
      simp only [resSem, Sem.run_bind, had', asAddr, Sem.run_pure, Result.andThen_ok]
      exact h1
    · exact h.elim

theorem run_resAll {cx : Cx} {gh : Gh} {a : Act} {w : World} (r : RR cx gh σ a w) : ∀ (vs : List ResultVar) (xs : List AV), resAll cx.P σ vs xs →
    ∃ us : List Value, (vs.mapM (resSem a.tmps)).run cx.P w = .ok us w ∧ RepL gh.lim w.heap us xs
  | [], [], _ => ⟨[], by simp, RepL.nil _ _⟩
  | v :: vs, x :: xs, h => by
    obtain ⟨u, h1, h2⟩ := run_resOne r h.1
    obtain ⟨us, h3, h4⟩ := run_resAll r vs xs h.2
    refine ⟨u :: us, ?_, .cons h2 h4⟩
    rw [List.mapM_cons]
    simp only [Sem.run_bind, h1, Result.andThen_ok, h3, Sem.run_pure]
  | [], x :: xs, h => h.elim
  | v :: vs, [], h => h.elim

theorem run_results {cx : Cx} {gh : Gh} {a : Act} {w : World} (r : RR cx gh σ a w) {fn : Func} {x : AV} (h : resOk cx.P fn σ x) : ∃ u, (results fn a.tmps).run cx.P w = .ok u w ∧ Rep gh.lim w.heap u x := by
  have hm : ∀ (us : List Value), (fn.results.toList.mapM (resSem a.tmps)).run cx.P w = .ok us w →
      (results fn a.tmps).run cx.P w = .ok (if h : us.toArray.size = 1 then us.toArray[0] else .tuple us.toArray) w := by
    intro us hus
    rw [results_eq, ← Array.toArray_toList (xs := fn.results), List.mapM_toArray]
    simp only [Sem.run_bind, Sem.run_map, hus, Result.andThen_ok, Sem.run_pure]
  unfold resOk at h
  split at h
  · rename_i v hv
    obtain ⟨u, h1, h2⟩ := run_resOne r h
    refine ⟨u, ?_, h2⟩
    rw [hm [u] (by rw [hv, List.mapM_cons]; simp only [Sem.run_bind, h1, Result.andThen_ok, List.mapM_nil, Sem.run_pure])]
    rfl
  · rename_i vs hne
    obtain ⟨xs, rfl, hall⟩ := h
    obtain ⟨us, h1, h2⟩ := run_resAll r _ xs hall
    have hlen : us.length ≠ 1 := by
      intro h1'
      have : fn.results.toList.length = 1 := by
        have := resAll_len hall
        rw [this, ← h2.1, h1']
      obtain ⟨v, hv⟩ := List.length_eq_one_iff.1 this
      exact hne v hv
    refine ⟨.tuple us.toArray, ?_, Rep.tup_iff.2 ⟨us.toArray, rfl, by simpa using h2⟩⟩
    rw [hm us h1]
    simp [hlen]
where
  resAll_len {vs : List ResultVar} {xs : List AV} (h : resAll cx.P σ vs xs) : vs.length = xs.length := by
    induction vs generalizing xs with
    | nil => cases xs with
      | nil => rfl
      | cons => exact h.elim
    | cons v vs ih => cases xs with
      | nil => exact h.elim
      | cons x xs => simp [ih h.2]

/-- A mark is taken. -/
theorem RR.take {cx : Cx} {gh : Gh} {a : Act} {w : World} (r : RR cx gh σ a w) (hy : cx.gl.y = none) (hBw : cx.B = cx.w0.heap.size) {k : Nat} (hk : σ.mks = k + 1) :
    ∃ D ds, a.defers = markOf D :: ds ∧ w.heap[D]? = some (.deferred (some [])) ∧ RR cx gh { σ with mks := k } { a with defers := ds } (w.putObj D (.deferred none)) := by
  obtain ⟨Ds, h1, h2, h3⟩ := r.ex.defers
  cases Ds with
  | nil => have := h2.1; rw [hk] at this; simp at this
  | cons D Ds =>
    obtain ⟨hB, hD⟩ := h3 D (by simp)
    have hlt := (Array.getElem?_eq_some_iff.1 hD).1
    have hother : ∀ {i : Nat}, i ≠ D → (w.putObj D (.deferred none)).heap[i]? = w.heap[i]? := fun hi => World.putObj_heap_other hi
    have hcells : ∀ {i : Nat} {cs : Array Value} {e : TypeId} {g : Nat × Nat}, w.heap[i]? = some (.cells cs e g) → (w.putObj D (.deferred none)).heap[i]? = w.heap[i]? := fun hi => hother (fun he => by rw [he, hD] at hi; cases hi)
    have hkeep : Keep gh.lim w.heap gh.lim (w.putObj D (.deferred none)).heap := Keep.of_cells (fun k cs e g hk => hcells hk) _
    have hfrm : Frm cx.B cx.S w (w.putObj D (.deferred none)) := ⟨rfl, rfl, rfl, by simp, fun i hi _ => hother (by omega)⟩
    refine ⟨D, Ds.map markOf ++ cx.df, by rw [h1]; rfl, hD, ?_⟩
    have hnd : D ∉ Ds ∧ Ds.Nodup := List.nodup_cons.1 h2.2
    refine { frm := r.frm.trans hfrm, base := by simpa using r.base, limB := r.limB, size := r.size, ex := ⟨r.ex.keep.trans hkeep, ?_, fun Y hY => ?_, ?_, r.ex.fx, fun hy i o hi hc hw => (hother (fun he => by have := (Array.getElem?_eq_some_iff.1 hi).1; omega)).trans (r.ex.oth hy i o hi hc hw)⟩, gl := fun g c h => (r.gl g c h).mono hkeep, tmps := fun t x h => ?_, boxes := ?_, inj := r.inj, shs := ?_, apart := r.apart, tbs := ?_, own := ?_, alone := r.alone }
    · refine ⟨Ds, rfl, ⟨?_, hnd.2⟩, fun E hE => ⟨(h3 E (by simp [hE])).1, (hother (fun he => hnd.1 (he ▸ hE))).trans (h3 E (by simp [hE])).2⟩⟩
      have := h2.1; rw [hk] at this; simpa using this
    · rw [hy] at hY; cases hY
    · refine ⟨fun t s p ht => ?_, r.ex.its.inj⟩
      obtain ⟨b, q1, q2, q3⟩ := r.ex.its.at_ t s p ht
      exact ⟨b, q1, q2, (hother (fun he => by rw [he, hD] at q3; cases q3)).trans q3⟩
    · have h' := r.tmps t x h
      refine ⟨?_, h'.2⟩
      cases x with
      | un => trivial
      | v y g => exact ⟨h'.1.1.mono hkeep, h'.1.2⟩
      | bld l ns => exact ⟨h'.1.1.mono hkeep, h'.1.2⟩
      | lp k off => exact h'.1
      | it s p => trivial
      | cl f ks => exact h'.1
    · intro k cells h
      obtain ⟨q1, q2, cs, e, q3, q4⟩ := r.boxes k cells h
      exact ⟨q1, q2, cs, e, (hcells q3).trans q3, q4.mono hkeep⟩
    · intro b cells h
      obtain ⟨q1, q2, cs, e, q3, q4⟩ := r.shs b cells h
      exact ⟨q1, q2, cs, e, (hcells q3).trans q3, q4.mono hkeep⟩
    · intro k j g e h
      obtain ⟨q1, q2⟩ := r.tbs k j g e h
      refine ⟨q1, ?_⟩
      unfold cellAt at q2 ⊢
      rw [hother (fun he => by rw [he, hD] at q2; cases q2)]; exact q2
    · intro g e h
      obtain ⟨⟨m, xs, q1, q2⟩, q3⟩ := r.own g e h
      refine ⟨⟨m, xs, ⟨q1.1, ?_⟩, q2⟩, q3⟩
      rcases q1.2 with hn | ⟨g', cap, cur, hv, hbg, hg', rest⟩
      · exact .inl hn
      · exact .inr ⟨g', cap, cur, hv, hbg, (hcells hg').trans hg', rest⟩

/-- On the way out. -/
theorem leaves_marks {cx : Cx} {gh : Gh} {fn : Func} {Rq : Ending → World → Prop} {n : Nat} {tmps : Array Value} (hdf : cx.df = []) : ∀ (k : Nat) (σ : AS) (a : Act) (w : World), ((cx.gl.y = none ∧ cx.B = cx.w0.heap.size) ∨ σ.mks = 0) → RR cx gh σ a w → σ.mks = k → a.tmps = tmps →
    (∀ (a' : Act) (w' : World), RR cx gh { σ with mks := 0 } a' w' → a'.tmps = tmps → ∃ v, (results fn tmps).run cx.P w' = .ok v w' ∧ Rq (.returned v) w') → LeavesInM (Fw none) n cx.P fn tmps Rq a.defers .returning w
  | 0, σ, a, w, _, r, hk, ht, h => by
    obtain ⟨Ds, h1, h2, -⟩ := r.ex.defers
    have : Ds = [] := List.eq_nil_of_length_eq_zero (by rw [h2.1]; exact hk)
    subst this
    rw [hdf] at h1
    rw [h1]
    have he : σ = { σ with mks := 0 } := by rw [← hk]
    exact h a w (by rw [← he]; exact r) ht
  | k + 1, σ, a, w, hy, r, hk, ht, h => by
    have hy' := hy.resolve_right (by omega)
    obtain ⟨D, ds, h1, h2, r'⟩ := r.take hy'.1 hy'.2 hk
    rw [h1]
    exact ⟨by simp, .inl ⟨D, _, rfl, run_takeDeferred h2, leaves_marks hdf k _ _ _ (.inl hy') r' rfl ht (fun a' w' r'' ht' => h a' w' r'' ht')⟩⟩

theorem resOk_mks {fn : Func} {r : AV} {k : Nat} (h : resOk P fn σ r) : resOk P fn { σ with mks := k } r := by
  have hone : ∀ v x, resOne P σ v x → resOne P { σ with mks := k } v x := fun v x h => by cases v <;> exact h
  have hall : ∀ vs xs, resAll P σ vs xs → resAll P { σ with mks := k } vs xs := by
    intro vs
    induction vs with
    | nil => intro xs h; cases xs <;> exact h
    | cons v vs ih => intro xs h; cases xs with
      | nil => exact h
      | cons x xs => exact ⟨hone v x h.1, ih xs h.2⟩
  unfold resOk at h ⊢
  revert h
  generalize fn.results.toList = l
  intro h
  cases l with
  | nil => obtain ⟨xs, h1, h2⟩ := h; exact ⟨xs, h1, hall _ _ h2⟩
  | cons v t =>
    cases t with
    | nil => exact hone _ _ h
    | cons u t => obtain ⟨xs, h1, h2⟩ := h; exact ⟨xs, h1, hall _ _ h2⟩

theorem entry_rr {cx : Cx} {fn : Func} {args : List AV} {sh : List (Nat × List AV)} {hint : List (Nat × Nat)} {ys : List AV × Bool} {cargs : List Value} (hB : cx.B ≤ cx.w0.heap.size) (hdf : cx.df = []) (hgl : GlOk cx.gl cx.lim cx.w0.heap) (hargs : RepL cx.lim cx.w0.heap cargs args)
    (hsh : ∀ b cl, look b sh = some cl → (cx.S b ∨ cx.B ≤ b) ∧ BoxAt cx.lim cx.w0.heap b cl) (hfx : ∀ t, cx.fx t = none) (hy : ∀ Y, cx.gl.y = some Y → (cx.B = 0 ∧ Y.P = cx.P) ∧ Y.J ys.1 ys.2 cx.lim cx.w0) :
    RR cx { lim := cx.lim, bl := fun _ => 0, gv := fun _ => .nilIface } { entry fn args sh hint with ys := ys } { tmps := cargs.toArray ++ Array.replicate (fn.ntmps - cargs.toArray.size) undef, defers := [] } cx.w0 := by
  have hit : ∀ t s p, look t (mkTm 0 args) ≠ some (.it s p) := fun t s p h => by
    obtain ⟨j, y, h1, h2, h3⟩ := look_mkTm args 0 t _ h
    cases h3
  refine { frm := Frm.refl _ _ _, base := hB, limB := fun _ _ => rfl, size := ?_, ex := ⟨Keep.refl _ _, ⟨[], by rw [hdf]; rfl, ⟨rfl, List.nodup_nil⟩, fun D hD => (by cases hD)⟩, hy, ⟨fun t s p h => absurd h (hit t s p), fun t _ s p _ _ h => absurd h (hit t s p)⟩, fun t v h => (by rw [hfx] at h; cases h), fun _ _ _ h _ _ => h⟩, gl := hgl, tmps := ?_, boxes := fun k c h => (by cases h), inj := fun k k' h => (by cases h), shs := hsh, apart := fun b k _ h => (by cases h), tbs := fun k j g e h => (by cases h), own := ?_, alone := ?_ }
  · simp [entry, hargs.1]
  · intro t x ht
    obtain ⟨j, y, h1, h2, rfl⟩ := look_mkTm args 0 t x ht
    rw [Nat.zero_add] at h1
    subst h1
    have h3 := hargs.2 t y h2
    have hlt : t < cargs.length := by rw [hargs.1]; exact (List.getElem?_eq_some_iff.1 h2).1
    refine ⟨⟨?_, by simp⟩, by simp⟩
    rw [List.getD_eq_getElem?_getD] at h3
    rw [Array.getD_eq_getD_getElem?, Array.getElem?_append_left (by simpa using hlt)]
    simpa using h3
  · rintro g e (⟨t, x, ht⟩ | ⟨k, j, hk⟩)
    · obtain ⟨j, y, -, -, h3⟩ := look_mkTm args 0 t _ ht; cases h3
    · cases hk
  · rintro g e g' e' (⟨t, x, ht⟩ | ⟨k, j, hk⟩)
    · obtain ⟨j, y, -, -, h3⟩ := look_mkTm args 0 t _ ht; cases h3
    · cases hk

/-- A body's walk: what a call of the function ends in. -/
theorem calls_of_AT' {cx : Cx} {f : FuncId} {fn : Func} {c : Code} {σ0 : AS} {gh0 : Gh} {cargs : List Value} {post : AV → AS → Prop} {Rq : Ending → World → Prop}
    (hf : cx.P.funcs[f]? = some fn) (hb : fn.body = some c) (hdf : cx.df = [])
    (hr : RR cx gh0 σ0 { tmps := cargs.toArray ++ Array.replicate (fn.ntmps - cargs.toArray.size) undef, defers := [] } cx.w0)
    (h : AT cx.P cx.gl c σ0 (done cx.P fn post))
    (hmk : ∀ s r, post r s → (cx.gl.y = none ∧ cx.B = cx.w0.heap.size) ∨ s.mks = 0)
    (fin : ∀ s r gh a' w' v, post r s → RR cx gh { s with mks := 0 } a' w' → Rep gh.lim w'.heap v r → Rq (.returned v) w') : Calls cx.P f cargs.toArray cx.w0 Rq := by
  refine calls_of_fw (n := 0) (callsIn_of_wp_marks hf hb trivial ?_)
  refine wpIn_mono (h cx none 0 _ cx.w0 rfl rfl (fun _ => rfl) ⟨_, hr⟩) fun e a' w' => ?_
  have key : ∀ s r, resOk cx.P fn s r → post r s → R cx s a' w' → LeavesInM (Fw none) 0 cx.P fn a'.tmps Rq a'.defers .returning w' := by
    rintro s r hres hpost ⟨gh, rr⟩
    refine leaves_marks hdf s.mks s a' w' (hmk s r hpost) rr rfl rfl fun a2 w2 r2 ht => ?_
    obtain ⟨u, h1, h2⟩ := run_results r2 (resOk_mks hres)
    rw [ht] at h1
    exact ⟨u, h1, fin s r gh a2 w2 u hpost r2 h2⟩
  rintro ⟨s, hs, r'⟩
  cases e with
  | normal => obtain ⟨r, h1, h2⟩ := hs; exact key s r h1 h2 r'
  | ret => obtain ⟨r, h1, h2⟩ := hs; exact key s r h1 h2 r'
  | exit id => exact hs.elim
  | goto l => exact hs.elim
  | panic ch => exact hs.elim
  | outgrown => exact hs.elim

theorem calls_of_AT {cx : Cx} {f : FuncId} {fn : Func} {c : Code} {args : List AV} {sh : List (Nat × List AV)} {hint : List (Nat × Nat)} {ys : List AV × Bool} {cargs : List Value} {post : AV → AS → Prop} {Rq : Ending → World → Prop}
    (hf : cx.P.funcs[f]? = some fn) (hb : fn.body = some c) (hdf : cx.df = [])
    (hr : RR cx { lim := cx.lim, bl := fun _ => 0, gv := fun _ => .nilIface } { entry fn args sh hint with ys := ys } { tmps := cargs.toArray ++ Array.replicate (fn.ntmps - cargs.toArray.size) undef, defers := [] } cx.w0)
    (h : AT cx.P cx.gl c { entry fn args sh hint with ys := ys } (done cx.P fn post))
    (hmk : ∀ s r, post r s → (cx.gl.y = none ∧ cx.B = cx.w0.heap.size) ∨ s.mks = 0)
    (fin : ∀ s r gh a' w' v, post r s → RR cx gh { s with mks := 0 } a' w' → Rep gh.lim w'.heap v r → Rq (.returned v) w') : Calls cx.P f cargs.toArray cx.w0 Rq := calls_of_AT' hf hb hdf hr h hmk fin

/-- A function's contract out of its body's walk. -/
theorem validH_of {f : FuncId} {fn : Func} {c : Code} {args : List AV} {sh : List (Nat × List AV)} {post : AV → List (Nat × List AV) → Prop} (hint : List (Nat × Nat)) (hf : P.funcs[f]? = some fn) (hb : fn.body = some c) (hok : fnOk P f = true)
    (h : AT P gl c (entry fn args sh hint) (done P fn fun r s => ∃ sh', (∀ b cl, look b sh' = some cl → look b s.sh = some cl) ∧ (∀ b, (look b sh).isSome = true → (look b sh').isSome = true) ∧ post r sh')) (hy : gl.y = none := by rfl) : ValidH P gl f args sh post := by
  refine ⟨hok, fun lim w cargs hgl hargs hsh => ?_⟩
  let cx : Cx := { P := P, B := w.heap.size, S := fun b => (look b sh).isSome = true, lim := lim, w0 := w, df := [], gl := gl, fx := fun _ => none }
  have hr := entry_rr (cx := cx) (fn := fn) (hint := hint) (ys := ([], true)) (Nat.le_refl _) rfl hgl hargs (fun b cl hb => ⟨.inl (show (look b sh).isSome = true by rw [show look b sh = some cl from hb]; rfl), hsh b cl hb⟩) (fun _ => rfl) (fun Y hY => by rw [show cx.gl.y = none from hy] at hY; cases hY)
  refine calls_of_AT (cx := cx) hf hb rfl hr h (fun _ _ _ => .inl ⟨hy, rfl⟩) fun s r gh a' w' v => ?_
  rintro ⟨sh', hsub, hcov, hpost⟩ rr h2
  refine ⟨v, r, sh', gh.lim, rfl, rr.frm, rr.limB, h2, fun b cl hb => (rr.shs b cl (hsub b cl hb)).2, hpost, hcov, fun b hb' => ?_⟩
  obtain ⟨cl, hcl⟩ := Option.isSome_iff_exists.1 hb'
  exact (rr.shs b cl (hsub b cl hcl)).1

theorem valid_of {f : FuncId} {fn : Func} {c : Code} {args : List AV} {r : AV} (hint : List (Nat × Nat)) (hf : P.funcs[f]? = some fn) (hb : fn.body = some c) (hok : fnOk P f = true)
    (h : AT P gl c (entry fn args [] hint) (done P fn fun r' _ => r' = r)) (hy : gl.y = none := by rfl) : Valid P gl f args r := by
  refine validH_of hint hf hb hok (AT_mono h fun e s hs => ?_) hy
  have key : (∃ r', resOk P fn s r' ∧ r' = r) → ∃ r', resOk P fn s r' ∧ ∃ sh', (∀ b cl, look b sh' = some cl → look b s.sh = some cl) ∧ (∀ b, (look b ([] : List (Nat × List AV))).isSome = true → (look b sh').isSome = true) ∧ r' = r ∧ sh' = [] :=
    fun ⟨r', h1, h2⟩ => ⟨r', h1, [], fun b cl h => (by cases h), fun b h => h, h2, rfl⟩
  cases e with
  | normal => exact key hs
  | ret => exact key hs
  | exit id => exact hs
  | goto l => exact hs
  | panic ch => exact hs
  | outgrown => exact hs

/-- The contract of a function that hands elements out. -/
theorem validY_of {f : FuncId} {fn : Func} {c : Code} {args : List AV} {r : AV} {Y : Ys} {ys ys' : List AV × Bool} (hint : List (Nat × Nat)) (hf : P.funcs[f]? = some fn) (hb : fn.body = some c) (hok : fnOk P f = true) (hY : gl.y = some Y) (hP : Y.P = P)
    (h : AT P gl c { entry fn args [] hint with ys := ys } (done P fn fun r' s => r' = r ∧ s.ys = ys' ∧ s.mks = 0)) : ValidY P gl Y f args ys r ys' := by
  refine ⟨hok, fun lim w cargs hgl hargs hj => ?_⟩
  let cx : Cx := { P := P, B := 0, S := fun _ => True, lim := lim, w0 := w, df := [], gl := gl, fx := fun _ => none }
  have hr := entry_rr (cx := cx) (fn := fn) (hint := hint) (sh := []) (ys := ys) (Nat.zero_le _) rfl hgl hargs (fun b cl hb => (by cases hb)) (fun _ => rfl) (fun Y' hY' => by
    rw [show cx.gl.y = some Y from hY] at hY'
    injection hY' with hY'
    subst hY'
    exact ⟨⟨rfl, hP⟩, hj⟩)
  refine calls_of_AT (cx := cx) hf hb rfl hr h (fun _ _ h => .inr h.2.2) fun s r' gh a' w' v => ?_
  rintro ⟨rfl, hys, -⟩ rr h2
  refine ⟨v, gh.lim, rfl, rr.frm, rr.ex.keep, h2, ?_⟩
  have := (rr.ex.yj Y hY).2
  rw [← hys]
  exact this

/-! ### Functions with boxes -/
def mkTmB : Nat → List Nat → List (Nat × TV)
  | _, [] => []
  | i, k :: r => (i, .lp k 0) :: mkTmB (i + 1) r
def fxs : Nat → List Nat → List Nat
  | _, [] => []
  | i, _ :: r => i :: fxs (i + 1) r
def fxv (bl : Nat → Nat) : Nat → List Nat → List (Nat × Value)
  | _, [] => []
  | i, k :: r => (i, Value.pointer (some ⟨bl k, 0, none⟩)) :: fxv bl (i + 1) r
/-- The pointers to the boxes lie where they lay. -/
def keepB (tm : List (Nat × TV)) : Nat → List Nat → Bool
  | _, [] => true
  | i, k :: r => (match look i tm with | some (.lp k' 0) => k' == k | _ => false) && keepB tm (i + 1) r

def entryB (fn : Func) (args : List AV) (ks : List Nat) (bx : List (Nat × List AV)) (tb : List (Nat × Nat × Nat × Nat)) (hint : List (Nat × Nat)) : AS :=
  { n := (args.length + ks.length) + (fn.ntmps - (args.length + ks.length)), tm := mkTm 0 args ++ mkTmB args.length ks, bx := bx, tb := tb, sh := [], hint := hint, fx := fxs args.length ks }

theorem look_mkTmB : ∀ (ks : List Nat) (i t : Nat) (x : TV), look t (mkTmB i ks) = some x → ∃ j k, t = i + j ∧ ks[j]? = some k ∧ x = .lp k 0
  | [], i, t, x, h => by cases h
  | k :: r, i, t, x, h => by
    simp only [mkTmB, look] at h
    split at h
    · rename_i he
      injection h with h
      exact ⟨0, k, by omega, rfl, h.symm⟩
    · obtain ⟨j, k', h1, h2, h3⟩ := look_mkTmB r (i + 1) t x h
      exact ⟨j + 1, k', by omega, by simpa using h2, h3⟩

theorem look_fxv (bl : Nat → Nat) : ∀ (ks : List Nat) (i t : Nat) (v : Value), look t (fxv bl i ks) = some v → ∃ j k, t = i + j ∧ ks[j]? = some k ∧ v = Value.pointer (some ⟨bl k, 0, none⟩) ∧ t ∈ fxs i ks
  | [], i, t, v, h => by cases h
  | k :: r, i, t, v, h => by
    simp only [fxv, look] at h
    split at h
    · rename_i he
      injection h with h
      exact ⟨0, k, by omega, rfl, h.symm, by simp only [fxs, List.mem_cons]; left; omega⟩
    · obtain ⟨j, k', h1, h2, h3, h4⟩ := look_fxv bl r (i + 1) t v h
      exact ⟨j + 1, k', by omega, by simpa using h2, h3, by simp only [fxs, List.mem_cons]; exact .inr h4⟩

theorem fxv_look (bl : Nat → Nat) : ∀ (ks : List Nat) (i j k : Nat), ks[j]? = some k → look (i + j) (fxv bl i ks) = some (Value.pointer (some ⟨bl k, 0, none⟩))
  | [], i, j, k, h => by simp at h
  | q :: r, i, 0, k, h => by
    simp only [List.getElem?_cons_zero, Option.some.injEq] at h
    subst h
    simp [fxv, look]
  | q :: r, i, j + 1, k, h => by
    have := fxv_look bl r (i + 1) j k (by simpa using h)
    simp only [fxv, look]
    rw [if_neg (by omega), show i + (j + 1) = i + 1 + j by omega]
    exact this

theorem keepB_at {tm : List (Nat × TV)} : ∀ (ks : List Nat) (i j k : Nat), keepB tm i ks = true → ks[j]? = some k → look (i + j) tm = some (.lp k 0)
  | [], i, j, k, _, h => by simp at h
  | q :: r, i, 0, k, hk, h => by
    simp only [List.getElem?_cons_zero, Option.some.injEq] at h
    subst h
    simp only [keepB, Bool.and_eq_true] at hk
    have h1 := hk.1
    split at h1
    · rename_i k' hq
      simp only [beq_iff_eq] at h1
      subst h1
      exact hq
    · cases h1
  | q :: r, i, j + 1, k, hk, h => by
    simp only [keepB, Bool.and_eq_true] at hk
    have := keepB_at r (i + 1) j k hk.2 (by simpa using h)
    rw [show i + (j + 1) = i + 1 + j by omega]
    exact this

theorem entryB_rr {cx : Cx} {gh : Gh} {fn : Func} {args : List AV} {ks : List Nat} {bx : List (Nat × List AV)} {tb : List (Nat × Nat × Nat × Nat)} {hint : List (Nat × Nat)} {cargs : List Value} {w : World} (hy : cx.gl.y = none) (hdf : cx.df = [])
    (r : RR cx gh (bxS bx tb) noAct w) (hargs : RepL gh.lim w.heap cargs args) (hks : (ks.all fun k => (look k bx).isSome) = true) :
    RR { cx with fx := fun t => look t (fxv gh.bl args.length ks) } gh (entryB fn args ks bx tb hint) { tmps := (cargs ++ ks.map fun k => Value.pointer (some ⟨gh.bl k, 0, none⟩)).toArray ++ Array.replicate (fn.ntmps - (cargs ++ ks.map fun k => Value.pointer (some ⟨gh.bl k, 0, none⟩)).toArray.size) undef, defers := [] } w := by
  have hlen := hargs.1
  have htm : ∀ t x, look t (entryB fn args ks bx tb hint).tm = some x → (∃ y, args[t]? = some y ∧ x = .v y none) ∨ ∃ j k, t = args.length + j ∧ ks[j]? = some k ∧ x = .lp k 0 := by
    intro t x h
    simp only [entryB, look_append] at h
    cases h1 : look t (mkTm 0 args) with
    | some z =>
      rw [h1] at h
      simp only [Option.some_or, Option.some.injEq] at h
      subst h
      obtain ⟨j, y, q1, q2, q3⟩ := look_mkTm args 0 t z h1
      rw [Nat.zero_add] at q1
      subst q1
      exact .inl ⟨y, q2, q3⟩
    | none =>
      rw [h1] at h
      simp only [Option.none_or] at h
      exact .inr (look_mkTmB ks _ t x h)
  have hptr : ∀ j k, ks[j]? = some k → ((cargs ++ ks.map fun k => Value.pointer (some ⟨gh.bl k, 0, none⟩)).toArray ++ Array.replicate (fn.ntmps - (cargs ++ ks.map fun k => Value.pointer (some ⟨gh.bl k, 0, none⟩)).toArray.size) undef).getD (args.length + j) undef = Value.pointer (some ⟨gh.bl k, 0, none⟩) := by
    intro j k hj
    have hlt : j < ks.length := (List.getElem?_eq_some_iff.1 hj).1
    rw [Array.getD_eq_getD_getElem?, Array.getElem?_append_left (by simp; omega)]
    rw [List.getElem?_toArray, List.getElem?_append_right (by omega), ← hlen, Nat.add_sub_cancel_left, List.getElem?_map, hj]
    rfl
  have hu : ∀ {g e}, AS.uses (entryB fn args ks bx tb hint) g e → AS.uses (bxS bx tb) g e := by
    rintro g e (⟨t, x, h⟩ | h)
    · rcases htm _ _ h with ⟨y, -, h⟩ | ⟨j, k, -, -, h⟩ <;> cases h
    · exact .inr h
  have hit : ∀ t s p, look t (entryB fn args ks bx tb hint).tm ≠ some (.it s p) := fun t s p h => by
    rcases htm _ _ h with ⟨y, -, h⟩ | ⟨j, k, -, -, h⟩ <;> cases h
  refine { frm := r.frm, base := r.base, limB := r.limB, size := ?_, ex := ⟨r.ex.keep, ⟨[], by rw [show Cx.df { cx with fx := fun t => look t (fxv gh.bl args.length ks) } = [] from hdf]; rfl, ⟨rfl, List.nodup_nil⟩, fun D hD => (by cases hD)⟩, fun Y hY => (by rw [show cx.gl.y = some Y from hY] at hy; cases hy), ⟨fun t s p h => absurd h (hit t s p), fun t _ s p _ _ h => absurd h (hit t s p)⟩, fun t v h => ?_, r.ex.oth⟩, gl := r.gl, tmps := ?_, boxes := r.boxes, inj := r.inj, shs := fun b c h => (by cases h), apart := fun b k h => (by cases h), tbs := r.tbs, own := fun g e h => r.own g e (hu h), alone := fun g e g' e' h h' => r.alone g e g' e' (hu h) (hu h') }
  · simp [entryB, hlen]
  · obtain ⟨j, k, rfl, q2, rfl, q4⟩ := look_fxv gh.bl ks _ t v h
    exact ⟨q4, hptr j k q2⟩
  · intro t x h
    rcases htm t x h with ⟨y, q1, rfl⟩ | ⟨j, k, rfl, q2, rfl⟩
    · have h3 := hargs.2 t y q1
      have hlt : t < cargs.length := by rw [hlen]; exact (List.getElem?_eq_some_iff.1 q1).1
      refine ⟨⟨?_, by simp⟩, by simp⟩
      rw [List.getD_eq_getElem?_getD] at h3
      rw [Array.getD_eq_getD_getElem?, Array.getElem?_append_left (by simp; omega), List.getElem?_toArray, List.getElem?_append_left hlt]
      exact h3
    · refine ⟨hptr j k q2, fun k' o he => ?_⟩
      injection he with he _
      subst he
      exact List.all_eq_true.1 hks k (List.mem_of_getElem? q2)

/-- The contract of a function with boxes. -/
theorem validB_of {f : FuncId} {fn : Func} {c : Code} {args : List AV} {ks : List Nat} {bx bx' : List (Nat × List AV)} {tb tb' : List (Nat × Nat × Nat × Nat)} {x : AV} (hint : List (Nat × Nat)) (hf : P.funcs[f]? = some fn) (hb : fn.body = some c) (hok : fnOk P f = true)
    (hks : (ks.all fun k => (look k bx).isSome) = true)
    (h : AT P gl c (entryB fn args ks bx tb hint) (done P fn fun r s => r = x ∧ s.bx = bx' ∧ s.tb = tb' ∧ s.mks = 0 ∧ keepB s.tm args.length ks = true)) (hy : gl.y = none := by rfl) : ValidB P gl f args ks bx tb x bx' tb' := by
  refine ⟨hok, fun cx gh w cargs hP hgl hdf hfx hw hlim r hargs => ?_⟩
  subst hP; subst hgl; subst hw
  have hr := entryB_rr (fn := fn) (hint := hint) hy hdf r hargs hks
  refine calls_of_AT' (cx := { cx with fx := fun t => look t (fxv gh.bl args.length ks) }) hf hb hdf hr h (fun _ _ h => .inr h.2.2.2.1) fun s r' gh' a' w' v => ?_
  rintro ⟨rfl, rfl, rfl, -, hkb⟩ rr h2
  refine ⟨v, gh', rfl, ?_, fun k hk => ?_, h2⟩
  · have hd := rr.drop hy
    have hcx : ({ ({ cx with fx := fun t => look t (fxv gh.bl args.length ks) } : Cx) with df := [], fx := fun _ => none } : Cx) = cx := by
      have hfx' : cx.fx = fun _ => none := funext hfx
      obtain ⟨P, B, S, lim, w0, df, gl, fx⟩ := cx
      simp only at hdf hfx'
      subst hdf; subst hfx'
      rfl
    rw [hcx] at hd
    exact hd
  · obtain ⟨j, hj⟩ := List.getElem?_of_mem hk
    have h3 := (rr.tmps _ _ (keepB_at ks _ j k hkb hj)).1
    have h4 := (rr.ex.fx _ _ (fxv_look gh.bl ks args.length j k hj)).2
    simp only [TRep] at h3
    rw [h3] at h4
    injection h4 with h4
    injection h4 with h4
    injection h4 with h4 _

end
end Go.Pv
end

section
/- The walk by simp: what is evaluated, in which form. -/
namespace Go.Pv
open Go

def RVn (P : Program) (gl : Gl) (ops : Array Oper) (d : Bool) (g : Option Bool) (r : OR) (o : Oper) (rest : List Oper) (σ : AS) (K : AS → Prop) : Prop :=
  d = true ∧ match g with
    | some true => orV P gl o σ (fun s => RV P gl ops rest s K) r
    | some false => RV P gl ops rest (σ.put o.dst (.v (.tup []) none)) K
    | none => False

def RVdn (P : Program) (gl : Gl) (ops : Array Oper) (d : Bool) (g : Option Bool) (r : OR) (o : Oper) (rest : List Oper) (σ : AS) (K : AS → Prop) : Prop :=
  d = true ∧ match g with
    | some true => orVd P gl o σ (fun s => RVd P gl ops rest s K) r
    | some false => RVd P gl ops rest (σ.put o.dst (.v (.tup []) none)) K
    | none => False

section
variable {P : Program} {gl : Gl} {ops : Array Oper} {o : Oper} {rest : List Oper} {σ : AS} {K : AS → Prop}

theorem RV_nil : RV P gl ops [] σ K = K σ := rfl
theorem RV_cons : RV P gl ops (o :: rest) σ K = RVn P gl ops (dstOk P o σ) (guardB ops o σ) (opR P gl σ o) o rest σ K := rfl
theorem RVd_nil : RVd P gl ops [] σ K = K σ := rfl
theorem RVd_cons : RVd P gl ops (o :: rest) σ K = RVdn P gl ops (dstOk P o σ) (guardB ops o σ) (opR P gl σ o) o rest σ K := rfl

theorem RVn_val (c : Prop) (x : TV) : RVn P gl ops true (some true) (.val c x) o rest σ K = (c ∧ RV P gl ops rest (σ.put o.dst x) K) := by simp [RVn, orV]
theorem RVn_eff (c : Prop) (s : AS) : RVn P gl ops true (some true) (.eff c s) o rest σ K = (c ∧ gl.y = none ∧ RV P gl ops rest s K) := by simp [RVn, orV]
theorem RVn_skip (r : OR) : RVn P gl ops true (some false) r o rest σ K = RV P gl ops rest (σ.put o.dst (.v (.tup []) none)) K := by simp [RVn]
theorem RVn_call {f : FuncId} {args : List AV} {r : AV} (h : Valid P gl f args r) (k : RV P gl ops rest (σ.put o.dst (.v r none)) K) (hy : gl.y = none := by rfl) : RVn P gl ops true (some true) (.call f args) o rest σ K := by
  unfold RVn
  simp only [orV, true_and]
  exact callV_pure hy r h k
theorem RVn_callY {f : FuncId} {args : List AV} {Y : Ys} {r : AV} {ys' : List AV × Bool} (hY : gl.y = some Y) (hb : σ.bare = true) (h : ValidY P gl Y f args σ.ys r ys') (k : RV P gl ops rest ({ σ with ys := ys' }.put o.dst (.v r none)) K) : RVn P gl ops true (some true) (.call f args) o rest σ K := by
  unfold RVn
  simp only [orV, true_and]
  exact .inr ⟨Y, r, ys', hY, hb, h, k⟩
theorem RVn_yld {l : Nat} {x : AV} {Y : Ys} (hY : gl.y = some Y) (hl : Y.l = l) (hb : σ.bare = true) (hon : σ.ys.2 = true) (he : Y.el σ.ys.1 x) (k : RV P gl ops rest ({ σ with ys := (σ.ys.1 ++ [x], Y.go σ.ys.1 x) }.put o.dst (.v (.bool (Y.go σ.ys.1 x)) none)) K) : RVn P gl ops true (some true) (.yld l x) o rest σ K := by
  unfold RVn
  simp only [orV, true_and]
  exact ⟨Y, hY, hl, hb, ⟨hon, he⟩, k⟩
theorem RVn_callB {f : FuncId} {args : List AV} {ks : List Nat} {x : AV} {bx' : List (Nat × List AV)} {tb' : List (Nat × Nat × Nat × Nat)} (h : ValidB P gl f args ks σ.bx σ.tb x bx' tb') (hs : stayB σ ks bx' = true) (k : RV P gl ops rest ({ σ with bx := bx', tb := tb' }.put o.dst (.v x none)) K) (hy : gl.y = none := by rfl) : RVn P gl ops true (some true) (.callB f args ks) o rest σ K := by
  unfold RVn
  simp only [orV, true_and]
  exact ⟨x, bx', tb', hy, hs, h, k⟩
theorem RVdn_val (c : Prop) (x : TV) : RVdn P gl ops true (some true) (.val c x) o rest σ K = (c ∧ RVd P gl ops rest (σ.put o.dst x) K) := by simp [RVdn, orVd]
theorem RVdn_eff (c : Prop) (s : AS) : RVdn P gl ops true (some true) (.eff c s) o rest σ K = (quietOp o = false ∧ (c ∧ gl.y = none) ∧ RVd P gl ops rest s K) := by simp [RVdn, orVd]
theorem RVdn_skip (r : OR) : RVdn P gl ops true (some false) r o rest σ K = RVd P gl ops rest (σ.put o.dst (.v (.tup []) none)) K := by simp [RVdn]
theorem RVdn_call {f : FuncId} {args : List AV} {r : AV} (h : Valid P gl f args r) (k : RVd P gl ops rest (σ.put o.dst (.v r none)) K) (hy : gl.y = none := by rfl) : RVdn P gl ops true (some true) (.call f args) o rest σ K := ⟨rfl, r, ⟨hy, h⟩, k⟩
end

attribute [simp] RV_nil RV_cons RVd_nil RVd_cons RVn_val RVn_eff RVn_skip RVdn_val RVdn_eff RVdn_skip
attribute [simp] dstOk guardB opR ev AS.get AS.put look cv TV.av isNil assignR fieldAddrR indexAddrR loadOpR indexR nilCheckR convertR buildR makeFuncR makeIfaceR extractR fieldR boxR allocR tagOf nsOf storeR rowsOf buildSliceR appendR callR orR
attribute [simp] TV.strip TV.nit froz frozR rangeR nextR TV.bareT AS.bare
theorem noClP_true {k : Nat} {tm : List (Nat × TV)} (h : noCl k tm = true) : noClP k tm ↔ True := ⟨fun _ => trivial, fun _ => noClP_of h⟩
section
variable (k t : Nat) (r : List (Nat × TV))
theorem noCl_nil : noCl k [] = true ↔ True := by constructor <;> intro _ <;> first | trivial | rfl
theorem noCl_un : noCl k ((t, .un) :: r) = true ↔ noCl k r = true := by constructor <;> intro h <;> exact h
theorem noCl_v (x : AV) (g : Option (Nat × Nat)) : noCl k ((t, .v x g) :: r) = true ↔ noCl k r = true := by constructor <;> intro h <;> exact h
theorem noCl_bld (x : List AV) (g : List Nat) : noCl k ((t, .bld x g) :: r) = true ↔ noCl k r = true := by constructor <;> intro h <;> exact h
theorem noCl_it (x : List UInt8) (g : Nat) : noCl k ((t, .it x g) :: r) = true ↔ noCl k r = true := by constructor <;> intro h <;> exact h
theorem noCl_lp (x g : Nat) : noCl k ((t, .lp x g) :: r) = true ↔ noCl k r = true := by constructor <;> intro h <;> exact h
theorem noCl_cl (f : FuncId) (ks : List Nat) : noCl k ((t, .cl f ks) :: r) = true ↔ ks.contains k = false ∧ noCl k r = true := by simp only [noCl, Bool.and_eq_true, Bool.not_eq_true']
end
attribute [simp] noGotoA entryB mkTmB fxs keepB stayB stayAll TV.stay
attribute [simp] noCl_nil noCl_un noCl_v noCl_bld noCl_it noCl_lp noCl_cl lps makeClR noClP_true
attribute [simp] rowNums strOp intOp binR eqR eqV eqK eqCells isC pickR unR flat avs fillA nilsLeft loadR sliceR lenR mxR AS.usesB gid AS.openB retag tagAt clr tbOf AS.purge TV.untag splice quietOp AS.keep pick lpOk entry mkTm thenA inBlockA done resOk resOne resAll

theorem inR_i64 (n : Int) : inR .i64 n ↔ -9223372036854775808 ≤ n ∧ n ≤ 9223372036854775807 := by unfold inR; rw [IntKind.wrap_i64]; omega
theorem inR_i32 (n : Int) : inR .i32 n ↔ -2147483648 ≤ n ∧ n ≤ 2147483647 := by unfold inR; rw [IntKind.wrap_i32]; omega
theorem inR_u8 (n : Int) : inR .u8 n ↔ 0 ≤ n ∧ n ≤ 255 := by unfold inR; rw [IntKind.wrap_u8]; omega
attribute [simp] inR_i64 inR_i32 inR_u8

/-! ### Rows -/
theorem Rows_nil (sz : Nat) : Rows sz [] := fun r h => by cases h
theorem Rows_cons (sz : Nat) (r : List AV) (l : List (List AV)) : Rows sz (r :: l) ↔ (r.length = sz ∧ r.all AV.one = true) ∧ Rows sz l := by simp [Rows]
theorem Rows_append (sz : Nat) (a b : List (List AV)) : Rows sz (a ++ b) ↔ Rows sz a ∧ Rows sz b := by simp only [Rows, List.mem_append]; exact ⟨fun h => ⟨fun r hr => h r (.inl hr), fun r hr => h r (.inr hr)⟩, fun h r hr => hr.elim (h.1 r) (h.2 r)⟩
theorem Rows_map {α : Type} (sz : Nat) (f : α → List AV) (h : ∀ x, (f x).length = sz ∧ (f x).all AV.one = true) (l : List α) : Rows sz (l.map f) := fun r hr => by
  obtain ⟨x, _, rfl⟩ := List.mem_map.1 hr; exact h x
attribute [simp] Rows_nil Rows_cons Rows_append
attribute [simp] AV.one

theorem row_map {α : Type} (f : α → List AV) (l : List α) (i : Nat) (h : i < l.length) : row (l.map f) i = f l[i] := by simp [row, h]

attribute [irreducible] RVn RVdn
end Go.Pv
end

section
/- The program's types as plain data, and as values. -/
namespace Go.Pv
open Go

abbrev Str := List UInt8

inductive Ty where
  | mk (name : Str) (args : List Ty) (pos : Int)

@[simp] def Ty.name : Ty → Str | .mk n _ _ => n
@[simp] def Ty.args : Ty → List Ty | .mk _ a _ => a
@[simp] def Ty.pos : Ty → Int | .mk _ _ p => p

mutual
def encTy : Ty → List AV
  | .mk n as p => [.str n, .slice (encTys as), .int .i64 p]
def encTys : List Ty → List (List AV)
  | [] => []
  | t :: r => encTy t :: encTys r
end

theorem encTys_map (l : List Ty) : encTys l = l.map encTy := by
  induction l with
  | nil => simp [encTys]
  | cons t l ih => simp [encTys, ih]

theorem encTy_def (t : Ty) : encTy t = [.str t.name, .slice (t.args.map encTy), .int .i64 t.pos] := by
  cases t with
  | mk n as p => simp [encTy, encTys_map, Ty.name, Ty.args, Ty.pos]

theorem encTy_mk (n : Str) (as : List Ty) (p : Int) : encTy (.mk n as p) = [.str n, .slice (as.map encTy), .int .i64 p] := by rw [encTy_def]; rfl

@[simp] theorem encTy_len (t : Ty) : (encTy t).length = 3 := by rw [encTy_def]; rfl
@[simp] theorem encTy_one (t : Ty) : (encTy t).all AV.one = true := by rw [encTy_def]; rfl
@[simp] theorem encTy_0 (t : Ty) : (encTy t)[0]? = some (.str t.name) := by rw [encTy_def]; rfl
@[simp] theorem encTy_1 (t : Ty) : (encTy t)[1]? = some (.slice (t.args.map encTy)) := by rw [encTy_def]; rfl
@[simp] theorem encTy_2 (t : Ty) : (encTy t)[2]? = some (.int .i64 t.pos) := by rw [encTy_def]; rfl
@[simp] theorem encTy_g0 (t : Ty) (h : 0 < (encTy t).length) : (encTy t)[0] = .str t.name := by have := encTy_0 t; rw [List.getElem?_eq_getElem h] at this; injection this
@[simp] theorem encTy_g1 (t : Ty) (h : 1 < (encTy t).length) : (encTy t)[1] = .slice (t.args.map encTy) := by have := encTy_1 t; rw [List.getElem?_eq_getElem h] at this; injection this
@[simp] theorem encTy_g2 (t : Ty) (h : 2 < (encTy t).length) : (encTy t)[2] = .int .i64 t.pos := by have := encTy_2 t; rw [List.getElem?_eq_getElem h] at this; injection this
@[simp] theorem encTy_take (t : Ty) : (encTy t).take 3 = encTy t := by rw [encTy_def]; rfl
@[simp] theorem encTy_drop (t : Ty) : (encTy t).drop 3 = [] := by rw [encTy_def]; rfl
@[simp] theorem encTy_take2 (t : Ty) : (encTy t).take 2 = [.str t.name, .slice (t.args.map encTy)] := by rw [encTy_def]; rfl
@[simp] theorem encTy_take1 (t : Ty) : (encTy t).take 1 = [.str t.name] := by rw [encTy_def]; rfl
@[simp] theorem encTy_drop2 (t : Ty) : (encTy t).drop 2 = [.int .i64 t.pos] := by rw [encTy_def]; rfl
@[simp] theorem encTys_rows (l : List Ty) : Rows 3 (l.map encTy) := Rows_map 3 encTy (fun t => ⟨encTy_len t, encTy_one t⟩) l

/-- A list of strings. -/
def encS (s : Str) : List AV := [.str s]
@[simp] theorem encS_len (s : Str) : (encS s).length = 1 := rfl
@[simp] theorem encS_one (s : Str) : (encS s).all AV.one = true := rfl
@[simp] theorem encS_0 (s : Str) : (encS s)[0]? = some (.str s) := rfl
@[simp] theorem encS_rows (l : List Str) : Rows 1 (l.map encS) := Rows_map 1 encS (fun _ => ⟨rfl, rfl⟩) l

theorem Ty.ind {p : Ty → Prop} (h : ∀ n as pos, (∀ t ∈ as, p t) → p (.mk n as pos)) : ∀ t, p t := by
  intro t
  exact Ty.rec (motive_1 := p) (motive_2 := fun l => ∀ t ∈ l, p t) (fun n as pos ih => h n as pos ih) (fun t ht => by cases ht) (fun t l h1 h2 x hx => by
    rcases List.mem_cons.1 hx with rfl | hx
    · exact h1
    · exact h2 x hx) t

end Go.Pv
end

import Derived.Test.YtghmdnfdocdgfaaDoorPvM
import Derived.Scope
set_option linter.all false
section
/- Any order. -/
namespace Go.Pv
open Go

section
variable {P : Program} {gl : Gl} {ops : Array Oper} {K : AS → Prop}

def anyA (P : Program) (gl : Gl) (ops : Array Oper) (K : AS → Prop) : Nat → Array Bool → AS → Prop
  | 0, listed, σ => Region.ready .any ops listed = [] ∧ K σ
  | fuel + 1, listed, σ => (Region.ready .any ops listed = [] → K σ) ∧
      ∀ i ∈ Region.ready .any ops listed, ∃ o, ops[i]? = some o ∧ nextVd P gl ops o σ (anyA P gl ops K fuel (listed.setIfInBounds i true))

theorem anyA_eqv (hK : ∀ s s', Eqv s s' → K s → K s') : ∀ (fuel : Nat) (listed : Array Bool) (σ σ' : AS), Eqv σ σ' → anyA P gl ops K fuel listed σ → anyA P gl ops K fuel listed σ'
  | 0, _, _, _, h, ha => ⟨ha.1, hK _ _ h ha.2⟩
  | fuel + 1, listed, σ, σ', h, ha => ⟨fun h0 => hK _ _ h (ha.1 h0), fun i hi => by
      obtain ⟨o, ho, hn⟩ := ha.2 i hi
      exact ⟨o, ho, nextVd_eqv h (fun s s' hs hk => anyA_eqv hK fuel _ s s' hs hk) hn⟩⟩

def YA (P : Program) (gl : Gl) (ops : Array Oper) (o : Oper) (σ : AS) (x : TV) : Prop :=
  dstOk P o σ = true ∧ ((guardB ops o σ = some true ∧ ((∃ c, opR P gl σ o = .val c x ∧ c) ∨ ∃ f args r, opR P gl σ o = .call f args ∧ (gl.y = none ∧ Valid P gl f args r) ∧ x = .v r none)) ∨
    (guardB ops o σ = some false ∧ x = .v (.tup []) none))

theorem YA_of_next {o : Oper} {σ : AS} {K : AS → Prop} (hq : quietOp o = true) (h : nextVd P gl ops o σ K) : ∃ x, YA P gl ops o σ x ∧ K (σ.put o.dst x) := by
  obtain ⟨hd, h⟩ := h
  cases hg : guardB ops o σ with
  | none => rw [hg] at h; exact h.elim
  | some b =>
    rw [hg] at h
    cases b with
    | false => exact ⟨_, ⟨hd, .inr ⟨hg, rfl⟩⟩, h⟩
    | true =>
      simp only [] at h
      cases hr : opR P gl σ o with
      | stuck => rw [hr] at h; exact h.elim
      | val c x => rw [hr] at h; exact ⟨x, ⟨hd, .inl ⟨hg, .inl ⟨c, hr, h.1⟩⟩⟩, h.2⟩
      | eff c s => rw [hr] at h; have := h.1; rw [hq] at this; cases this
      | call f args => rw [hr] at h; obtain ⟨r, h1, h2⟩ := h; exact ⟨_, ⟨hd, .inl ⟨hg, .inr ⟨f, args, r, hr, h1, rfl⟩⟩⟩, h2⟩
      | callB f args ks => rw [hr] at h; exact h.elim
      | yld l x => rw [hr] at h; exact h.elim

theorem next_of_YA {o : Oper} {σ : AS} {K : AS → Prop} {x : TV} (h : YA P gl ops o σ x) (hk : K (σ.put o.dst x)) : nextVd P gl ops o σ K := by
  obtain ⟨hd, ⟨hg, ⟨c, hr, hc⟩ | ⟨f, args, r, hr, hv, rfl⟩⟩ | ⟨hg, rfl⟩⟩ := h
  · exact ⟨hd, by rw [hg]; simp only []; rw [hr]; exact ⟨hc, hk⟩⟩
  · exact ⟨hd, by rw [hg]; simp only []; rw [hr]; exact ⟨r, hv, hk⟩⟩
  · exact ⟨hd, by rw [hg]; exact hk⟩

theorem YA.sees {o : Oper} {σ σ' : AS} {x : TV} (hq : quietOp o = true) (h : YA P gl ops o σ x) (hs : Sees gl ops o σ σ') : YA P gl ops o σ' x := by
  unfold YA at *
  rw [hs.dst, hs.guard, hs.opR hq]
  exact h

theorem sees_put {o : Oper} {σ : AS} (hh : σ.hint = []) {d : Option Nat} (x : TV) (hd : ∀ t, d = some t → t ∉ o.looksAt ops) : Sees gl ops o σ (σ.put d x) := by
  cases d with
  | none => exact ⟨⟨rfl, rfl, rfl⟩, rfl, fun _ _ => rfl, rfl, rfl, rfl, hh, hh⟩
  | some t =>
    refine ⟨⟨rfl, rfl, rfl⟩, rfl, fun s hs => ?_, rfl, rfl, rfl, hh, hh⟩
    have : t ≠ s := fun e => hd t rfl (e ▸ hs)
    simp [AS.get, AS.put, look, this]

theorem Sees.symm {o : Oper} {σ σ' : AS} (h : Sees gl ops o σ σ') : Sees gl ops o σ' σ := ⟨⟨h.ex.1.symm, h.ex.2.1.symm, h.ex.2.2.symm⟩, h.n.symm, fun t ht => (h.tm t ht).symm, h.bx.symm, h.tb.symm, h.sh.symm, h.hint.2, h.hint.1⟩

theorem put_hint {σ : AS} (h : σ.hint = []) (d : Option Nat) (x : TV) : (σ.put d x).hint = [] := by cases d <;> exact h

inductive Reach (ops : Array Oper) : Nat → Nat → Prop
  | one (j i : Nat) (o : Oper) (ho : ops[j]? = some o) (e : Edge) (he : e ∈ o.after) (hb : Region.binds .any e = true) (hi : e.on = i) : Reach ops j i
  | step (j k i : Nat) (o : Oper) (ho : ops[j]? = some o) (e : Edge) (he : e ∈ o.after) (hb : Region.binds .any e = true) (hk : e.on = k) (h : Reach ops k i) : Reach ops j i

def DC (ops : Array Oper) (listed : Array Bool) : Prop := ∀ j o, ops[j]? = some o → listed.getD j false = true → ∀ e ∈ o.after, Region.binds .any e = true → listed.getD e.on false = true

theorem DC.reach {listed : Array Bool} (h : DC ops listed) {j i : Nat} (hr : Reach ops j i) (hj : listed.getD j false = true) : listed.getD i false = true := by
  induction hr with
  | one j i o ho e he hb hi => subst hi; exact h j o ho hj e he hb
  | step j k i o ho e he hb hk hr ih => subst hk; exact ih (h j o ho hj e he hb)

theorem DC.ready {listed : Array Bool} (h : DC ops listed) {j i : Nat} (hr : Reach ops j i) (hj : j ∈ Region.ready .any ops listed) : listed.getD i false = true := by
  obtain ⟨_, o', ho', hall⟩ := mem_ready.1 hj
  cases hr with
  | one j i o ho e he hb hi =>
    rw [ho'] at ho; injection ho with ho; subst ho; subst hi
    exact hall e he hb
  | step j k i o ho e he hb hk hr =>
    rw [ho'] at ho; injection ho with ho; subst ho; subst hk
    exact h.reach hr (hall e he hb)

theorem DC.set {listed : Array Bool} (h : DC ops listed) {j : Nat} (hj : j ∈ Region.ready .any ops listed) : DC ops (listed.setIfInBounds j true) := by
  obtain ⟨_, oj, hoj, hall⟩ := mem_ready.1 hj
  intro k o ho hk e he hb
  refine getD_set_true ?_
  by_cases hkj : j = k
  · subst hkj
    rw [hoj] at ho; injection ho with ho; subst ho
    exact hall e he hb
  · rw [getD_set_ne false hkj] at hk
    exact h k o ho hk e he hb

theorem unlisted {listed : Array Bool} {i : Nat} (h : listed.getD i true = false) : ¬ listed.getD i false = true := by
  rcases Nat.lt_or_ge i listed.size with h' | h'
  · simp [h'] at h ⊢; exact h
  · simp [Array.getElem?_eq_none h']

def pureOp (o : Oper) : Bool := match o.op with
  | .move _ | .fieldAddr .. => true
  | _ => false
def storeOp (o : Oper) : Bool := match o.op with
  | .store .. => true
  | _ => false
theorem pure_quiet {o : Oper} (h : pureOp o = true) : quietOp o = true := by
  unfold pureOp at h; unfold quietOp
  split at h <;> first | (rename_i ho; rw [ho]) | cases h
theorem store_loud {o : Oper} (h : storeOp o = true) : quietOp o = false := by
  unfold storeOp at h; unfold quietOp
  split at h <;> first | (rename_i ho; rw [ho]) | cases h

structure SameTm (σ σ' : AS) : Prop where
  tm : σ'.tm = σ.tm
  n : σ'.n = σ.n
  ys : σ'.ys = σ.ys
  fx : σ'.fx = σ.fx
  mks : σ'.mks = σ.mks
  hint : σ'.hint = σ.hint

theorem YA.pure {o : Oper} {σ σ' : AS} {x : TV} (hp : pureOp o = true) (hh : σ.hint = []) (h : YA P gl ops o σ x) (hs : SameTm σ σ') : YA P gl ops o σ' x := by
  have hsee : Sees gl ops o σ { σ' with bx := σ.bx, tb := σ.tb, sh := σ.sh } := ⟨⟨hs.ys, hs.fx, hs.mks⟩, hs.n, fun t _ => by unfold AS.get; show ((look t σ'.tm).getD .un).strip = _; rw [hs.tm], rfl, rfl, rfl, hh, by show σ'.hint = []; rw [hs.hint]; exact hh⟩
  have h2 := h.sees (pure_quiet hp) hsee
  have hop : Pv.opR P gl { σ' with bx := σ.bx, tb := σ.tb, sh := σ.sh } o = Pv.opR P gl σ' o := by
    have hev : Pv.ev gl { σ' with bx := σ.bx, tb := σ.tb, sh := σ.sh } = Pv.ev gl σ' := by funext y; cases y <;> rfl
    unfold pureOp at hp
    unfold Pv.opR
    split at hp <;> first | (rename_i ho; rw [ho]; simp only []; rw [hev]) | cases hp
  unfold YA at h2 ⊢
  rw [hop] at h2
  exact h2

theorem storeR_put {σ : AS} (hh : σ.hint = []) (d : Option Nat) (z : TV) (t : Nat) (a y : TV) : storeR P (σ.put d z) t a y = match storeR P σ t a y with | .eff c s => .eff c (s.put d z) | r => r := by
  cases d with
  | none =>
    show storeR P σ t a y = _
    cases storeR P σ t a y <;> rfl
  | some d =>
    unfold storeR
    cases y.av with
    | none => rfl
    | some v =>
      cases a with
      | lp k off =>
        simp only [AS.put]
        cases look k σ.bx with
        | none => rfl
        | some cells => simp only [hh, openB_nil]
      | v u g =>
        cases u with
        | gp b off =>
          simp only [AS.put]
          cases look b σ.sh with
          | none => rfl
          | some cells => rfl
        | _ => rfl
      | _ => rfl
theorem storeR_same {σ s : AS} {t : Nat} {a y : TV} {c : Prop} (hh : σ.hint = []) (h : storeR P σ t a y = .eff c s) : SameTm σ s := by
  unfold storeR at h
  split at h
  · cases h
  · split at h
    · split at h
      · simp only [OR.eff.injEq, hh, openB_nil] at h
        obtain ⟨-, rfl⟩ := h
        refine ⟨?_, ?_, ?_, ?_, ?_, ?_⟩ <;> first | rfl | exact hh.symm | exact hh
      · cases h
    · split at h
      · simp only [OR.eff.injEq] at h
        obtain ⟨-, rfl⟩ := h
        exact ⟨rfl, rfl, rfl, rfl, rfl, rfl⟩
      · cases h
    · cases h

theorem store_step {o : Oper} {σ : AS} {K : AS → Prop} (ho : storeOp o = true) (hh : σ.hint = []) (h : nextVd P gl ops o σ K) :
    ∃ s, K s ∧ SameTm σ s ∧ (∀ K' : AS → Prop, K' s → nextVd P gl ops o σ K') ∧ ∀ (d : Option Nat) (z : TV), (∀ t, d = some t → t ∉ o.looksAt ops) → ∀ K' : AS → Prop, K' (s.put d z) → nextVd P gl ops o (σ.put d z) K' := by
  obtain ⟨t, a, y, hop⟩ : ∃ t a y, o.op = .store t a y := by
    unfold storeOp at ho
    split at ho
    · rename_i t a y hq; exact ⟨t, a, y, hq⟩
    · cases ho
  obtain ⟨hd, h⟩ := h
  have hdn : o.dst = none := by
    have := hd
    unfold dstOk at this
    rw [hop] at this
    simp only [Bool.and_eq_true] at this
    cases hq : o.dst with
    | none => rfl
    | some q => rw [hq] at this; simp at this
  have hR : ∀ s : AS, Pv.opR P gl s o = storeR P s t (Pv.ev gl s a) (Pv.ev gl s y) := fun s => by unfold Pv.opR; rw [hop]
  cases hg : guardB ops o σ with
  | none => rw [hg] at h; exact h.elim
  | some b =>
    rw [hg] at h
    cases b with
    | false =>
      have h' : K σ := by rw [hdn] at h; exact h
      refine ⟨σ, h', ⟨rfl, rfl, rfl, rfl, rfl, rfl⟩, fun K' hk => ⟨hd, by rw [hg, hdn]; exact hk⟩, fun d z hz K' hk => ?_⟩
      have hs := sees_put (gl := gl) (ops := ops) (o := o) hh z hz
      exact ⟨by rw [hs.dst]; exact hd, by rw [hs.guard, hg, hdn]; exact hk⟩
    | true =>
      simp only [] at h
      rw [hR] at h
      cases hr : storeR P σ t (Pv.ev gl σ a) (Pv.ev gl σ y) with
      | eff c s =>
        rw [hr] at h
        obtain ⟨h1, h2, h3⟩ := h
        refine ⟨s, h3, storeR_same hh hr, fun K' hk => ⟨hd, ?_⟩, fun d z hz K' hk => ?_⟩
        · rw [hg]; simp only []; rw [hR, hr]; exact ⟨h1, h2, hk⟩
        · have hs := sees_put (gl := gl) (ops := ops) (o := o) hh z hz
          refine ⟨by rw [hs.dst]; exact hd, ?_⟩
          rw [hs.guard, hg]
          simp only []
          rw [hR, hs.ev (x := a) (by rw [hop]; simp [Op.operands]), hs.ev (x := y) (by rw [hop]; simp [Op.operands]), storeR_put hh, hr]
          exact ⟨h1, h2, hk⟩
      | stuck => rw [hr] at h; exact h.elim
      | val c x => exfalso; unfold storeR at hr; split at hr <;> first | cases hr | (split at hr <;> first | cases hr | (split at hr <;> cases hr))
      | call f l => exfalso; unfold storeR at hr; split at hr <;> first | cases hr | (split at hr <;> first | cases hr | (split at hr <;> cases hr))
      | callB f l ks => exfalso; unfold storeR at hr; split at hr <;> first | cases hr | (split at hr <;> first | cases hr | (split at hr <;> cases hr))
      | yld l x => exfalso; unfold storeR at hr; split at hr <;> first | cases hr | (split at hr <;> first | cases hr | (split at hr <;> cases hr))

theorem SameTm.put {σ s : AS} (h : SameTm σ s) (d : Option Nat) (x : TV) : SameTm (σ.put d x) (s.put d x) := by
  cases d with
  | none => exact h
  | some d => exact ⟨by simp [AS.put, h.tm], h.n, h.ys, h.fx, h.mks, h.hint⟩

theorem store_ahead {o : Oper} {σ : AS} {d : Option Nat} {z : TV} {K : AS → Prop} (ho : storeOp o = true) (hh : σ.hint = []) (hz : ∀ t, d = some t → t ∉ o.looksAt ops) (h : nextVd P gl ops o (σ.put d z) K) :
    ∃ s, K (s.put d z) ∧ SameTm σ s ∧ (∀ K' : AS → Prop, K' s → nextVd P gl ops o σ K') ∧ True := by
  have hs := sees_put (gl := gl) (ops := ops) (o := o) hh z hz
  obtain ⟨t, a, y, hop⟩ : ∃ t a y, o.op = .store t a y := by
    unfold storeOp at ho
    split at ho
    · rename_i t a y hq; exact ⟨t, a, y, hq⟩
    · cases ho
  have hR : ∀ s : AS, Pv.opR P gl s o = storeR P s t (Pv.ev gl s a) (Pv.ev gl s y) := fun s => by unfold Pv.opR; rw [hop]
  have h1 : nextVd P gl ops o σ fun s => K (s.put d z) := by
    obtain ⟨hd, h⟩ := h
    rw [hs.dst] at hd
    have hdn : o.dst = none := by
      have := hd
      unfold dstOk at this
      rw [hop] at this
      simp only [Bool.and_eq_true] at this
      cases hq : o.dst with
      | none => rfl
      | some q => rw [hq] at this; simp at this
    refine ⟨hd, ?_⟩
    rw [hs.guard] at h
    cases hg : guardB ops o σ with
    | none => rw [hg] at h; exact h
    | some b =>
      rw [hg] at h
      cases b with
      | false => rw [hdn] at h ⊢; exact h
      | true =>
        simp only [] at h ⊢
        rw [hR, hs.ev (x := a) (by rw [hop]; simp [Op.operands]), hs.ev (x := y) (by rw [hop]; simp [Op.operands]), storeR_put hh] at h
        rw [hR]
        cases hr : storeR P σ t (Pv.ev gl σ a) (Pv.ev gl σ y) with
        | eff c s => rw [hr] at h; exact h
        | stuck => rw [hr] at h; exact h
        | val c x => exfalso; unfold storeR at hr; split at hr <;> first | cases hr | (split at hr <;> first | cases hr | (split at hr <;> cases hr))
        | call f l => exfalso; unfold storeR at hr; split at hr <;> first | cases hr | (split at hr <;> first | cases hr | (split at hr <;> cases hr))
        | callB f l ks => exfalso; unfold storeR at hr; split at hr <;> first | cases hr | (split at hr <;> first | cases hr | (split at hr <;> cases hr))
        | yld l x => exfalso; unfold storeR at hr; split at hr <;> first | cases hr | (split at hr <;> first | cases hr | (split at hr <;> cases hr))
  obtain ⟨s, h2, h3, h4, -⟩ := store_step ho hh h1
  exact ⟨s, h2, h3, h4, trivial⟩

def okP (k : Nat) : TV → Bool
  | .lp k' _ => k' == k
  | .v (.gp _ _) _ => false
  | _ => true
def Im (m : List (Nat × Nat)) (σ : AS) : Bool := m.all fun p => okP p.2 (σ.get p.1)
def stepOk (m : List (Nat × Nat)) (o : Oper) : Bool :=
  storeOp o || (quietOp o && m.all fun p => o.dst != some p.1 || match o.op with
    | .fieldAddr _ (.tmp u) _ => m.any fun q => q.1 == u && q.2 == p.2
    | _ => false)
def sepOp (m : List (Nat × Nat)) (oi oj : Oper) : Bool :=
  match oi.op, oj.op with
  | .load _ (.tmp a), .store _ (.tmp b) _ => m.any fun p => p.1 == a && m.any fun q => q.1 == b && p.2 != q.2
  | _, _ => false

theorem sep_quiet {m : List (Nat × Nat)} {oi oj : Oper} (h : sepOp m oi oj = true) : quietOp oi = true := by
  unfold sepOp at h
  split at h
  · rename_i h1 _; unfold quietOp; rw [h1]
  · cases h
theorem Im.of {m : List (Nat × Nat)} {σ : AS} (h : Im m σ = true) {p : Nat × Nat} (hp : p ∈ m) : okP p.2 (σ.get p.1) = true := List.all_eq_true.1 h p hp
theorem Im.same {m : List (Nat × Nat)} {σ s : AS} (h : Im m σ = true) (hs : SameTm σ s) : Im m s = true :=
  List.all_eq_true.2 fun p hp => by
    have := Im.of h hp
    unfold AS.get at this ⊢
    rw [hs.tm]; exact this
theorem Im.eqv {m : List (Nat × Nat)} {σ s : AS} (h : Im m σ = true) (e : Eqv σ s) : Im m s = true :=
  List.all_eq_true.2 fun p hp => by
    have := Im.of h hp
    rw [show s.get p.1 = σ.get p.1 by unfold AS.get; rw [e.tm]]; exact this

theorem Im.put {m : List (Nat × Nat)} {σ : AS} {o : Oper} {x : TV} (h : Im m σ = true) (hs : stepOk m o = true) (hq : quietOp o = true) (hy : YA P gl ops o σ x) : Im m (σ.put o.dst x) = true := by
  refine List.all_eq_true.2 fun p hp => ?_
  have h1 := Im.of h hp
  have hst : storeOp o = false := by
    cases hso : storeOp o with
    | false => rfl
    | true => have := store_loud hso; rw [hq] at this; cases this
  simp only [stepOk, hst, Bool.false_or, Bool.and_eq_true] at hs
  have h2 := List.all_eq_true.1 hs.2 p hp
  by_cases hd : o.dst = some p.1
  · rw [hd] at h2 ⊢
    simp only [bne_self_eq_false, Bool.false_or] at h2
    have hg : (σ.put (some p.1) x).get p.1 = x.strip := by simp [AS.get, AS.put, look]
    rw [hg]
    split at h2
    · rename_i t u i hop
      obtain ⟨q, hqm, hq2⟩ := List.any_eq_true.1 h2
      simp only [Bool.and_eq_true, beq_iff_eq] at hq2
      have h3 := Im.of h hqm
      rw [hq2.1, hq2.2] at h3
      obtain ⟨-, ⟨-, ⟨c, hr, -⟩ | ⟨f, args, r, hr, -, -⟩⟩ | ⟨-, rfl⟩⟩ := hy
      · unfold Pv.opR at hr
        rw [hop] at hr
        simp only [Pv.ev] at hr
        generalize σ.get u = z at h3 hr
        unfold fieldAddrR at hr
        split at hr
        · split at hr
          · simp only [OR.val.injEq] at hr; rw [← hr.2]; exact h3
          · cases hr
        · split at hr
          · simp only [OR.val.injEq] at hr; rw [← hr.2]; rfl
          · cases hr
        · cases h3
        · cases hr
      · unfold Pv.opR at hr
        rw [hop] at hr
        simp only [] at hr
        unfold fieldAddrR at hr
        split at hr <;> first | cases hr | (split at hr <;> cases hr)
      · rfl
    · cases h2
  · have hg : (σ.put o.dst x).get p.1 = σ.get p.1 := by
      cases hdd : o.dst with
      | none => rfl
      | some d =>
        have : d ≠ p.1 := fun e => hd (by rw [hdd, e])
        simp [AS.get, AS.put, look, this]
    rw [hg]; exact h1

theorem tagAt_clr {tb : List (Nat × Nat × Nat × Nat)} {k k' off n j : Nat} (h : k' ≠ k) : tagAt (clr tb k' off n) k j = tagAt tb k j := by
  induction tb with
  | nil => rfl
  | cons q r ih =>
    unfold clr at ih ⊢
    rw [List.filter_cons]
    split
    · simp only [tagAt, ih]
    · rename_i hc
      have : q.1 = k' := by simp at hc; exact hc.1
      rw [ih]
      conv => rhs; unfold tagAt
      rw [if_neg (by rintro ⟨h1, -⟩; exact h (this.symm.trans h1))]
theorem tagAt_of {tb : List (Nat × Nat × Nat × Nat)} {k k' off j : Nat} {g : Option (Nat × Nat)} (h : k' ≠ k) : tagAt (tbOf k' off g ++ tb) k j = tagAt tb k j := by
  cases g with
  | none => rfl
  | some q => simp [tbOf, tagAt, h]

theorem YA.sep {m : List (Nat × Nat)} {oi oj : Oper} {σ s0 : AS} {x : TV} (hsep : sepOp m oi oj = true) (hm : Im m σ = true) (hh : σ.hint = []) (hy : YA P gl ops oi σ x) (hn : nextVd P gl ops oj σ (fun s => s = s0)) (hs : SameTm σ s0) : YA P gl ops oi s0 x := by
  obtain ⟨ti, a, tj, b, y, hi, hj, hab⟩ : ∃ ti a tj b y, oi.op = .load ti (.tmp a) ∧ oj.op = .store tj (.tmp b) y ∧ (m.any fun p => p.1 == a && m.any fun q => q.1 == b && p.2 != q.2) = true := by
    unfold sepOp at hsep
    split at hsep
    · rename_i ti a tj b y h1 h2; exact ⟨ti, a, tj, b, y, h1, h2, hsep⟩
    · cases hsep
  obtain ⟨p, hp, hp2⟩ := List.any_eq_true.1 hab
  simp only [Bool.and_eq_true, beq_iff_eq] at hp2
  obtain ⟨q, hqm, hq2⟩ := List.any_eq_true.1 hp2.2
  simp only [Bool.and_eq_true, beq_iff_eq, bne_iff_ne, ne_eq] at hq2
  have ha := Im.of hm hp
  have hb := Im.of hm hqm
  rw [hp2.1] at ha
  rw [hq2.1] at hb
  have hqi : quietOp oi = true := by unfold quietOp; rw [hi]
  have hsee : Sees gl ops oi σ { s0 with bx := σ.bx, tb := σ.tb, sh := σ.sh } := ⟨⟨hs.ys, hs.fx, hs.mks⟩, hs.n, fun t _ => by unfold AS.get; show ((look t s0.tm).getD .un).strip = _; rw [hs.tm], rfl, rfl, rfl, hh, by show s0.hint = []; rw [hs.hint]; exact hh⟩
  have h2 := hy.sees hqi hsee
  have hga : s0.get a = σ.get a := by unfold AS.get; rw [hs.tm]
  have hop : Pv.opR P gl { s0 with bx := σ.bx, tb := σ.tb, sh := σ.sh } oi = Pv.opR P gl s0 oi := by
    have hga' : AS.get { s0 with bx := σ.bx, tb := σ.tb, sh := σ.sh } a = σ.get a := by unfold AS.get; show ((look a s0.tm).getD .un).strip = _; rw [hs.tm]
    unfold Pv.opR
    rw [hi]
    simp only [Pv.ev]
    rw [hga, hga']
    obtain ⟨-, hn⟩ := hn
    cases hg : guardB ops oj σ with
    | none => rw [hg] at hn; exact hn.elim
    | some bb =>
      rw [hg] at hn
      cases bb with
      | false =>
        simp only [] at hn
        have e1 : s0.bx = σ.bx := by rw [← hn]; cases oj.dst <;> rfl
        have e2 : s0.tb = σ.tb := by rw [← hn]; cases oj.dst <;> rfl
        have e3 : s0.sh = σ.sh := by rw [← hn]; cases oj.dst <;> rfl
        unfold loadOpR
        rw [e1, e2, e3]
      | true =>
        simp only [] at hn
        have hr : Pv.opR P gl σ oj = storeR P σ tj (σ.get b) (Pv.ev gl σ y) := by unfold Pv.opR; rw [hj]; rfl
        rw [hr] at hn
        generalize σ.get b = zb at hb hn
        generalize σ.get a = za at ha
        cases hst : storeR P σ tj zb (Pv.ev gl σ y) with
        | eff c s =>
          rw [hst] at hn
          have hse : s = s0 := hn.2.2
          subst hse
          unfold storeR at hst
          split at hst
          · cases hst
          · split at hst
            · rename_i kb offb
              split at hst
              · simp only [OR.eff.injEq, hh, openB_nil] at hst
                obtain ⟨-, rfl⟩ := hst
                have hkb : kb = q.2 := by simpa [okP] using hb
                cases za with
                | lp ka offa =>
                  have hka : ka = p.2 := by simpa [okP] using ha
                  have hne : kb ≠ ka := by rw [hkb, hka]; exact fun e => hq2.2 e.symm
                  simp only [loadOpR, look, if_neg hne, tagAt_of hne, tagAt_clr hne]
                | v u g => cases u <;> first | rfl | cases ha
                | _ => rfl
              · cases hst
            · cases hb
            · cases hst
        | stuck => rw [hst] at hn; exact hn.elim
        | val c x => exfalso; unfold storeR at hst; split at hst <;> first | cases hst | (split at hst <;> first | cases hst | (split at hst <;> cases hst))
        | call f l => exfalso; unfold storeR at hst; split at hst <;> first | cases hst | (split at hst <;> first | cases hst | (split at hst <;> cases hst))
        | callB f l ks => exfalso; unfold storeR at hst; split at hst <;> first | cases hst | (split at hst <;> first | cases hst | (split at hst <;> cases hst))
        | yld l x => exfalso; unfold storeR at hst; split at hst <;> first | cases hst | (split at hst <;> first | cases hst | (split at hst <;> cases hst))
  unfold YA at h2 ⊢
  rw [hop] at h2
  exact h2

def isCl : TV → Bool
  | .cl _ _ => true
  | _ => false
def NoC (σ : AS) : Prop := ∀ t, isCl (σ.get t) = false
def calmOp (o : Oper) : Bool := match o.op with
  | .move (.tmp _) | .fieldAddr .. | .load .. | .build .. => true
  | .call c => match c.callee with
    | .value _ => true
    | _ => false
  | _ => false
def allocOp (o : Oper) : Bool := match o.op with
  | .alloc _ => o.guard.isNone
  | _ => false
def stepC (o : Oper) : Bool := calmOp o || storeOp o || allocOp o
theorem calm_quiet {o : Oper} (h : calmOp o = true) : quietOp o = true := by
  unfold calmOp at h; unfold quietOp
  split at h
  · rename_i ho; rw [ho]
  · rename_i ho; rw [ho]
  · rename_i ho; rw [ho]
  · rename_i ho; rw [ho]
  · rename_i c ho
    rw [ho]
    split at h
    · rename_i hc; simp only [hc]
    · cases h
  · cases h
theorem NoC.cl {σ : AS} (h : NoC σ) (k : Nat) : noClP k σ.tm := fun t f ks hl => by
  have := h t
  unfold AS.get at this
  rw [hl] at this
  cases this
theorem isCl_strip (x : TV) : isCl x.strip = isCl x := by cases x <;> rfl
theorem NoC.put {σ : AS} {x : TV} (h : NoC σ) (hx : isCl x = false) (d : Option Nat) : NoC (σ.put d x) := fun t => by
  cases d with
  | none => exact h t
  | some d =>
    by_cases hd : d = t
    · subst hd; simp [AS.get, AS.put, look, isCl_strip, hx]
    · have := h t
      simpa [AS.get, AS.put, look, hd] using this
theorem NoC.same {σ s : AS} (h : NoC σ) (hs : SameTm σ s) : NoC s := fun t => by
  have := h t
  unfold AS.get at this ⊢
  rw [hs.tm]; exact this
theorem calm_val {o : Oper} {σ : AS} {x : TV} (hc : calmOp o = true) (hn : NoC σ) (hy : YA P gl ops o σ x) : isCl x = false := by
  obtain ⟨-, ⟨-, ⟨c, hr, -⟩ | ⟨f, args, r, hr, -, rfl⟩⟩ | ⟨-, rfl⟩⟩ := hy
  · unfold calmOp at hc
    unfold Pv.opR at hr
    split at hc
    · rename_i u ho
      rw [ho] at hr
      simp only [OR.val.injEq, Pv.ev] at hr
      rw [← hr.2]; exact hn u
    · rename_i t y i ho
      rw [ho] at hr
      simp only [] at hr
      unfold fieldAddrR at hr
      split at hr
      · split at hr
        · simp only [OR.val.injEq] at hr; rw [← hr.2]; rfl
        · cases hr
      · split at hr
        · simp only [OR.val.injEq] at hr; rw [← hr.2]; rfl
        · cases hr
      · split at hr
        · simp only [OR.val.injEq] at hr; rw [← hr.2]; rfl
        · cases hr
      · cases hr
    · rename_i t y ho
      rw [ho] at hr
      simp only [] at hr
      have hL : ∀ l c y, loadR P t l = .val c y → isCl y = false := fun l c y hl => by
        unfold loadR at hl
        split at hl
        · simp only [OR.val.injEq] at hl; rw [← hl.2]; rfl
        · split at hl
          · simp only [OR.val.injEq] at hl; rw [← hl.2]; rfl
          · cases hl
        · cases hl
      have hT : ∀ g l c y, retag g (loadR P t l) = .val c y → isCl y = false := fun g l c y hl => by
        cases hq : loadR P t l with
        | val c' y' =>
          rw [hq] at hl
          have h1 := hL l c' y' hq
          cases y' with
          | v u gg => cases gg with
            | none => simp only [retag, OR.val.injEq] at hl; rw [← hl.2]; rfl
            | some gg => simp only [retag, OR.val.injEq] at hl; rw [← hl.2]; rfl
          | un => simp only [retag, OR.val.injEq] at hl; rw [← hl.2]; rfl
          | bld _ _ => simp only [retag, OR.val.injEq] at hl; rw [← hl.2]; rfl
          | lp _ _ => simp only [retag, OR.val.injEq] at hl; rw [← hl.2]; rfl
          | it _ => simp only [retag, OR.val.injEq] at hl; rw [← hl.2]; rfl
          | cl _ _ => cases h1
        | _ => rw [hq] at hl; cases hl
      unfold loadOpR at hr
      split at hr
      · exact hL _ _ _ hr
      · split at hr
        · split at hr
          · exact hL _ _ _ hr
          · exact hT _ _ _ _ hr
          · cases hr
        · cases hr
      · split at hr
        · exact hL _ _ _ hr
        · cases hr
      · cases hr
    · rename_i t y ho
      rw [ho] at hr
      simp only [] at hr
      unfold buildR at hr
      split at hr
      · split at hr
        · split at hr
          · simp only [OR.val.injEq] at hr; rw [← hr.2]; rfl
          · cases hr
        · cases hr
      · cases hr
    · rename_i cc ho
      rw [ho] at hr
      simp only [] at hr
      unfold callR at hr
      split at hc
      · rename_i y hcc
        rw [hcc] at hr
        simp only [] at hr
        split at hr <;> cases hr
      · cases hc
    · cases hc
  · rfl
  · rfl

theorem calm_bx {o : Oper} {σ : AS} {x : TV} {k : Nat} {z : List AV} (hc : calmOp o = true) (hk : look k σ.bx = none) (hy : YA P gl ops o σ x) : YA P gl ops o { σ with bx := (k, z) :: σ.bx } x := by
  obtain ⟨hd, h⟩ := hy
  refine ⟨hd, ?_⟩
  have hev : Pv.ev gl { σ with bx := (k, z) :: σ.bx } = Pv.ev gl σ := by funext y; cases y <;> rfl
  have key : ∀ r, Pv.opR P gl σ o = r → r ≠ .stuck → Pv.opR P gl { σ with bx := (k, z) :: σ.bx } o = r := by
    intro r hr hs
    unfold calmOp at hc
    unfold Pv.opR at hr ⊢
    split at hc
    · rename_i u ho; rw [ho] at hr ⊢; exact hr
    · rename_i t y i ho; rw [ho] at hr ⊢; simp only [hev] at hr ⊢; exact hr
    · rename_i t y ho
      rw [ho] at hr ⊢
      simp only [hev] at hr ⊢
      generalize Pv.ev gl σ y = a at hr ⊢
      cases a with
      | lp k' off =>
        have hne : k ≠ k' := by
          rintro rfl
          simp only [loadOpR, hk] at hr
          exact hs hr.symm
        simp only [loadOpR, look, if_neg hne] at hr ⊢
        exact hr
      | v u g => cases u <;> exact hr
      | _ => exact hr
    · rename_i t y ho; rw [ho] at hr ⊢; simp only [hev] at hr ⊢; exact hr
    · rename_i cc ho
      rw [ho] at hr ⊢
      simp only [] at hr ⊢
      unfold callR at hr ⊢
      split at hc
      · rename_i y hcc
        rw [hcc] at hr ⊢
        simp only [hev] at hr ⊢
        exact hr
      · cases hc
    · cases hc
  rcases h with ⟨hg, ⟨c, hr, h2⟩ | ⟨f, args, r, hr, h2⟩⟩ | h
  · exact .inl ⟨hg, .inl ⟨c, key _ hr (fun e => by cases e), h2⟩⟩
  · exact .inl ⟨hg, .inr ⟨f, args, r, key _ hr (fun e => by cases e), h2⟩⟩
  · exact .inr h

def al (σ : AS) (k : Nat) (z : List AV) : AS := { σ with bx := (k, z) :: σ.bx, hint := [] }.put (some k) (.lp k 0)
def AlOk (P : Program) (gl : Gl) (o : Oper) (σ : AS) (k : Nat) (z : List AV) : Prop := dstOk P o σ = true ∧ (∃ t, o.op = .alloc t ∧ azero P t = some z) ∧ o.dst = some k ∧ look k σ.bx = none ∧ gl.y = none
theorem alloc_of {o : Oper} {σ : AS} {K : AS → Prop} (ho : allocOp o = true) (hh : σ.hint = []) (h : nextVd P gl ops o σ K) : ∃ k z, AlOk P gl o σ k z ∧ K (al σ k z) := by
  unfold allocOp at ho
  split at ho
  · rename_i t hop
    obtain ⟨hd, h⟩ := h
    have hg : guardB ops o σ = some true := by
      unfold guardB
      cases hgu : o.guard with
      | none => rfl
      | some q => rw [hgu] at ho; cases ho
    rw [hg] at h
    simp only [] at h
    have hR : Pv.opR P gl σ o = allocR P σ o.dst t := by unfold Pv.opR; rw [hop]
    rw [hR] at h
    unfold allocR at h
    split at h
    · rename_i z k hz hdst
      cases hl : look k σ.bx with
      | none =>
        rw [hl] at h
        simp only [hh, openB_nil] at h
        exact ⟨k, z, ⟨hd, ⟨t, hop, hz⟩, hdst, hl, h.2.1.2⟩, h.2.2⟩
      | some c => rw [hl] at h; exact h.elim
    · exact h.elim
  · cases ho
theorem alloc_to {o : Oper} {σ : AS} {K : AS → Prop} {k : Nat} {z : List AV} (ho : allocOp o = true) (hh : σ.hint = []) (ha : AlOk P gl o σ k z) (hc : noClP k σ.tm) (hK : K (al σ k z)) : nextVd P gl ops o σ K := by
  obtain ⟨hd, ⟨t, hop, hz⟩, hdst, hl, hy⟩ := ha
  have hg : guardB ops o σ = some true := by
    unfold allocOp at ho
    rw [hop] at ho
    unfold guardB
    cases hgu : o.guard with
    | none => rfl
    | some q => rw [hgu] at ho; cases ho
  refine ⟨hd, ?_⟩
  rw [hg]
  simp only []
  have hR : Pv.opR P gl σ o = .eff (noClP k σ.tm) (al σ k z) := by
    unfold Pv.opR
    rw [hop]
    simp only [allocR, hz, hdst, hl, hh, openB_nil]
    rfl
  rw [hR]
  exact ⟨by unfold quietOp; rw [hop], ⟨hc, hy⟩, hK⟩
theorem AlOk.put {o : Oper} {σ : AS} {k : Nat} {z : List AV} {d : Option Nat} {x : TV} (h : AlOk P gl o (σ.put d x) k z) : AlOk P gl o σ k z := by
  cases d with
  | none => exact h
  | some d => exact h
theorem al_put (σ : AS) (k : Nat) (z : List AV) (d : Option Nat) (x : TV) (hd : d ≠ some k) : Eqv (al (σ.put d x) k z) ((al σ k z).put d x) := by
  cases d with
  | none => exact ⟨⟨rfl, rfl, rfl⟩, rfl, fun _ => rfl, rfl, rfl, rfl, rfl, rfl⟩
  | some d =>
    refine ⟨⟨rfl, rfl, rfl⟩, rfl, fun t => ?_, rfl, rfl, rfl, rfl, rfl⟩
    simp only [al, AS.put, look]
    by_cases h1 : d = t
    · have h2 : ¬ k = t := fun e => hd (by rw [h1, e])
      rw [if_pos h1, if_neg h2]
      simp [h1]
    · rw [if_neg h1]
      simp [h1]

theorem nextVd_mono {o : Oper} {σ : AS} {K K' : AS → Prop} (hk : ∀ s, K s → K' s) (h : nextVd P gl ops o σ K) : nextVd P gl ops o σ K' := by
  obtain ⟨hd, h⟩ := h
  refine ⟨hd, ?_⟩
  cases hg : guardB ops o σ with
  | none => rw [hg] at h; exact h
  | some b =>
    rw [hg] at h
    cases b with
    | false => exact hk _ h
    | true =>
      simp only [] at h ⊢
      cases hr : opR P gl σ o with
      | stuck => rw [hr] at h; exact h
      | val c x => rw [hr] at h; exact ⟨h.1, hk _ h.2⟩
      | eff c s => rw [hr] at h; exact ⟨h.1, h.2.1, hk _ h.2.2⟩
      | call f args => rw [hr] at h; obtain ⟨r, h1, h2⟩ := h; exact ⟨r, h1, hk _ h2⟩
      | callB f args ks => rw [hr] at h; exact h.elim
      | yld l x => rw [hr] at h; exact h.elim

def OkM (b : Bool) (m : List (Nat × Nat)) (ops : Array Oper) : Prop := (m = [] ∨ ∀ (j : Nat) (o : Oper), ops[j]? = some o → stepOk m o = true) ∧ (b = false ∨ ∀ (j : Nat) (o : Oper), ops[j]? = some o → stepC o = true)
def Iv (b : Bool) (m : List (Nat × Nat)) (σ : AS) : Prop := Im m σ = true ∧ (b = true → NoC σ)

theorem stepC_quiet {o : Oper} (h : stepC o = true) (hq : quietOp o = true) : calmOp o = true := by
  unfold stepC at h
  cases hc : calmOp o with
  | true => rfl
  | false =>
    cases hs : storeOp o with
    | true => have := store_loud hs; rw [hq] at this; cases this
    | false =>
      rw [hc, hs] at h
      unfold allocOp at h
      unfold quietOp at hq
      cases ho : o.op <;> rw [ho] at h hq <;> first | cases h | cases hq

theorem Iv.putM {b : Bool} {m : List (Nat × Nat)} {σ : AS} {j : Nat} {o : Oper} {x : TV} (hom : OkM b m ops) (ho : ops[j]? = some o) (h : Iv b m σ) (hq : quietOp o = true) (hy : YA P gl ops o σ x) : Iv b m (σ.put o.dst x) := by
  refine ⟨?_, fun hb => ?_⟩
  · rcases hom.1 with rfl | hom
    · rfl
    · exact Im.put h.1 (hom j o ho) hq hy
  · rcases hom.2 with rfl | hom
    · cases hb
    · exact (h.2 hb).put (calm_val (stepC_quiet (hom j o ho) hq) (h.2 hb) hy) _

theorem Iv.same {b : Bool} {m : List (Nat × Nat)} {σ s : AS} (h : Iv b m σ) (hs : SameTm σ s) : Iv b m s := ⟨Im.same h.1 hs, fun hb => (h.2 hb).same hs⟩

theorem Iv.al {m : List (Nat × Nat)} {b : Bool} {σ : AS} {j : Nat} {o : Oper} {k : Nat} {z : List AV} (hom : OkM b m ops) (ho : ops[j]? = some o) (hal : allocOp o = true) (h : Iv b m σ) : Iv b m (al σ k z) := by
  refine ⟨?_, fun hb => ?_⟩
  · rcases hom.1 with rfl | hom
    · rfl
    · exfalso
      have h1 := hom j o ho
      unfold allocOp at hal
      unfold stepOk storeOp quietOp at h1
      cases hop : o.op <;> rw [hop] at hal h1 <;> first | cases hal | cases h1
  · have := (h.2 hb).put (x := .lp k 0) rfl (some k)
    intro t
    exact this t

theorem Iv.next {b : Bool} {m : List (Nat × Nat)} {σ : AS} {j : Nat} {o : Oper} {K : AS → Prop} (hom : OkM b m ops) (ho : ops[j]? = some o) (hh : σ.hint = []) (h : Iv b m σ) (hn : nextVd P gl ops o σ K) : nextVd P gl ops o σ (fun s => Iv b m s ∧ K s) := by
  cases hso : storeOp o with
  | true =>
    obtain ⟨s, hs, hsm, hany, -⟩ := store_step hso hh hn
    exact hany _ ⟨h.same hsm, hs⟩
  | false =>
    cases hq : quietOp o with
    | true =>
      obtain ⟨x, hy, hk⟩ := YA_of_next hq hn
      exact next_of_YA hy ⟨h.putM hom ho hq hy, hk⟩
    | false =>
      cases hal : allocOp o with
      | true =>
        obtain ⟨k, z, ha, hK⟩ := alloc_of hal hh hn
        have hcl : nextVd P gl ops o σ fun s => K s := hn
        unfold allocOp at hal
        split at hal
        · rename_i t hop
          have hal' : allocOp o = true := by unfold allocOp; rw [hop]; exact hal
          have hv := h.al (k := k) (z := z) hom ho hal'
          -- what the new box asks stands as it stood
          have hc : noClP k σ.tm := by
            obtain ⟨hd, hn⟩ := hn
            have hg : guardB ops o σ = some true := by
              unfold guardB
              cases hgu : o.guard with
              | none => rfl
              | some q => rw [hgu] at hal; cases hal
            rw [hg] at hn
            simp only [] at hn
            have hR : Pv.opR P gl σ o = allocR P σ o.dst t := by unfold Pv.opR; rw [hop]
            rw [hR] at hn
            obtain ⟨-, ⟨t', hop', hz⟩, hdst, hl, -⟩ := ha
            rw [hop] at hop'
            injection hop' with hop'
            subst hop'
            simp only [allocR, hz, hdst, hl] at hn
            exact hn.2.1.1
          exact alloc_to hal' hh ha hc ⟨hv, hK⟩
        · cases hal
      | false =>
        have hb : b = false := by
          rcases hom.2 with hb | hom
          · exact hb
          · have := hom j o ho
            unfold stepC at this
            rw [hso, hal] at this
            simp only [Bool.or_false] at this
            have := calm_quiet this
            rw [hq] at this; cases this
        have hm : m = [] := by
          rcases hom.1 with hm | hom
          · exact hm
          · have := hom j o ho
            unfold stepOk at this
            rw [hso, hq] at this
            cases this
        subst hb; subst hm
        exact nextVd_mono (fun s hs => ⟨⟨rfl, fun h => by cases h⟩, hs⟩) hn

theorem anyA_first {b : Bool} {m : List (Nat × Nat)} (hom : OkM b m ops) {i : Nat} {oi : Oper} {x : TV} (hi : ops[i]? = some oi) (hqi : quietOp oi = true) (hK : ∀ s s', Eqv s s' → K s → K s') : ∀ (fuel : Nat) (listed : Array Bool) (σ : AS), Iv b m σ → σ.hint = [] → DC ops listed →
    (∀ j oj, ops[j]? = some oj → j ≠ i → listed.getD j true = false → Reach ops j i ∨ ((quietOp oj = true ∨ (pureOp oi = true ∧ storeOp oj = true) ∨ (sepOp m oi oj = true ∧ storeOp oj = true) ∨ (b = true ∧ calmOp oi = true ∧ allocOp oj = true)) ∧ oi.apart ops oj = true)) →
    i ∈ Region.ready .any ops listed → YA P gl ops oi σ x → anyA P gl ops K fuel (listed.setIfInBounds i true) (σ.put oi.dst x) → anyA P gl ops K (fuel + 1) listed σ := by
  intro fuel
  induction fuel with
  | zero =>
    intro listed σ him hh hdc hfree hr hy H
    refine ⟨fun h => (by rw [h] at hr; cases hr), fun j hj => ?_⟩
    by_cases hji : j = i
    · subst hji; exact ⟨oi, hi, next_of_YA hy H⟩
    · have := ready_mono hj hji
      rw [H.1] at this
      cases this
  | succ fuel ih =>
    intro listed σ him hh hdc hfree hr hy H
    refine ⟨fun h => (by rw [h] at hr; cases hr), fun j hj => ?_⟩
    by_cases hji : j = i
    · subst hji; exact ⟨oi, hi, next_of_YA hy H⟩
    · obtain ⟨hjun, oj', hoj', _⟩ := mem_ready.1 hj
      obtain ⟨oj, hoj, h1⟩ := H.2 j (ready_mono hj hji)
      have hiun := (mem_ready.1 hr).1
      have hfree' : ∀ k ok, ops[k]? = some ok → k ≠ i → (listed.setIfInBounds j true).getD k true = false → Reach ops k i ∨ ((quietOp ok = true ∨ (pureOp oi = true ∧ storeOp ok = true) ∨ (sepOp m oi ok = true ∧ storeOp ok = true) ∨ (b = true ∧ calmOp oi = true ∧ allocOp ok = true)) ∧ oi.apart ops ok = true) := by
        intro k ok hk' hki hun
        refine hfree k ok hk' hki ?_
        by_cases hjk : j = k
        · subst hjk; exact hjun
        · rw [getD_set_ne true hjk] at hun; exact hun
      rcases hfree j oj hoj hji hjun with hreach | ⟨hqj | ⟨hpi, hsj⟩ | ⟨hsp, hsj⟩ | ⟨hbt, hci, haj⟩, hap⟩
      · exact absurd (hdc.ready hreach hj) (unlisted hiun)
      · obtain ⟨a1, a2, a3⟩ := Oper.apart_spec hap
        have hs1 : Sees gl ops oj σ (σ.put oi.dst x) := sees_put hh x a1
        obtain ⟨y, hyj, hk⟩ := YA_of_next hqj h1
        have hyj' : YA P gl ops oj σ y := hyj.sees hqj hs1.symm
        refine ⟨oj, hoj, next_of_YA hyj' ?_⟩
        refine ih (listed.setIfInBounds j true) (σ.put oj.dst y) (Iv.putM hom hoj him hqj hyj') (put_hint hh _ _) (hdc.set hj) ?_ (ready_mono hr (Ne.symm hji)) (hy.sees hqi (sees_put hh y a3)) ?_
        · exact hfree'
        · rw [Array.setIfInBounds_comm _ _ hji]
          refine anyA_eqv hK fuel _ _ _ ?_ hk
          exact Eqv.swap hh x y (fun t ht hd => a2 t ht hd)
      · obtain ⟨a1, a2, a3⟩ := Oper.apart_spec hap
        have hh1 : (σ.put oi.dst x).hint = [] := put_hint hh _ _
        -- the store behind the quiet operation, and the same store ahead of it
        obtain ⟨s0, hs0, hsm0, hany0, -⟩ := store_ahead hsj hh a1 h1
        refine ⟨oj, hoj, hany0 _ ?_⟩
        refine ih (listed.setIfInBounds j true) s0 (him.same hsm0) (by rw [hsm0.hint]; exact hh) (hdc.set hj) hfree' (ready_mono hr (Ne.symm hji)) (hy.pure hpi hh hsm0) ?_
        rw [Array.setIfInBounds_comm _ _ hji]
        exact hs0
      · obtain ⟨a1, a2, a3⟩ := Oper.apart_spec hap
        have hh1 : (σ.put oi.dst x).hint = [] := put_hint hh _ _
        -- the store behind the quiet operation, and the same store ahead of it
        obtain ⟨s0, hs0, hsm0, hany0, -⟩ := store_ahead hsj hh a1 h1
        refine ⟨oj, hoj, hany0 _ ?_⟩
        refine ih (listed.setIfInBounds j true) s0 (him.same hsm0) (by rw [hsm0.hint]; exact hh) (hdc.set hj) hfree' (ready_mono hr (Ne.symm hji)) (hy.sep hsp him.1 hh (hany0 _ rfl) hsm0) ?_
        rw [Array.setIfInBounds_comm _ _ hji]
        exact hs0
      · obtain ⟨a1, a2, a3⟩ := Oper.apart_spec hap
        have hh1 : (σ.put oi.dst x).hint = [] := put_hint hh _ _
        -- the new box behind the quiet operation, and the same box ahead of it
        obtain ⟨k, z, hal, hs0⟩ := alloc_of haj hh1 h1
        have hal' : AlOk P gl oj σ k z := hal.put
        have hnc := (him.2 hbt).cl k
        refine ⟨oj, hoj, alloc_to haj hh hal' hnc ?_⟩
        have hyk : YA P gl ops oi (al σ k z) x := by
          have h3 := hy.sees hqi (sees_put (d := some k) hh (.lp k 0) (fun t ht => a3 t (by rw [hal'.2.2.1]; exact ht)))
          have h4 := calm_bx (z := z) hci (show look k (σ.put (some k) (.lp k 0)).bx = none from hal'.2.2.2.1) h3
          have : al σ k z = { σ.put (some k) (.lp k 0) with bx := (k, z) :: (σ.put (some k) (.lp k 0)).bx } := by
            unfold al AS.put
            simp only [hh]
          rw [this]; exact h4
        refine ih (listed.setIfInBounds j true) (al σ k z) (him.al hom hoj haj) rfl (hdc.set hj) hfree' (ready_mono hr (Ne.symm hji)) hyk ?_
        rw [Array.setIfInBounds_comm _ _ hji]
        exact anyA_eqv hK fuel _ _ _ (al_put σ k z oi.dst x (fun e => a2 k e hal'.2.2.1)) hs0

theorem anyA_delay {k : Nat} {o : Oper} (hk : ops[k]? = some o) (hK : ∀ s s', Eqv s s' → K s → K s') : ∀ (fuel : Nat) (listed : Array Bool) (σ : AS), σ.hint = [] → DC ops listed →
    (∀ j oj, ops[j]? = some oj → j ≠ k → listed.getD j true = false → Reach ops j k ∨ (storeOp o = true ∧ pureOp oj = true ∧ oj.apart ops o = true)) →
    k ∈ Region.ready .any ops listed → nextVd P gl ops o σ (anyA P gl ops K fuel (listed.setIfInBounds k true)) → anyA P gl ops K (fuel + 1) listed σ := by
  intro fuel
  induction fuel with
  | zero =>
    intro listed σ hh hdc hfree hr H
    refine ⟨fun h => (by rw [h] at hr; cases hr), fun j hj => ?_⟩
    by_cases hjk : j = k
    · subst hjk; exact ⟨o, hk, H⟩
    · obtain ⟨hjun, oj, hoj, _⟩ := mem_ready.1 hj
      rcases hfree j oj hoj hjk hjun with hreach | ⟨hso, hpj, hap⟩
      · exact absurd (hdc.ready hreach hj) (unlisted (mem_ready.1 hr).1)
      · obtain ⟨s, hs, -⟩ := store_step hso hh H
        have := ready_mono hj hjk
        rw [hs.1] at this
        cases this
  | succ fuel ih =>
    intro listed σ hh hdc hfree hr H
    refine ⟨fun h => (by rw [h] at hr; cases hr), fun j hj => ?_⟩
    by_cases hjk : j = k
    · subst hjk; exact ⟨o, hk, H⟩
    · obtain ⟨hjun, oj, hoj, _⟩ := mem_ready.1 hj
      rcases hfree j oj hoj hjk hjun with hreach | ⟨hso, hpj, hap⟩
      · exact absurd (hdc.ready hreach hj) (unlisted (mem_ready.1 hr).1)
      · obtain ⟨a1, a2, a3⟩ := Oper.apart_spec hap
        obtain ⟨s, hs, hsm, -, hput⟩ := store_step hso hh H
        obtain ⟨oj', hoj', hn⟩ := hs.2 j (ready_mono hj hjk)
        obtain rfl : oj = oj' := Option.some.inj (hoj.symm.trans hoj')
        obtain ⟨y, hy, hky⟩ := YA_of_next (pure_quiet hpj) hn
        have hsh : s.hint = [] := by rw [hsm.hint]; exact hh
        have hy' : YA P gl ops oj σ y := hy.pure hpj hsh ⟨hsm.tm.symm, hsm.n.symm, hsm.ys.symm, hsm.fx.symm, hsm.mks.symm, hsm.hint.symm⟩
        refine ⟨oj, hoj, next_of_YA hy' ?_⟩
        refine ih (listed.setIfInBounds j true) (σ.put oj.dst y) (put_hint hh _ _) (hdc.set hj) (fun m om hm hmk hun => ?_) (ready_mono hr (Ne.symm hjk)) ?_
        · refine hfree m om hm hmk ?_
          by_cases hjm : j = m
          · subst hjm; exact hjun
          · rw [getD_set_ne true hjm] at hun; exact hun
        · refine hput oj.dst y a1 _ ?_
          rw [Array.setIfInBounds_comm _ _ hjk]
          exact hky

def edgesOf (o : Oper) : List Nat := (o.after.toList.filter fun e => Region.binds .any e).map (·.on)

def maskOf (acc : List Nat) (es : List Nat) : Nat := es.foldl (fun m e => m ||| (2 ^ e ||| acc.getD e 0)) 0

def masks : List Oper → List Nat → List Nat
  | [], acc => acc
  | o :: r, acc => masks r (acc ++ [maskOf acc (edgesOf o)])

theorem foldl_or (f : Nat → Nat) (i : Nat) : ∀ (es : List Nat) (m : Nat), (es.foldl (fun m e => m ||| f e) m).testBit i = true → m.testBit i = true ∨ ∃ e ∈ es, (f e).testBit i = true
  | [], m, h => .inl h
  | e :: es, m, h => by
    rcases foldl_or f i es _ h with h | ⟨e', he, h⟩
    · rw [Nat.testBit_or, Bool.or_eq_true] at h
      rcases h with h | h
      · exact .inl h
      · exact .inr ⟨e, by simp, h⟩
    · exact .inr ⟨e', by simp [he], h⟩

theorem mask_spec {acc : List Nat} {j : Nat} {o : Oper} (ho : ops[j]? = some o) (hacc : ∀ k i, (acc.getD k 0).testBit i = true → Reach ops k i) {i : Nat} (h : (maskOf acc (edgesOf o)).testBit i = true) : Reach ops j i := by
  rcases foldl_or _ i _ _ h with h | ⟨e, he, h⟩
  · simp at h
  · obtain ⟨ed, hed, rfl⟩ := List.mem_map.1 he
    obtain ⟨h1, h2⟩ := List.mem_filter.1 hed
    have h1' : ed ∈ o.after := by simpa using h1
    rw [Nat.testBit_or, Bool.or_eq_true] at h
    rcases h with h | h
    · rw [Nat.testBit_two_pow] at h
      exact .one j i o ho ed h1' h2 (by simpa using h)
    · exact .step j ed.on i o ho ed h1' h2 rfl (hacc _ _ h)

theorem masks_spec : ∀ (l : List Oper) (acc : List Nat), (∀ j, l[j]? = ops[acc.length + j]?) → (∀ k i, (acc.getD k 0).testBit i = true → Reach ops k i) → ∀ k i, ((masks l acc).getD k 0).testBit i = true → Reach ops k i
  | [], acc, _, h, k, i, hk => h k i hk
  | o :: l, acc, hl, h, k, i, hk => by
    refine masks_spec l (acc ++ [maskOf acc (edgesOf o)]) (fun j => ?_) (fun k' i' hk' => ?_) k i hk
    · have := hl (j + 1)
      simpa [Nat.add_assoc, Nat.add_comm 1 j] using this
    · have h0 : ops[acc.length]? = some o := by simpa using (hl 0).symm
      rw [List.getD_eq_getElem?_getD] at hk'
      rcases Nat.lt_trichotomy k' acc.length with hlt | heq | hgt
      · rw [List.getElem?_append_left hlt] at hk'
        exact h k' i' (by rw [List.getD_eq_getElem?_getD]; exact hk')
      · subst heq
        rw [List.getElem?_append_right (Nat.le_refl _)] at hk'
        simp only [Nat.sub_self, List.getElem?_cons_zero, Option.getD_some] at hk'
        exact mask_spec h0 h hk'
      · rw [List.getElem?_eq_none (by simp; omega)] at hk'
        simp at hk'

def pairOk (b : Bool) (m : List (Nat × Nat)) (ops : Array Oper) (ms : List Nat) (i : Nat) (oi : Oper) (j : Nat) (oj : Oper) : Bool :=
  (ms.getD j 0).testBit i || (quietOp oi && quietOp oj && oi.apart ops oj) || (pureOp oi && storeOp oj && oi.apart ops oj) || (sepOp m oi oj && storeOp oj && oi.apart ops oj) || (b && calmOp oi && allocOp oj && oi.apart ops oj) || (storeOp oi && pureOp oj && oj.apart ops oi)

def rowOk (b : Bool) (m : List (Nat × Nat)) (ops : Array Oper) (ms : List Nat) (i : Nat) (oi : Oper) : Nat → List Oper → Bool
  | _, [] => true
  | j, oj :: r => pairOk b m ops ms i oi j oj && rowOk b m ops ms i oi (j + 1) r

def allOk (b : Bool) (m : List (Nat × Nat)) (ops : Array Oper) (ms : List Nat) : Nat → List Oper → Bool
  | _, [] => true
  | i, o :: r => (edgesOf o).all (fun e => decide (e < i)) && rowOk b m ops ms i o (i + 1) r && allOk b m ops ms (i + 1) r

def lexOkM (b : Bool) (m : List (Nat × Nat)) (ops : Array Oper) : Bool := (m.isEmpty || ops.toList.all (stepOk m)) && (!b || ops.toList.all stepC) && allOk b m ops (masks ops.toList []) 0 ops.toList
def lexOk (ops : Array Oper) : Bool := lexOkM false [] ops

theorem rowOk_spec {b : Bool} {m : List (Nat × Nat)} {ms : List Nat} {i : Nat} {oi : Oper} : ∀ (r : List Oper) (j : Nat), rowOk b m ops ms i oi j r = true → ∀ k o, r[k]? = some o → pairOk b m ops ms i oi (j + k) o = true
  | [], _, _, k, o, h => by simp at h
  | o' :: r, j, h, k, o, hk => by
    simp only [rowOk, Bool.and_eq_true] at h
    cases k with
    | zero => simp at hk; subst hk; exact h.1
    | succ k =>
      have := rowOk_spec r (j + 1) h.2 k o (by simpa using hk)
      rwa [show j + 1 + k = j + (k + 1) by omega] at this

def RVd (P : Program) (gl : Gl) (ops : Array Oper) : List Oper → AS → (AS → Prop) → Prop
  | [], σ, K => K σ
  | o :: rest, σ, K => nextVd P gl ops o σ fun σ' => RVd P gl ops rest σ' K

theorem eff_hint {o : Oper} {σ : AS} {K : AS → Prop} (hh : σ.hint = []) (h : nextVd P gl ops o σ K) : nextVd P gl ops o σ fun s => s.hint = [] ∧ K s := by
  have e : Eqv σ σ := ⟨⟨rfl, rfl, rfl⟩, rfl, fun _ => rfl, rfl, rfl, rfl, hh, hh⟩
  exact nextVd_eqv' e h
where
  nextVd_eqv' {o : Oper} {σ : AS} {K : AS → Prop} (e : Eqv σ σ) (hn : nextVd P gl ops o σ K) : nextVd P gl ops o σ fun s => s.hint = [] ∧ K s := by
    refine ⟨hn.1, ?_⟩
    have hn := hn.2
    cases hg : guardB ops o σ with
    | none => rw [hg] at hn; exact hn
    | some b =>
      rw [hg] at hn
      cases b with
      | false => exact ⟨put_hint e.hint.1 _ _, hn⟩
      | true =>
        simp only [] at hn ⊢
        cases hr : opR P gl σ o with
        | stuck => rw [hr] at hn; exact hn
        | val c x => rw [hr] at hn; exact ⟨hn.1, put_hint e.hint.1 _ _, hn.2⟩
        | call f args => rw [hr] at hn; obtain ⟨r, h1, h2⟩ := hn; exact ⟨r, h1, put_hint e.hint.1 _ _, h2⟩
        | callB f args ks => rw [hr] at hn; exact hn.elim
        | yld l x => rw [hr] at hn; exact hn.elim
        | eff c s =>
          rw [hr] at hn
          refine ⟨hn.1, hn.2.1, ?_, hn.2.2⟩
          rcases opR_eqv (P := P) (gl := gl) e hn.1 with ⟨c', s1, s2, h1, h2, h3⟩ | h1
          · rw [hr] at h1; injection h1 with _ h1; subst h1; exact h3.hint.1
          · rw [hr] at h1; cases h1

theorem anyA_lex {b : Bool} {m : List (Nat × Nat)} (hom : OkM b m ops) (hK : ∀ s s', Eqv s s' → K s → K s') : ∀ (l : List Oper) (k : Nat) (listed : Array Bool) (σ : AS), (∀ j, l[j]? = ops[k + j]?) → allOk b m ops (masks ops.toList []) k l = true → listed.size = ops.size → k + l.length = ops.size →
    (∀ j, j < ops.size → listed.getD j true = decide (j < k)) → DC ops listed → σ.hint = [] → Iv b m σ → RVd P gl ops l σ K → anyA P gl ops K l.length listed σ
  | [], k, listed, σ, _, _, hsz, hlen, hlist, _, _, _, h => by
    refine ⟨?_, h⟩
    cases hr : Region.ready .any ops listed with
    | nil => rfl
    | cons i r =>
      have hi : i ∈ Region.ready .any ops listed := by rw [hr]; simp
      obtain ⟨h1, o, ho, _⟩ := mem_ready.1 hi
      have hlt := (Array.getElem?_eq_some_iff.1 ho).1
      rw [hlist i hlt] at h1
      simp at hlen h1
      omega
  | o :: l, k, listed, σ, hl, hB, hsz, hlen, hlist, hdc, hh, him, h => by
    have h0 : ops[k]? = some o := by simpa using (hl 0).symm
    have hlt := (Array.getElem?_eq_some_iff.1 h0).1
    simp only [allOk, Bool.and_eq_true] at hB
    obtain ⟨⟨hedge, hrow⟩, hB'⟩ := hB
    have hgetf : ∀ j, j < ops.size → listed.getD j false = decide (j < k) := fun j hj => by
      rw [← hlist j hj]
      have : j < listed.size := by omega
      simp [this]
    have hready : k ∈ Region.ready .any ops listed := by
      refine mem_ready.2 ⟨by rw [hlist k hlt]; simp, o, h0, fun e he hb => ?_⟩
      have : e.on < k := by
        have := List.all_eq_true.1 hedge e.on (List.mem_map.2 ⟨e, List.mem_filter.2 ⟨by simpa using he, hb⟩, rfl⟩)
        simpa using this
      rw [hgetf e.on (by omega)]
      simpa using this
    have hpair : ∀ j oj, ops[j]? = some oj → j ≠ k → listed.getD j true = false → ((Reach ops j k ∨ (quietOp o = true ∧ quietOp oj = true ∧ o.apart ops oj = true)) ∨ (pureOp o = true ∧ storeOp oj = true ∧ o.apart ops oj = true) ∨ ((sepOp m o oj = true ∧ storeOp oj = true) ∧ o.apart ops oj = true) ∨ ((b = true ∧ calmOp o = true ∧ allocOp oj = true) ∧ o.apart ops oj = true)) ∨ (storeOp o = true ∧ pureOp oj = true ∧ oj.apart ops o = true) := by
      intro j oj hj hne hun
      have hjlt := (Array.getElem?_eq_some_iff.1 hj).1
      rw [hlist j hjlt] at hun
      simp only [decide_eq_false_iff_not] at hun
      obtain ⟨d, rfl⟩ : ∃ d, j = k + 1 + d := ⟨j - (k + 1), by omega⟩
      have hd : l[d]? = some oj := by
        have := hl (d + 1)
        rw [show k + (d + 1) = k + 1 + d by omega, hj] at this
        simpa using this
      have := rowOk_spec l (k + 1) hrow d oj hd
      simp only [pairOk, Bool.or_eq_true, Bool.and_eq_true] at this
      rcases this with ((((h | h) | h) | h) | h) | h
      · exact .inl (.inl (.inl (masks_spec ops.toList [] (by simp) (by simp) _ _ h)))
      · exact .inl (.inl (.inr ⟨h.1.1, h.1.2, h.2⟩))
      · exact .inl (.inr (.inl ⟨h.1.1, h.1.2, h.2⟩))
      · exact .inl (.inr (.inr (.inl ⟨h.1, h.2⟩)))
      · exact .inl (.inr (.inr (.inr ⟨⟨h.1.1.1, h.1.1.2, h.1.2⟩, h.2⟩)))
      · exact .inr ⟨h.1.1, h.1.2, h.2⟩
    have hlist' : ∀ j, j < ops.size → (listed.setIfInBounds k true).getD j true = decide (j < k + 1) := by
      intro j hj
      by_cases hjk : k = j
      · subst hjk
        have : k < listed.size := by omega
        simp [this]
      · rw [getD_set_ne true hjk, hlist j hj]
        congr 1
        apply propext
        omega
    have hl' : ∀ j, l[j]? = ops[k + 1 + j]? := fun j => by
      have := hl (j + 1)
      simpa [Nat.add_assoc, Nat.add_comm 1 j] using this
    have hsz' : (listed.setIfInBounds k true).size = ops.size := by simpa using hsz
    have hlen' : k + 1 + l.length = ops.size := by simp at hlen; omega
    by_cases hq : quietOp o = true
    · obtain ⟨x, hy, hk⟩ := YA_of_next hq h
      have := anyA_lex hom hK l (k + 1) (listed.setIfInBounds k true) (σ.put o.dst x) hl' hB' hsz' hlen' hlist' (hdc.set hready) (put_hint hh _ _) (Iv.putM hom h0 him hq hy) hk
      exact anyA_first hom h0 hq hK l.length listed σ him hh hdc (fun j oj hj hne hun => by
        rcases hpair j oj hj hne hun with ((h | h) | h | h | h) | h
        · exact .inl h
        · exact .inr ⟨.inl h.2.1, h.2.2⟩
        · exact .inr ⟨.inr (.inl ⟨h.1, h.2.1⟩), h.2.2⟩
        · exact .inr ⟨.inr (.inr (.inl h.1)), h.2⟩
        · exact .inr ⟨.inr (.inr (.inr h.1)), h.2⟩
        · exfalso; have := store_loud h.1; rw [hq] at this; cases this) hready hy this
    · refine anyA_delay h0 hK l.length listed σ hh hdc (fun j oj hj hne hun => ?_) hready ?_
      · rcases hpair j oj hj hne hun with ((h | h) | h | h | h) | h
        · exact .inl h
        · exact absurd h.1 hq
        · exact absurd (pure_quiet h.1) hq
        · exact absurd (sep_quiet h.1.1) hq
        · exact absurd (calm_quiet h.1.2.1) hq
        · exact .inr h
      · have h2 := Iv.next hom h0 hh him (eff_hint hh h)
        refine nextVd_eqv ⟨⟨rfl, rfl, rfl⟩, rfl, fun _ => rfl, rfl, rfl, rfl, hh, hh⟩ (fun s s' hs hk => ?_) h2
        refine anyA_eqv hK _ _ _ _ hs ?_
        exact anyA_lex hom hK l (k + 1) (listed.setIfInBounds k true) s hl' hB' hsz' hlen' hlist' (hdc.set hready) hk.2.1 hk.1 hk.2.2

end

theorem R.eqv {cx : Cx} {σ σ' : AS} {a : Act} {w : World} (h : R cx σ a w) (e : Eqv σ σ') : R cx σ' a w := by
  obtain ⟨gh, r⟩ := h
  refine ⟨gh, r.weak ⟨e.n, fun t x hx => ?_, fun k c hk => by rw [← e.bx]; exact hk, fun q hq => ?_, fun b c hb => by rw [← e.sh]; exact hb, e.ex.1, e.ex.2.1, e.ex.2.2⟩⟩
  · rw [e.tm t] at hx
    refine ⟨hx, fun k o hx' => ?_⟩
    rw [e.bx]
    exact (r.tmps t x hx).2 k o hx'
  · rw [e.tb] at hq
    refine ⟨hq, ?_⟩
    rw [e.bx]
    exact (r.tbs q.1 q.2.1 q.2.2.1 q.2.2.2 hq).1

theorem R.setHint {cx : Cx} {σ : AS} {a : Act} {w : World} (h : R cx σ a w) (hint : List (Nat × Nat)) : R cx { σ with hint := hint } a w := by
  obtain ⟨gh, r⟩ := h
  exact ⟨gh, ⟨r.frm, r.base, r.limB, r.size, r.ex.sub (fun _ _ h => h) rfl rfl, r.gl, r.tmps, r.boxes, r.inj, r.shs, r.apart, r.tbs, r.own, r.alone⟩⟩

theorem R.drew {cx : Cx} {σ : AS} {a : Act} {w : World} (h : R cx σ a w) (n : Nat) : R cx σ a { w with drawn := n } := by
  obtain ⟨gh, r⟩ := h
  exact ⟨_, r.drew n⟩

theorem anyA_sound {cx : Cx} {ro : Option Nat} {n : Nat} {ops : Array Oper} {Q : Exit → Act → World → Prop} {K : AS → Prop} (hQ : ∀ σ a w, K σ → R cx σ a w → Q .normal a w) :
    ∀ (fuel : Nat) (listed : Array Bool) (σ : AS) (a : Act) (w : World), R cx σ a w → anyA cx.P cx.gl ops K fuel listed σ → wpAnyIn (Fw ro) n cx.P .any ops Q fuel listed a w
  | 0, listed, σ, a, w, r, h => ⟨h.1, hQ σ a w h.2 r⟩
  | fuel + 1, listed, σ, a, w, r, h => ⟨fun h0 => hQ σ a w (h.1 h0) r, fun i hi => by
      obtain ⟨o, ho, hn⟩ := h.2 i hi
      refine wpOpIn_mono (fun a' w' hh => ?_) (opIn_sound (ro := ro) (n := n) (Q := Q) ho r (nextV_of hn))
      obtain ⟨σ', hk, r'⟩ := hh
      exact anyA_sound hQ fuel _ σ' a' w' r' hk⟩

theorem region_draw_sound {cx : Cx} {ro : Option Nat} {n : Nat} {id : Nat} {ops : Array Oper} {Q : Exit → Act → World → Prop} {K : AS → Prop} {σ : AS} {a : Act} {w : World} (b : Bool) (m : List (Nat × Nat)) (hm : cx.P.follows .mixedOrders = true) (hok : lexOkM b m ops = true) (him : Iv b m σ)
    (hQ : ∀ s a w, K s → R cx s a w → Q .normal a w) (r : R cx σ a w) (h : RVd cx.P cx.gl ops ops.toList { σ with hint := [] } fun s => K { s with hint := σ.hint }) : (Code.region id ops true).wpIn (Fw ro) n cx.P Q a w := by
  refine wpIn_region_any hm ?_
  let K' : AS → Prop := fun s => ∃ s0, Eqv s0 s ∧ K { s0 with hint := σ.hint }
  have hK' : ∀ s s', Eqv s s' → K' s → K' s' := fun s s' e ⟨s0, e0, hk⟩ =>
    ⟨s0, ⟨⟨e.ex.1.trans e0.ex.1, e.ex.2.1.trans e0.ex.2.1, e.ex.2.2.trans e0.ex.2.2⟩, e.n.trans e0.n, fun t => (e.tm t).trans (e0.tm t), e.bx.trans e0.bx, e.tb.trans e0.tb, e.sh.trans e0.sh, e0.hint.1, e.hint.2⟩, hk⟩
  have hmono : ∀ (l : List Oper) (s : AS), s.hint = [] → RVd cx.P cx.gl ops l s (fun s => K { s with hint := σ.hint }) → RVd cx.P cx.gl ops l s K' := by
    intro l
    induction l with
    | nil => intro s hs h; exact ⟨s, ⟨⟨rfl, rfl, rfl⟩, rfl, fun _ => rfl, rfl, rfl, rfl, hs, hs⟩, h⟩
    | cons o l ih =>
      intro s hs h
      have h2 := eff_hint hs h
      exact nextVd_eqv ⟨⟨rfl, rfl, rfl⟩, rfl, fun _ => rfl, rfl, rfl, rfl, hs, hs⟩ (fun s1 s2 e hk => by
        have h3 := ih s1 hk.1 hk.2
        exact RVd_eqv hK' l s1 s2 e h3) h2
  have h' := hmono ops.toList _ rfl h
  have hok2 := hok
  simp only [lexOkM, Bool.and_eq_true, Bool.or_eq_true, Bool.not_eq_true'] at hok2
  have hom : OkM b m ops := ⟨hok2.1.1.elim (fun h => .inl (List.isEmpty_iff.1 h)) fun h => .inr fun j o ho => List.all_eq_true.1 h o (List.mem_of_getElem? (by simpa using ho)), hok2.1.2.elim .inl fun h => .inr fun j o ho => List.all_eq_true.1 h o (List.mem_of_getElem? (by simpa using ho))⟩
  have ha := anyA_lex hom hK' ops.toList 0 (Array.replicate ops.size false) { σ with hint := [] } (by simp) hok2.2 (by simp) (by simp) (fun j hj => by simp [hj]) (fun j o _ hj => by rw [Array.getD_eq_getD_getElem?, Array.getElem?_replicate] at hj; split at hj <;> simp at hj) rfl him h'
  have hs := anyA_sound (ro := ro) (n := n) (Q := Q) (fun s a w ⟨s0, e0, hk⟩ r => hQ _ a w hk ((r.eqv e0.symm).setHint σ.hint)) _ _ _ a _ ((r.setHint []).drew (w.drawn + 1)) ha
  simpa using hs
where
  RVd_eqv {cx : Cx} {ops : Array Oper} {K : AS → Prop} (hK : ∀ s s', Eqv s s' → K s → K s') : ∀ (l : List Oper) (s s' : AS), Eqv s s' → RVd cx.P cx.gl ops l s K → RVd cx.P cx.gl ops l s' K
    | [], s, s', e, h => hK s s' e h
    | o :: l, s, s', e, h => nextVd_eqv e (fun s1 s2 e1 hk => RVd_eqv hK l s1 s2 e1 hk) h

end Go.Pv
end

section
/- Code over the abstract state: statements, loops, functions. -/
namespace Go.Pv
open Go

def G0 (g : Nat → Option (List AV)) (rnd : Bool) : Gl := ⟨g, none, rnd, false⟩
@[simp] theorem Gz_g (g : Nat → Option (List AV)) (rnd : Bool) : (G0 g rnd).g = g := rfl
@[simp] theorem Gz_y (g : Nat → Option (List AV)) (rnd : Bool) : (G0 g rnd).y = none := rfl
def G1 (g : Nat → Option (List AV)) (Y : Ys) : Gl := ⟨g, some Y, false, false⟩
@[simp] theorem Gw_g (g : Nat → Option (List AV)) (Y : Ys) : (G1 g Y).g = g := rfl
@[simp] theorem Gw_y (g : Nat → Option (List AV)) (Y : Ys) : (G1 g Y).y = some Y := rfl

def AT (P : Program) (gl : Gl) (c : Code) (σ : AS) (Q : Exit → AS → Prop) : Prop :=
  ∀ (cx : Cx) (ro : Option Nat) (n : Nat) (a : Act) (w : World), cx.P = P → cx.gl = gl → (gl.rnd = false → ro = none) → R cx σ a w → c.wpIn (Fw ro) n P (fun e a' w' => ∃ σ', Q e σ' ∧ R cx σ' a' w') a w

section
variable {P : Program} {gl : Gl} {σ : AS} {Q : Exit → AS → Prop}

def thenA (next : AS → Prop) (Q : Exit → AS → Prop) : Exit → AS → Prop
  | .normal, σ => next σ
  | e, σ => Q e σ

theorem AT_mono {c : Code} {Q' : Exit → AS → Prop} (h : AT P gl c σ Q) (hq : ∀ e s, Q e s → Q' e s) : AT P gl c σ Q' :=
  fun cx ro n a w hP hg hro r => wpIn_mono (h cx ro n a w hP hg hro r) fun _ _ _ ⟨s, hs, r'⟩ => ⟨s, hq _ _ hs, r'⟩

theorem AT_weak {c : Code} {σ' : AS} (hle : σ'.le σ) (h : AT P gl c σ' Q) : AT P gl c σ Q :=
  fun cx ro n a w hP hg hro r => h cx ro n a w hP hg hro (let ⟨gh, rr⟩ := r; ⟨gh, rr.weak hle⟩)

theorem AT_keep {c : Code} (ts bs : List Nat) (hok : lpOk (pick bs σ.bx) (pick ts σ.tm) = true) (h : AT P gl c (σ.keep ts bs) Q) : AT P gl c σ Q := AT_weak (AS.keep_le hok) h

theorem AT_skip (h : Q .normal σ) : AT P gl .skip σ Q := fun _ _ _ _ _ _ _ _ r => wpIn_skip ⟨σ, h, r⟩
theorem AT_ret (h : Q .ret σ) : AT P gl .ret σ Q := fun _ _ _ _ _ _ _ _ r => wpIn_ret ⟨σ, h, r⟩
theorem AT_exit {id : Nat} (h : Q (.exit id) σ) : AT P gl (.exit id) σ Q := fun _ _ _ _ _ _ _ _ r => wpIn_exit ⟨σ, h, r⟩

theorem AT_seq {x y : Code} (h : AT P gl x σ (thenA (fun s => AT P gl y s Q) Q)) : AT P gl (.seq x y) σ Q := by
  intro cx ro n a w hP hg hro r
  refine wpIn_seq (wpIn_mono (h cx ro n a w hP hg hro r) fun e a' w' ⟨s, hs, r'⟩ => ?_)
  cases e with
  | normal => exact hs cx ro n a' w' hP hg hro r'
  | exit id => exact ⟨s, hs, r'⟩
  | goto l => exact ⟨s, hs, r'⟩
  | ret => exact ⟨s, hs, r'⟩
  | panic ch => exact ⟨s, hs, r'⟩
  | outgrown => exact ⟨s, hs, r'⟩

theorem AT_seq_k {x y : Code} (h : ∀ K : AS → Prop, (∀ s, AT P gl y s Q → K s) → AT P gl x σ (thenA K Q)) : AT P gl (.seq x y) σ Q := AT_seq (h _ fun _ h => h)

theorem AT_cond {c : Operand} {x y : Code} {b : Bool} {g : Option (Nat × Nat)} (hc : ev gl σ c = .v (.bool b) g) (ht : b = true → AT P gl x σ Q) (hf : b = false → AT P gl y σ Q) : AT P gl (.cond c x y) σ Q := by
  intro cx ro n a w hP hg hro r
  obtain ⟨gh, rr⟩ := r
  have h1 := rr.ev c
  rw [hg, hc] at h1
  have hb := rep_bool h1.1
  refine wpIn_cond hb ?_
  cases b with
  | true => exact ht rfl cx ro n a w hP hg hro ⟨gh, rr⟩
  | false => exact hf rfl cx ro n a w hP hg hro ⟨gh, rr⟩

def inBlockA (id : Nat) (Q : Exit → AS → Prop) : Exit → AS → Prop
  | .exit id', s => if id' = id then Q .normal s else Q (.exit id') s
  | e, s => Q e s

theorem AT_block {id : Nat} {c : Code} (h : AT P gl c σ (inBlockA id Q)) : AT P gl (.block id c) σ Q := by
  intro cx ro n a w hP hg hro r
  refine wpIn_block (wpIn_mono (h cx ro n a w hP hg hro r) fun e a' w' ⟨s, hs, r'⟩ => ?_)
  cases e with
  | exit id' =>
    simp only [inBlockA] at hs
    simp only [Exit.inBlock]
    split at hs
    · rename_i he; rw [if_pos he]; exact ⟨s, hs, r'⟩
    · rename_i he; rw [if_neg he]; exact ⟨s, hs, r'⟩
  | normal => exact ⟨s, hs, r'⟩
  | goto l => exact ⟨s, hs, r'⟩
  | ret => exact ⟨s, hs, r'⟩
  | panic ch => exact ⟨s, hs, r'⟩
  | outgrown => exact ⟨s, hs, r'⟩

def noGotoA (Q : Exit → AS → Prop) : Exit → AS → Prop
  | .goto _, _ => False
  | e, s => Q e s

theorem wpIn_loopG {F : Fence} {n : Nat} {c : Code} {Q : Exit → Act → World → Prop} (J : Nat → Act → World → Prop) (j0 : Nat) {a : Act} {w : World} (h₀ : J j0 a w)
    (round : ∀ j a w, J j a w → c.wpIn F n P (Exit.then (fun a' w' => ∃ m, m < j ∧ J m a' w') Q) a w) : (Code.loop c).wpIn F n P Q a w := by
  intro b k cs hro hb hr
  have key : ∀ j a w, J j a w →
      ∃ e a' w', Q e a' w' ∧ ArrivesIn (Machine.fenced P F) P (lone (b.atR a (.code c :: .inLoop c :: k)) cs w) b k cs e a' w' := by
    intro j
    induction j using Nat.strongRecOn with
    | _ j ih =>
      intro a w hI
      obtain ⟨e, a₁, w₁, hq, harr⟩ := round j a w hI b (.inLoop c :: k) cs hro hb hr
      cases e with
      | normal =>
        obtain ⟨m, hlt, hI₁⟩ := hq
        obtain ⟨e₂, a₂, w₂, hq₂, harr₂⟩ := ih m hlt a₁ w₁ hI₁
        exact ⟨e₂, a₂, w₂, hq₂, .of_steps (StepsIn.trans harr (.one (fenced_calm hb hr rfl) stepR_inLoop)) harr₂⟩
      | exit id => exact ⟨_, a₁, w₁, hq, .pass (x := .inLoop c) rfl (fun _ _ => .inl (by simp)) harr⟩
      | goto l => exact ⟨_, a₁, w₁, hq, .pass (x := .inLoop c) rfl (fun _ _ => .inl (by simp)) harr⟩
      | ret => exact ⟨_, a₁, w₁, hq, .pass (x := .inLoop c) rfl (fun _ _ => .inl (by simp)) harr⟩
      | panic ch => exact ⟨_, a₁, w₁, hq, .pass (x := .inLoop c) rfl (fun _ _ => .inl (by simp)) harr⟩
      | outgrown => exact ⟨_, a₁, w₁, hq, .pass (x := .inLoop c) rfl (fun _ _ => .inl (by simp)) harr⟩
  obtain ⟨e, a', w', hq, harr⟩ := key j0 a w h₀
  exact ⟨e, a', w', hq, .of_steps (.one (fenced_calm hb hr rfl) stepR_loop) harr⟩

theorem AT_loop {c : Code} (I : Nat → AS → Prop) (j0 : Nat) (h0 : I j0 σ) (round : ∀ j s, I j s → AT P gl c s (thenA (fun s' => ∃ m, m < j ∧ I m s') Q)) : AT P gl (.loop c) σ Q := by
  intro cx ro n a w hP hg hro r
  refine wpIn_loopG (fun j a w => ∃ s, I j s ∧ R cx s a w) j0 ⟨σ, h0, r⟩ fun j a w ⟨s, hI, r⟩ => ?_
  refine wpIn_mono (round j s hI cx ro n a w hP hg hro r) fun e a' w' ⟨s', hs, r'⟩ => ?_
  cases e with
  | normal => obtain ⟨m, hm, hI'⟩ := hs; exact ⟨m, hm, s', hI', r'⟩
  | exit id => exact ⟨s', hs, r'⟩
  | goto l => exact ⟨s', hs, r'⟩
  | ret => exact ⟨s', hs, r'⟩
  | panic ch => exact ⟨s', hs, r'⟩
  | outgrown => exact ⟨s', hs, r'⟩

theorem AT_loopK {c : Code} (ts bs : List Nat) (I : Nat → AS → Prop) (j0 : Nat) (hok : lpOk (pick bs σ.bx) (pick ts σ.tm) = true) (h0 : I j0 (σ.keep ts bs))
    (round : ∀ j s, I j s → AT P gl c s (thenA (fun s' => lpOk (pick bs s'.bx) (pick ts s'.tm) = true ∧ ∃ m, m < j ∧ I m (s'.keep ts bs)) Q)) : AT P gl (.loop c) σ Q := by
  refine AT_keep ts bs hok (AT_loop (fun j s => I j s) j0 h0 fun j s hI => ?_)
  intro cx ro n a w hP hg hro r
  refine wpIn_mono (round j s hI cx ro n a w hP hg hro r) fun e a' w' ⟨s', hs, r'⟩ => ?_
  cases e with
  | normal =>
    obtain ⟨h1, m, hm, hI'⟩ := hs
    obtain ⟨gh, rr⟩ := r'
    exact ⟨s'.keep ts bs, ⟨m, hm, hI'⟩, gh, rr.weak (AS.keep_le h1)⟩
  | exit id => exact ⟨s', hs, r'⟩
  | goto l => exact ⟨s', hs, r'⟩
  | ret => exact ⟨s', hs, r'⟩
  | panic ch => exact ⟨s', hs, r'⟩
  | outgrown => exact ⟨s', hs, r'⟩

theorem AT_region {id : Nat} {l : List Oper} (h : RV P gl l.toArray l σ (Q .normal)) : AT P gl (.region id l.toArray false) σ Q := by
  intro cx ro n a w hP hg hro r
  subst hP; subst hg
  exact region_sound (K := Q .normal) (fun s a w hk r => ⟨s, hk, r⟩) r (by simpa using h)

theorem AT_draw_m {id : Nat} {l : List Oper} (b : Bool) (m : List (Nat × Nat)) (hm : P.follows .mixedOrders = true) (hok : lexOkM b m l.toArray = true) (him : Iv b m σ) (h : RVd P gl l.toArray l { σ with hint := [] } fun s => Q .normal { s with hint := σ.hint }) : AT P gl (.region id l.toArray true) σ Q := by
  intro cx ro n a w hP hg hro r
  subst hP; subst hg
  exact region_draw_sound (K := Q .normal) b m hm hok him (fun s a w hk r => ⟨s, hk, r⟩) r (by simpa using h)
theorem AT_draw {id : Nat} {l : List Oper} (hm : P.follows .mixedOrders = true) (hok : lexOk l.toArray = true) (h : RVd P gl l.toArray l { σ with hint := [] } fun s => Q .normal { s with hint := σ.hint }) : AT P gl (.region id l.toArray true) σ Q :=
  AT_draw_m false [] hm hok ⟨rfl, fun h => by cases h⟩ h

theorem AT_region_q {id : Nat} {l : List Oper} (h : ∀ K : AS → Prop, (∀ s, Q .normal s → K s) → RV P gl l.toArray l σ K) : AT P gl (.region id l.toArray false) σ Q := AT_region (h _ fun _ h => h)

theorem AT_seq_region {id : Nat} {l : List Oper} {y : Code} (h : ∀ K : AS → Prop, (∀ s, AT P gl y s Q → K s) → RV P gl l.toArray l σ K) : AT P gl (.seq (.region id l.toArray false) y) σ Q :=
  AT_seq (AT_region (h _ fun _ h => h))

theorem sr {id : Nat} {l : List Oper} {y : Code} (h : ∀ K : AS → Prop, (∀ s, AT P gl y s Q → K s) → RV P gl l.toArray l σ K) : AT P gl (.seq (.region id l.toArray false) y) σ Q := AT_seq_region h
theorem AT_draw_q {id : Nat} {l : List Oper} (hm : P.follows .mixedOrders = true) (hok : lexOk l.toArray = true) (h : ∀ K : AS → Prop, (∀ s, Q .normal { s with hint := σ.hint } → K s) → RVd P gl l.toArray l { σ with hint := [] } K) : AT P gl (.region id l.toArray true) σ Q :=
  AT_draw hm hok (h _ fun _ h => h)

theorem AT_seq_draw {id : Nat} {l : List Oper} {y : Code} (hm : P.follows .mixedOrders = true) (hok : lexOk l.toArray = true) (h : ∀ K : AS → Prop, (∀ s, AT P gl y { s with hint := σ.hint } Q → K s) → RVd P gl l.toArray l { σ with hint := [] } K) : AT P gl (.seq (.region id l.toArray true) y) σ Q :=
  AT_seq (AT_draw hm hok (h _ fun _ h => h))

theorem AT_loop_q {c : Code} (ts bs : List Nat) (I : Nat → AS → Prop) (j0 : Nat) (hok : lpOk (pick bs σ.bx) (pick ts σ.tm) = true) (h0 : I j0 (σ.keep ts bs))
    (round : ∀ j s, I j s → ∀ K : AS → Prop, (∀ s', lpOk (pick bs s'.bx) (pick ts s'.tm) = true → ∀ m, m < j → I m (s'.keep ts bs) → K s') → AT P gl c s (thenA K Q)) : AT P gl (.loop c) σ Q :=
  AT_loopK ts bs I j0 hok h0 fun j s hI => round j s hI _ fun _ h1 m hm h2 => ⟨h1, m, hm, h2⟩

def mkTm : Nat → List AV → List (Nat × TV)
  | _, [] => []
  | i, x :: r => (i, .v x none) :: mkTm (i + 1) r

def entry (fn : Func) (args : List AV) (sh : List (Nat × List AV)) (hint : List (Nat × Nat)) : AS :=
  { n := args.length + (fn.ntmps - args.length), tm := mkTm 0 args, bx := [], tb := [], sh := sh, hint := hint }

def resOne (P : Program) (σ : AS) : ResultVar → AV → Prop
  | .tmp t, x => (σ.get t).av = some x
  | .cell t ty, x => match loadOpR P σ ty (σ.get t) with
    | .val c y => c ∧ y.av = some x
    | _ => False

def resAll (P : Program) (σ : AS) : List ResultVar → List AV → Prop
  | [], [] => True
  | v :: r, x :: xs => resOne P σ v x ∧ resAll P σ r xs
  | _, _ => False

def resOk (P : Program) (fn : Func) (σ : AS) (r : AV) : Prop :=
  match fn.results.toList with
  | [v] => resOne P σ v r
  | vs => ∃ xs, r = .tup xs ∧ resAll P σ vs xs

def done (P : Program) (fn : Func) (post : AV → AS → Prop) : Exit → AS → Prop
  | .ret, σ | .normal, σ => ∃ r, resOk P fn σ r ∧ post r σ
  | _, _ => False

theorem look_mkTm : ∀ (args : List AV) (i t : Nat) (x : TV), look t (mkTm i args) = some x → ∃ j y, t = i + j ∧ args[j]? = some y ∧ x = .v y none
  | [], i, t, x, h => by cases h
  | y :: r, i, t, x, h => by
    simp only [mkTm, look] at h
    split at h
    · rename_i he
      injection h with h
      exact ⟨0, y, by omega, rfl, h.symm⟩
    · obtain ⟨j, z, h1, h2, h3⟩ := look_mkTm r (i + 1) t x h
      exact ⟨j + 1, z, by omega, by simpa using h2, h3⟩

def resSem (tmps : Array Value) : ResultVar → Sem Value
  | .tmp t => pure (tmps.getD t undef)
  | .cell ad t => do loadVar t (← asAddr (tmps.getD ad undef))

theorem results_eq (fn : Func) (tmps : Array Value) : results fn tmps = (do let vs ← fn.results.mapM (resSem tmps); pure (if h : vs.size = 1 then vs[0] else .tuple vs)) := by
  unfold results
  congr 2

theorem run_resOne {cx : Cx} {gh : Gh} {a : Act} {w : World} (r : RR cx gh σ a w) {v : ResultVar} {x : AV} (h : resOne cx.P σ v x) :
    ∃ u, (resSem a.tmps v).run cx.P w = .ok u w ∧ Rep gh.lim w.heap u x := by
  cases v with
  | tmp t => exact ⟨_, rfl, r.av (.tmp t) x h⟩
  | cell t ty =>
    simp only [resOne] at h
    split at h
    · rename_i c y hl
      obtain ⟨hc, hy⟩ := h
      have hok := ok_load (o := ⟨none, .load ty (.tmp t), 0, "", #[], none⟩) r rfl hl hc
      obtain ⟨u, w', gh', hrun, -, -, -⟩ := hok
      -- the same load, by asAddr
      have hev := r.ev (.tmp t)
      have hp : ∃ ad, a.eval (.tmp t) = .pointer (some ad) := by
        simp only [Pv.ev] at hev
        unfold loadOpR at hl
        split at hl
        · rename_i l g hk; rw [hk] at hev; obtain ⟨b, off, vs, hv, -, -⟩ := Rep.ro_iff.1 hev.1; exact ⟨_, hv⟩
        · rename_i k off hk; rw [hk] at hev; exact ⟨_, hev⟩
        · rename_i b off g hk; rw [hk] at hev; exact ⟨_, rep_gp hev.1⟩
        · cases hl
      obtain ⟨ad, had⟩ := hp
      have hyl := ok_load (o := ⟨none, .load ty (.tmp t), 0, "", #[], none⟩) r rfl hl hc
      have key : ∃ u, (loadVar ty ad).run cx.P w = .ok u w ∧ TRep gh w.heap u y := by
        have hx := r.ev (.tmp t)
        simp only [Pv.ev] at hx
        unfold loadOpR at hl
        split at hl
        · rename_i l g hk
          rw [hk] at hx
          obtain ⟨b, off, vs, hv, hrl, hcell⟩ := Rep.ro_iff.1 hx.1
          rw [had] at hv; injection hv with hv; injection hv with hv; subst hv
          exact loadR_sound b off vs hrl (fun j u hu => (hcell j u hu).2) hl hc
        · rename_i k off hk
          rw [hk] at hx
          have hv : a.eval (.tmp t) = .pointer (some ⟨gh.bl k, off, none⟩) := hx
          rw [had] at hv; injection hv with hv; injection hv with hv; subst hv
          split at hl
          · rename_i cells hcells
            obtain ⟨vs, hrl, hcell⟩ := r.cells_at hcells
            have hcell' : ∀ j u, (vs.drop off)[j]? = some u → cellAt w.heap (gh.bl k) (off + j) = some u := fun j u hu => by
              rw [List.getElem?_drop] at hu; exact hcell _ u hu
            split at hl
            · exact loadR_sound (gh.bl k) off (vs.drop off) (hrl.drop off) hcell' hl hc
            · unfold retag at hl
              split at hl
              · rename_i c' y' hl'
                simp only [OR.val.injEq] at hl
                obtain ⟨rfl, rfl⟩ := hl
                obtain ⟨u, h1, h2⟩ := loadR_sound (gh.bl k) off (vs.drop off) (hrl.drop off) hcell' hl' hc
                obtain ⟨v', w'', gh'', hrun2, -, ht, -, -⟩ := hyl
                refine ⟨u, h1, h2.1, fun p hp => ?_⟩
                cases htag : tagAt σ.tb k off with
                | none => rw [htag] at hp; cases hp
                | some q =>
                  rw [htag] at hp; injection hp with hp; subst hp
                  have htb := r.tbs k off q.1 q.2 (tagAt_mem htag)
                  have hcell0 : w.cell? ⟨gh.bl k, off, none⟩ = some (gh.gv q.1) := by rw [cell?_eq]; exact htb.2
                  have hagg : aggO cx.P ty = some false := by assumption
                  unfold loadVar at h1
                  simp [run_isAgg hagg, hcell0] at h1
                  exact h1.symm
              · rename_i hl'
                exact loadR_sound (gh.bl k) off (vs.drop off) (hrl.drop off) hcell' hl hc
            · cases hl
          · cases hl
        · rename_i b off g hk
          rw [hk] at hx
          have hv := rep_gp hx.1
          rw [had] at hv; injection hv with hv; injection hv with hv; subst hv
          split at hl
          · rename_i cells hcells
            obtain ⟨-, -, cs, e, hcs, hrep⟩ := r.shs b cells hcells
            refine loadR_sound b off (cs.toList.drop off) (hrep.drop off) (fun j u hu => ?_) hl hc
            rw [List.getElem?_drop] at hu
            unfold cellAt
            rw [hcs]
            simpa using hu
          · cases hl
        · cases hl
      obtain ⟨u, h1, h2⟩ := key
      refine ⟨u, ?_, av_rep h2 hy⟩
      have had' : a.tmps.getD t undef = .pointer (some ad) := had
      simp only [resSem, Sem.run_bind, had', asAddr, Sem.run_pure, Result.andThen_ok]
      exact h1
    · exact h.elim

theorem run_resAll {cx : Cx} {gh : Gh} {a : Act} {w : World} (r : RR cx gh σ a w) : ∀ (vs : List ResultVar) (xs : List AV), resAll cx.P σ vs xs →
    ∃ us : List Value, (vs.mapM (resSem a.tmps)).run cx.P w = .ok us w ∧ RepL gh.lim w.heap us xs
  | [], [], _ => ⟨[], by simp, RepL.nil _ _⟩
  | v :: vs, x :: xs, h => by
    obtain ⟨u, h1, h2⟩ := run_resOne r h.1
    obtain ⟨us, h3, h4⟩ := run_resAll r vs xs h.2
    refine ⟨u :: us, ?_, .cons h2 h4⟩
    rw [List.mapM_cons]
    simp only [Sem.run_bind, h1, Result.andThen_ok, h3, Sem.run_pure]
  | [], x :: xs, h => h.elim
  | v :: vs, [], h => h.elim

theorem run_results {cx : Cx} {gh : Gh} {a : Act} {w : World} (r : RR cx gh σ a w) {fn : Func} {x : AV} (h : resOk cx.P fn σ x) : ∃ u, (results fn a.tmps).run cx.P w = .ok u w ∧ Rep gh.lim w.heap u x := by
  have hm : ∀ (us : List Value), (fn.results.toList.mapM (resSem a.tmps)).run cx.P w = .ok us w →
      (results fn a.tmps).run cx.P w = .ok (if h : us.toArray.size = 1 then us.toArray[0] else .tuple us.toArray) w := by
    intro us hus
    rw [results_eq, ← Array.toArray_toList (xs := fn.results), List.mapM_toArray]
    simp only [Sem.run_bind, Sem.run_map, hus, Result.andThen_ok, Sem.run_pure]
  unfold resOk at h
  split at h
  · rename_i v hv
    obtain ⟨u, h1, h2⟩ := run_resOne r h
    refine ⟨u, ?_, h2⟩
    rw [hm [u] (by rw [hv, List.mapM_cons]; simp only [Sem.run_bind, h1, Result.andThen_ok, List.mapM_nil, Sem.run_pure])]
    rfl
  · rename_i vs hne
    obtain ⟨xs, rfl, hall⟩ := h
    obtain ⟨us, h1, h2⟩ := run_resAll r _ xs hall
    have hlen : us.length ≠ 1 := by
      intro h1'
      have : fn.results.toList.length = 1 := by
        have := resAll_len hall
        rw [this, ← h2.1, h1']
      obtain ⟨v, hv⟩ := List.length_eq_one_iff.1 this
      exact hne v hv
    refine ⟨.tuple us.toArray, ?_, Rep.tup_iff.2 ⟨us.toArray, rfl, by simpa using h2⟩⟩
    rw [hm us h1]
    simp [hlen]
where
  resAll_len {vs : List ResultVar} {xs : List AV} (h : resAll cx.P σ vs xs) : vs.length = xs.length := by
    induction vs generalizing xs with
    | nil => cases xs with
      | nil => rfl
      | cons => exact h.elim
    | cons v vs ih => cases xs with
      | nil => exact h.elim
      | cons x xs => simp [ih h.2]

theorem RR.take {cx : Cx} {gh : Gh} {a : Act} {w : World} (r : RR cx gh σ a w) (hy : cx.gl.y = none) (hBw : cx.B = cx.w0.heap.size) {k : Nat} (hk : σ.mks = k + 1) :
    ∃ D ds, a.defers = markOf D :: ds ∧ w.heap[D]? = some (.deferred (some [])) ∧ RR cx gh { σ with mks := k } { a with defers := ds } (w.putObj D (.deferred none)) := by
  obtain ⟨Ds, h1, h2, h3⟩ := r.ex.defers
  cases Ds with
  | nil => have := h2.1; rw [hk] at this; simp at this
  | cons D Ds =>
    obtain ⟨hB, hD⟩ := h3 D (by simp)
    have hlt := (Array.getElem?_eq_some_iff.1 hD).1
    have hother : ∀ {i : Nat}, i ≠ D → (w.putObj D (.deferred none)).heap[i]? = w.heap[i]? := fun hi => World.putObj_heap_other hi
    have hcells : ∀ {i : Nat} {cs : Array Value} {e : TypeId} {g : Nat × Nat}, w.heap[i]? = some (.cells cs e g) → (w.putObj D (.deferred none)).heap[i]? = w.heap[i]? := fun hi => hother (fun he => by rw [he, hD] at hi; cases hi)
    have hkeep : Keep gh.lim w.heap gh.lim (w.putObj D (.deferred none)).heap := Keep.of_cells (fun k cs e g hk => hcells hk) _
    have hfrm : Frm cx.B cx.S w (w.putObj D (.deferred none)) := ⟨rfl, rfl, rfl, by simp, fun i hi _ => hother (by omega)⟩
    refine ⟨D, Ds.map markOf ++ cx.df, by rw [h1]; rfl, hD, ?_⟩
    have hnd : D ∉ Ds ∧ Ds.Nodup := List.nodup_cons.1 h2.2
    refine { frm := r.frm.trans hfrm, base := by simpa using r.base, limB := r.limB, size := r.size, ex := ⟨r.ex.keep.trans hkeep, ?_, fun Y hY => ?_, ?_, r.ex.fx, fun hy i o hi hc hw => (hother (fun he => by have := (Array.getElem?_eq_some_iff.1 hi).1; omega)).trans (r.ex.oth hy i o hi hc hw), r.ex.top⟩, gl := fun g c h => (r.gl g c h).mono hkeep, tmps := fun t x h => ?_, boxes := ?_, inj := r.inj, shs := ?_, apart := r.apart, tbs := ?_, own := ?_, alone := r.alone }
    · refine ⟨Ds, rfl, ⟨?_, hnd.2⟩, fun E hE => ⟨(h3 E (by simp [hE])).1, (hother (fun he => hnd.1 (he ▸ hE))).trans (h3 E (by simp [hE])).2⟩⟩
      have := h2.1; rw [hk] at this; simpa using this
    · rw [hy] at hY; cases hY
    · refine ⟨fun t q ht => (r.ex.its.at_ t q ht).keep2 fun k o hk ho => (hother (fun he => by rw [he, hD] at hk; cases hk; cases ho)).trans hk, r.ex.its.inj⟩
    · have h' := r.tmps t x h
      refine ⟨?_, h'.2⟩
      cases x with
      | un => trivial
      | v y g => exact ⟨h'.1.1.mono hkeep, h'.1.2⟩
      | bld l ns => exact ⟨h'.1.1.mono hkeep, h'.1.2⟩
      | lp k off => exact h'.1
      | it k9 => trivial
      | cl f ks => exact h'.1
    · intro k cells h
      obtain ⟨q1, q2, cs, e, q3, q4⟩ := r.boxes k cells h
      exact ⟨q1, q2, cs, e, (hcells q3).trans q3, q4.mono hkeep⟩
    · intro b cells h
      obtain ⟨q1, q2, cs, e, q3, q4⟩ := r.shs b cells h
      exact ⟨q1, q2, cs, e, (hcells q3).trans q3, q4.mono hkeep⟩
    · intro k j g e h
      obtain ⟨q1, q2⟩ := r.tbs k j g e h
      refine ⟨q1, ?_⟩
      unfold cellAt at q2 ⊢
      rw [hother (fun he => by rw [he, hD] at q2; cases q2)]; exact q2
    · intro g e h
      obtain ⟨⟨m, xs, q1, q2⟩, q3⟩ := r.own g e h
      refine ⟨⟨m, xs, ⟨q1.1, ?_⟩, q2⟩, q3⟩
      rcases q1.2 with hn | ⟨g', cap, cur, hv, hbg, hg', rest⟩
      · exact .inl hn
      · exact .inr ⟨g', cap, cur, hv, hbg, (hcells hg').trans hg', rest⟩

theorem leaves_marks {cx : Cx} {gh : Gh} {fn : Func} {Rq : Ending → World → Prop} {n : Nat} {tmps : Array Value} (hdf : cx.df = []) : ∀ (k : Nat) (σ : AS) (a : Act) (w : World), ((cx.gl.y = none ∧ cx.B = cx.w0.heap.size) ∨ σ.mks = 0) → RR cx gh σ a w → σ.mks = k → a.tmps = tmps →
    (∀ (a' : Act) (w' : World), RR cx gh { σ with mks := 0 } a' w' → a'.tmps = tmps → ∃ v, (results fn tmps).run cx.P w' = .ok v w' ∧ Rq (.returned v) w') → LeavesInM (Fw none) n cx.P fn tmps Rq a.defers .returning w
  | 0, σ, a, w, _, r, hk, ht, h => by
    obtain ⟨Ds, h1, h2, -⟩ := r.ex.defers
    have : Ds = [] := List.eq_nil_of_length_eq_zero (by rw [h2.1]; exact hk)
    subst this
    rw [hdf] at h1
    rw [h1]
    have he : σ = { σ with mks := 0 } := by rw [← hk]
    exact h a w (by rw [← he]; exact r) ht
  | k + 1, σ, a, w, hy, r, hk, ht, h => by
    have hy' := hy.resolve_right (by omega)
    obtain ⟨D, ds, h1, h2, r'⟩ := r.take hy'.1 hy'.2 hk
    rw [h1]
    exact ⟨by simp, .inl ⟨D, _, rfl, run_takeDeferred h2, leaves_marks hdf k _ _ _ (.inl hy') r' rfl ht (fun a' w' r'' ht' => h a' w' r'' ht')⟩⟩

theorem resOk_mks {fn : Func} {r : AV} {k : Nat} (h : resOk P fn σ r) : resOk P fn { σ with mks := k } r := by
  have hone : ∀ v x, resOne P σ v x → resOne P { σ with mks := k } v x := fun v x h => by cases v <;> exact h
  have hall : ∀ vs xs, resAll P σ vs xs → resAll P { σ with mks := k } vs xs := by
    intro vs
    induction vs with
    | nil => intro xs h; cases xs <;> exact h
    | cons v vs ih => intro xs h; cases xs with
      | nil => exact h
      | cons x xs => exact ⟨hone v x h.1, ih xs h.2⟩
  unfold resOk at h ⊢
  revert h
  generalize fn.results.toList = l
  intro h
  cases l with
  | nil => obtain ⟨xs, h1, h2⟩ := h; exact ⟨xs, h1, hall _ _ h2⟩
  | cons v t =>
    cases t with
    | nil => exact hone _ _ h
    | cons u t => obtain ⟨xs, h1, h2⟩ := h; exact ⟨xs, h1, hall _ _ h2⟩

theorem entry_rr {cx : Cx} {fn : Func} {args : List AV} {sh : List (Nat × List AV)} {hint : List (Nat × Nat)} {ys : List AV × Bool} {cargs : List Value} (hB : cx.B ≤ cx.w0.heap.size) (htop : cx.gl.top = true → cx.w0.heap.size ≤ cx.B ∧ ∀ b r, cx.lim b = .reg r → r = 0) (hdf : cx.df = []) (hgl : GlOk cx.gl cx.lim cx.w0.heap) (hargs : RepL cx.lim cx.w0.heap cargs args)
    (hsh : ∀ b cl, look b sh = some cl → (cx.S b ∨ cx.B ≤ b) ∧ BoxAt cx.lim cx.w0.heap b cl) (hfx : ∀ t, cx.fx t = none) (hy : ∀ Y, cx.gl.y = some Y → (cx.B = 0 ∧ Y.P = cx.P) ∧ Y.J ys.1 ys.2 cx.lim cx.w0) :
    RR cx { lim := cx.lim, bl := fun _ => 0, gv := fun _ => .nilIface } { entry fn args sh hint with ys := ys } { tmps := cargs.toArray ++ Array.replicate (fn.ntmps - cargs.toArray.size) undef, defers := [] } cx.w0 := by
  have hit : ∀ t q, look t (mkTm 0 args) ≠ some (.it q) := fun t q h => by
    obtain ⟨j, y, h1, h2, h3⟩ := look_mkTm args 0 t _ h
    cases h3
  refine { frm := Frm.refl _ _ _, base := hB, limB := fun _ _ => rfl, size := ?_, ex := ⟨Keep.refl _ _, ⟨[], by rw [hdf]; rfl, ⟨rfl, List.nodup_nil⟩, fun D hD => (by cases hD)⟩, hy, ⟨fun t q h => absurd h (hit t q), fun t _ q _ h => absurd h (hit t q)⟩, fun t v h => (by rw [hfx] at h; cases h), fun _ _ _ h _ _ => h, fun h => ⟨(htop h).1, hgl, (htop h).2⟩⟩, gl := hgl, tmps := ?_, boxes := fun k c h => (by cases h), inj := fun k k' h => (by cases h), shs := hsh, apart := fun b k _ h => (by cases h), tbs := fun k j g e h => (by cases h), own := ?_, alone := ?_ }
  · simp [entry, hargs.1]
  · intro t x ht
    obtain ⟨j, y, h1, h2, rfl⟩ := look_mkTm args 0 t x ht
    rw [Nat.zero_add] at h1
    subst h1
    have h3 := hargs.2 t y h2
    have hlt : t < cargs.length := by rw [hargs.1]; exact (List.getElem?_eq_some_iff.1 h2).1
    refine ⟨⟨?_, by simp⟩, by simp⟩
    rw [List.getD_eq_getElem?_getD] at h3
    rw [Array.getD_eq_getD_getElem?, Array.getElem?_append_left (by simpa using hlt)]
    simpa using h3
  · rintro g e (⟨t, x, ht⟩ | ⟨k, j, hk⟩)
    · obtain ⟨j, y, -, -, h3⟩ := look_mkTm args 0 t _ ht; cases h3
    · cases hk
  · rintro g e g' e' (⟨t, x, ht⟩ | ⟨k, j, hk⟩)
    · obtain ⟨j, y, -, -, h3⟩ := look_mkTm args 0 t _ ht; cases h3
    · cases hk

theorem calls_of_AT' {cx : Cx} {f : FuncId} {fn : Func} {c : Code} {σ0 : AS} {gh0 : Gh} {cargs : List Value} {post : AV → AS → Prop} {Rq : Ending → World → Prop}
    (hf : cx.P.funcs[f]? = some fn) (hb : fn.body = some c) (hdf : cx.df = [])
    (hr : RR cx gh0 σ0 { tmps := cargs.toArray ++ Array.replicate (fn.ntmps - cargs.toArray.size) undef, defers := [] } cx.w0)
    (h : AT cx.P cx.gl c σ0 (done cx.P fn post))
    (hmk : ∀ s r, post r s → (cx.gl.y = none ∧ cx.B = cx.w0.heap.size) ∨ s.mks = 0)
    (fin : ∀ s r gh a' w' v, post r s → RR cx gh { s with mks := 0 } a' w' → Rep gh.lim w'.heap v r → Rq (.returned v) w') : Calls cx.P f cargs.toArray cx.w0 Rq := by
  refine calls_of_fw (n := 0) (callsIn_of_wp_marks hf hb trivial ?_)
  refine wpIn_mono (h cx none 0 _ cx.w0 rfl rfl (fun _ => rfl) ⟨_, hr⟩) fun e a' w' => ?_
  have key : ∀ s r, resOk cx.P fn s r → post r s → R cx s a' w' → LeavesInM (Fw none) 0 cx.P fn a'.tmps Rq a'.defers .returning w' := by
    rintro s r hres hpost ⟨gh, rr⟩
    refine leaves_marks hdf s.mks s a' w' (hmk s r hpost) rr rfl rfl fun a2 w2 r2 ht => ?_
    obtain ⟨u, h1, h2⟩ := run_results r2 (resOk_mks hres)
    rw [ht] at h1
    exact ⟨u, h1, fin s r gh a2 w2 u hpost r2 h2⟩
  rintro ⟨s, hs, r'⟩
  cases e with
  | normal => obtain ⟨r, h1, h2⟩ := hs; exact key s r h1 h2 r'
  | ret => obtain ⟨r, h1, h2⟩ := hs; exact key s r h1 h2 r'
  | exit id => exact hs.elim
  | goto l => exact hs.elim
  | panic ch => exact hs.elim
  | outgrown => exact hs.elim

theorem calls_of_AT {cx : Cx} {f : FuncId} {fn : Func} {c : Code} {args : List AV} {sh : List (Nat × List AV)} {hint : List (Nat × Nat)} {ys : List AV × Bool} {cargs : List Value} {post : AV → AS → Prop} {Rq : Ending → World → Prop}
    (hf : cx.P.funcs[f]? = some fn) (hb : fn.body = some c) (hdf : cx.df = [])
    (hr : RR cx { lim := cx.lim, bl := fun _ => 0, gv := fun _ => .nilIface } { entry fn args sh hint with ys := ys } { tmps := cargs.toArray ++ Array.replicate (fn.ntmps - cargs.toArray.size) undef, defers := [] } cx.w0)
    (h : AT cx.P cx.gl c { entry fn args sh hint with ys := ys } (done cx.P fn post))
    (hmk : ∀ s r, post r s → (cx.gl.y = none ∧ cx.B = cx.w0.heap.size) ∨ s.mks = 0)
    (fin : ∀ s r gh a' w' v, post r s → RR cx gh { s with mks := 0 } a' w' → Rep gh.lim w'.heap v r → Rq (.returned v) w') : Calls cx.P f cargs.toArray cx.w0 Rq := calls_of_AT' hf hb hdf hr h hmk fin

theorem validH_of {f : FuncId} {fn : Func} {c : Code} {args : List AV} {sh : List (Nat × List AV)} {post : AV → List (Nat × List AV) → Prop} (hint : List (Nat × Nat)) (hf : P.funcs[f]? = some fn) (hb : fn.body = some c) (hok : fnOk P f = true)
    (h : AT P gl c (entry fn args sh hint) (done P fn fun r s => ∃ sh', (∀ b cl, look b sh' = some cl → look b s.sh = some cl) ∧ (∀ b, (look b sh).isSome = true → (look b sh').isSome = true) ∧ post r sh')) (hy : gl.y = none := by rfl) (ht : gl.top = false := by rfl) : ValidH P gl f args sh post := by
  refine ⟨hok, fun lim w cargs hgl hargs hsh => ?_⟩
  let cx : Cx := { P := P, B := w.heap.size, S := fun b => (look b sh).isSome = true, lim := lim, w0 := w, df := [], gl := gl, fx := fun _ => none }
  have hr := entry_rr (cx := cx) (fn := fn) (hint := hint) (ys := ([], true)) (Nat.le_refl _) (fun h => by rw [show cx.gl.top = false from ht] at h; cases h) rfl hgl hargs (fun b cl hb => ⟨.inl (show (look b sh).isSome = true by rw [show look b sh = some cl from hb]; rfl), hsh b cl hb⟩) (fun _ => rfl) (fun Y hY => by rw [show cx.gl.y = none from hy] at hY; cases hY)
  refine calls_of_AT (cx := cx) hf hb rfl hr h (fun _ _ _ => .inl ⟨hy, rfl⟩) fun s r gh a' w' v => ?_
  rintro ⟨sh', hsub, hcov, hpost⟩ rr h2
  refine ⟨v, r, sh', gh.lim, rfl, rr.frm, rr.limB, h2, fun b cl hb => (rr.shs b cl (hsub b cl hb)).2, hpost, hcov, fun b hb' => ?_⟩
  obtain ⟨cl, hcl⟩ := Option.isSome_iff_exists.1 hb'
  exact (rr.shs b cl (hsub b cl hcl)).1

theorem valid_of {f : FuncId} {fn : Func} {c : Code} {args : List AV} {r : AV} (hint : List (Nat × Nat)) (hf : P.funcs[f]? = some fn) (hb : fn.body = some c) (hok : fnOk P f = true)
    (h : AT P gl c (entry fn args [] hint) (done P fn fun r' _ => r' = r)) (hy : gl.y = none := by rfl) (ht : gl.top = false := by rfl) : Valid P gl f args r := by
  refine validH_of hint hf hb hok (AT_mono h fun e s hs => ?_) hy ht
  have key : (∃ r', resOk P fn s r' ∧ r' = r) → ∃ r', resOk P fn s r' ∧ ∃ sh', (∀ b cl, look b sh' = some cl → look b s.sh = some cl) ∧ (∀ b, (look b ([] : List (Nat × List AV))).isSome = true → (look b sh').isSome = true) ∧ r' = r ∧ sh' = [] :=
    fun ⟨r', h1, h2⟩ => ⟨r', h1, [], fun b cl h => (by cases h), fun b h => h, h2, rfl⟩
  cases e with
  | normal => exact key hs
  | ret => exact key hs
  | exit id => exact hs
  | goto l => exact hs
  | panic ch => exact hs
  | outgrown => exact hs

def ownRes (fn : Func) (s : AS) : Option (Nat × Nat) :=
  match fn.results.toList with
  | [.tmp t] => match look t s.tm with
    | some (.v _ g) => g
    | _ => none
  | _ => none
theorem validY_of {f : FuncId} {fn : Func} {c : Code} {args : List AV} {r : AV} {Y : Ys} {ys ys' : List AV × Bool} (hint : List (Nat × Nat)) (hf : P.funcs[f]? = some fn) (hb : fn.body = some c) (hok : fnOk P f = true) (hY : gl.y = some Y) (hP : Y.P = P)
    (h : AT P gl c { entry fn args [] hint with ys := ys } (done P fn fun r' s => r' = r ∧ s.ys = ys' ∧ s.mks = 0)) (ht : gl.top = false := by rfl) : ValidY P gl Y f args ys r ys' := by
  refine ⟨hok, fun lim w cargs hgl hargs hj => ?_⟩
  let cx : Cx := { P := P, B := 0, S := fun _ => True, lim := lim, w0 := w, df := [], gl := gl, fx := fun _ => none }
  have hr := entry_rr (cx := cx) (fn := fn) (hint := hint) (sh := []) (ys := ys) (Nat.zero_le _) (fun h => by rw [show cx.gl.top = false from ht] at h; cases h) rfl hgl hargs (fun b cl hb => (by cases hb)) (fun _ => rfl) (fun Y' hY' => by
    rw [show cx.gl.y = some Y from hY] at hY'
    injection hY' with hY'
    subst hY'
    exact ⟨⟨rfl, hP⟩, hj⟩)
  refine calls_of_AT (cx := cx) hf hb rfl hr h (fun _ _ h => .inr h.2.2) fun s r' gh a' w' v => ?_
  rintro ⟨rfl, hys, -⟩ rr h2
  refine ⟨v, gh.lim, rfl, rr.frm, rr.ex.keep, h2, ?_⟩
  have := (rr.ex.yj Y hY).2
  rw [← hys]
  exact this

def mkTmB : Nat → List Nat → List (Nat × TV)
  | _, [] => []
  | i, k :: r => (i, .lp k 0) :: mkTmB (i + 1) r
def fxs : Nat → List Nat → List Nat
  | _, [] => []
  | i, _ :: r => i :: fxs (i + 1) r
def fxv (bl : Nat → Nat) : Nat → List Nat → List (Nat × Value)
  | _, [] => []
  | i, k :: r => (i, Value.pointer (some ⟨bl k, 0, none⟩)) :: fxv bl (i + 1) r
def keepB (tm : List (Nat × TV)) : Nat → List Nat → Bool
  | _, [] => true
  | i, k :: r => (match look i tm with | some (.lp k' 0) => k' == k | _ => false) && keepB tm (i + 1) r

def entryB (fn : Func) (args : List AV) (ks : List Nat) (bx : List (Nat × List AV)) (tb : List (Nat × Nat × Nat × Nat)) (hint : List (Nat × Nat)) : AS :=
  { n := (args.length + ks.length) + (fn.ntmps - (args.length + ks.length)), tm := mkTm 0 args ++ mkTmB args.length ks, bx := bx, tb := tb, sh := [], hint := hint, fx := fxs args.length ks }

end
end Go.Pv
end

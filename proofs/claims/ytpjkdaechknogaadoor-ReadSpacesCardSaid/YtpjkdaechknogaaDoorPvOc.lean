import Derived.Test.YtpjkdaechknogaaDoorPvRa
import Derived.Test.YtpjkdaechknogaaDoorPvQ
set_option linter.all false
section
/- Reading in the reference (castingsref07), by places in a list of tokens; that both read the same. -/
namespace Go.Pv
open Go

structure Pl where
  k : Nat
  bad : Bool

theorem Pl.eta_ {p : Pl} (h : p.bad = false) : p = ⟨p.k, false⟩ := by
  cases p; simp only at h; subst h; rfl
section
variable (L : List Tk)
def hdK (p : Pl) : Tk := L.getD p.k tk0
def Pl.is (p : Pl) (s : Str) : Bool := !p.bad && (hdK L p).1 != 3 && (hdK L p).2.1 == s
def Pl.adv (p : Pl) : Pl := ⟨p.k + 1, p.bad⟩
def Pl.fail (p : Pl) : Pl := ⟨p.k, true⟩
def Pl.must (p : Pl) (s : Str) : Pl := if p.is L s then p.adv else p.fail
def Pl.named (p : Pl) : Bool := !p.bad && (hdK L p).1 == 1 && isName (hdK L p).2.1
def Pl.name (p : Pl) : Pl := if p.named L then p.adv else p.fail
def Pl.nm (p : Pl) : Str := if p.named L then (hdK L p).2.1 else []
def Pl.at_ (p : Pl) : Int := if p.named L then (hdK L p).2.2 else 0

def tloopR (rd : Pl → Ty × Pl) : Nat → Pl → List Ty × Pl
  | 0, p => ([], p)
  | m + 1, p => if (rd p.adv).2.is L [44] then ((rd p.adv).1 :: (tloopR rd m (rd p.adv).2).1, (tloopR rd m (rd p.adv).2).2) else ([(rd p.adv).1], (rd p.adv).2.must L [93])
def targsR (rd : Pl → Ty × Pl) (p : Pl) : List Ty × Pl := if p.is L [91] then tloopR L rd (L.length - p.k) p else ([], p)
def typeR : Nat → Pl → Ty × Pl
  | 0, p => (ty0, p)
  | n + 1, p => (.mk (p.nm L) (targsR L (typeR n) (p.name L)).1 (p.at_ L), (targsR L (typeR n) (p.name L)).2)
def aloopR (rd : Pl → Exp × Pl) (e : Str) : Nat → Pl → List Exp × Pl
  | 0, p => ([], p)
  | m + 1, p => if (rd p).2.is L [44] then ((rd p).1 :: (aloopR rd e m (rd p).2.adv).1, (aloopR rd e m (rd p).2.adv).2) else ([(rd p).1], (rd p).2.must L e)
def alB (rd : Pl → Exp × Pl) (e : Str) (m : Nat) (p : Pl) : List Exp × Pl := if p.bad then ([], p) else aloopR L rd e m p
def argsR (rd : Pl → Exp × Pl) (e : Str) (p : Pl) : List Exp × Pl := if p.is L e then ([], p.must L e) else if p.bad then ([], p) else aloopR L rd e (L.length - p.k) p
def restR (ty : Pl → Ty × Pl) (ex : Pl → Exp × Pl) (e : Exp) (p : Pl) : Exp × Pl :=
  if p.is L [40] then (.mk 5 [] (ty p.adv).1 [] [e] (hdK L p).2.2, (ty p.adv).2.must L [41])
  else if (p.name L).is L [91] || (p.name L).is L [40] then
    (.mk 2 (p.nm L) ty0 (targsR L ty (p.name L)).1 (e :: (argsR L ex [41] ((targsR L ty (p.name L)).2.must L [40])).1) (p.at_ L), (argsR L ex [41] ((targsR L ty (p.name L)).2.must L [40])).2)
  else (.mk 4 (p.nm L) ty0 [] [e] (p.at_ L), p.name L)
def dotsR (rs : Exp → Pl → Exp × Pl) : Nat → Exp → Pl → Exp × Pl
  | 0, e, p => (e, p)
  | m + 1, e, p => if p.is L [46] then dotsR rs m (rs e p.adv).1 (rs e p.adv).2 else (e, p)
def baseR (ty : Pl → Ty × Pl) (ex : Pl → Exp × Pl) (p : Pl) : Exp × Pl :=
  if (p.name L).is L [91] || (p.name L).is L [123] then
    (.mk 3 [] (.mk (p.nm L) (targsR L ty (p.name L)).1 (p.at_ L)) [] (argsR L ex [125] ((targsR L ty (p.name L)).2.must L [123])).1 (p.at_ L), (argsR L ex [125] ((targsR L ty (p.name L)).2.must L [123])).2)
  else (.mk 1 (p.nm L) ty0 [] [] (p.at_ L), p.name L)
def exprR : Nat → Pl → Exp × Pl
  | 0, p => (ex0, p)
  | n + 1, p => dotsR L (restR L (typeR L n) (exprR n)) (L.length - (baseR L (typeR L n) (exprR n) p).2.k) (baseR L (typeR L n) (exprR n) p).1 (baseR L (typeR L n) (exprR n) p).2
def finR (p : Pl) : Int × Int := if !p.bad && (hdK L p).1 == 3 then (0, 0) else (2, (hdK L p).2.2)
def encP (p : Pl) : List AV := [.slice (L.map encK), .int .i64 p.k, .bool p.bad]

/-- The list ends with its end's token, and with no other. -/
def EndsT : Prop := 0 < L.length ∧ ∀ k, k < L.length → (L.getD k tk0).1 ≠ 3 → k + 1 < L.length
end

section
variable {L : List Tk} (hE : EndsT L)
theorem Pl.is_bad {p : Pl} {s : Str} (h : p.is L s = true) : p.bad = false ∧ (hdK L p).1 ≠ 3 := by
  simp only [Pl.is, Bool.and_eq_true, Bool.not_eq_true', bne_iff_ne] at h; exact ⟨h.1.1, h.1.2⟩
theorem Pl.named_bad {p : Pl} (h : p.named L = true) : p.bad = false ∧ (hdK L p).1 ≠ 3 := by
  simp only [Pl.named, Bool.and_eq_true, Bool.not_eq_true', beq_iff_eq] at h
  exact ⟨h.1.1, by rw [h.1.2]; decide⟩
include hE
theorem Pl.adv_lt {p : Pl} {s : Str} (hp : p.k < L.length) (h : p.is L s = true) : p.adv.k < L.length := hE.2 _ hp (Pl.is_bad h).2
theorem Pl.must_lt {p : Pl} (s : Str) (hp : p.k < L.length) : p.k ≤ (p.must L s).k ∧ (p.must L s).k < L.length := by
  unfold Pl.must
  split
  · rename_i h; exact ⟨Nat.le_succ _, Pl.adv_lt hE hp h⟩
  · exact ⟨Nat.le_refl _, hp⟩
theorem Pl.name_lt {p : Pl} (hp : p.k < L.length) : p.k ≤ (p.name L).k ∧ (p.name L).k < L.length := by
  unfold Pl.name
  split
  · rename_i h; exact ⟨Nat.le_succ _, hE.2 _ hp (Pl.named_bad h).2⟩
  · exact ⟨Nat.le_refl _, hp⟩
/-- A reader that goes on, within the list. -/
def Goes {α : Type} (L : List Tk) (rd : Pl → α × Pl) : Prop := ∀ p, p.k < L.length → p.k ≤ (rd p).2.k ∧ (rd p).2.k < L.length
theorem tloopR_lt {rd : Pl → Ty × Pl} (h : Goes L rd) : ∀ (m : Nat) (p : Pl), p.adv.k < L.length → p.k ≤ (tloopR L rd m p).2.k ∧ (tloopR L rd m p).2.k < L.length
  | 0, p, hp => ⟨Nat.le_refl _, Nat.lt_of_succ_lt hp⟩
  | m + 1, p, hp => by
    have h1 := h p.adv hp
    have h0 : p.k ≤ p.adv.k := Nat.le_succ _
    rw [tloopR]
    split
    · rename_i hi
      have h2 := tloopR_lt h m (rd p.adv).2 (Pl.adv_lt hE h1.2 hi)
      exact ⟨by show p.k ≤ (tloopR L rd m (rd p.adv).2).2.k; omega, h2.2⟩
    · have h2 := Pl.must_lt hE [93] h1.2
      exact ⟨by show p.k ≤ ((rd p.adv).2.must L [93]).k; omega, h2.2⟩
theorem targsR_lt {rd : Pl → Ty × Pl} (h : Goes L rd) : Goes L (targsR L rd) := fun p hp => by
  unfold targsR
  split
  · rename_i hi; exact tloopR_lt hE h _ p (Pl.adv_lt hE hp hi)
  · exact ⟨Nat.le_refl _, hp⟩
theorem typeR_lt : ∀ n, Goes L (typeR L n)
  | 0 => fun p hp => ⟨Nat.le_refl _, hp⟩
  | n + 1 => fun p hp => by
    have h1 := Pl.name_lt hE hp
    have h2 := targsR_lt hE (typeR_lt n) (p.name L) h1.2
    exact ⟨Nat.le_trans h1.1 h2.1, h2.2⟩
theorem aloopR_lt {rd : Pl → Exp × Pl} (h : Goes L rd) (e : Str) : ∀ (m : Nat) (p : Pl), p.k < L.length → p.k ≤ (aloopR L rd e m p).2.k ∧ (aloopR L rd e m p).2.k < L.length
  | 0, p, hp => ⟨Nat.le_refl _, hp⟩
  | m + 1, p, hp => by
    have h1 := h p hp
    rw [aloopR]
    split
    · rename_i hi
      have h2 := aloopR_lt h e m (rd p).2.adv (Pl.adv_lt hE h1.2 hi)
      have h0 : (rd p).2.k ≤ (rd p).2.adv.k := Nat.le_succ _
      exact ⟨by show p.k ≤ (aloopR L rd e m (rd p).2.adv).2.k; omega, h2.2⟩
    · have h2 := Pl.must_lt hE e h1.2
      exact ⟨by show p.k ≤ ((rd p).2.must L e).k; omega, h2.2⟩
theorem argsR_lt {rd : Pl → Exp × Pl} (h : Goes L rd) (e : Str) : Goes L (argsR L rd e) := fun p hp => by
  unfold argsR
  split
  · exact Pl.must_lt hE e hp
  · split
    · exact ⟨Nat.le_refl _, hp⟩
    · exact aloopR_lt hE h e _ p hp
theorem restR_lt {ty : Pl → Ty × Pl} {ex : Pl → Exp × Pl} (h1 : Goes L ty) (h2 : Goes L ex) (e : Exp) : Goes L (restR L ty ex e) := fun p hp => by
  unfold restR
  split
  · rename_i hi
    have h3 := h1 p.adv (Pl.adv_lt hE hp hi)
    have h4 := Pl.must_lt hE [41] h3.2
    have h0 : p.k ≤ p.adv.k := Nat.le_succ _
    exact ⟨by show p.k ≤ ((ty p.adv).2.must L [41]).k; omega, h4.2⟩
  · have h3 := Pl.name_lt hE hp
    split
    · have h4 := targsR_lt hE h1 _ h3.2
      have h5 := Pl.must_lt hE [40] h4.2
      have h6 := argsR_lt hE h2 [41] _ h5.2
      exact ⟨by show p.k ≤ (argsR L ex [41] ((targsR L ty (p.name L)).2.must L [40])).2.k; omega, h6.2⟩
    · exact h3
theorem dotsR_lt {rs : Exp → Pl → Exp × Pl} (h : ∀ e, Goes L (rs e)) : ∀ (m : Nat) (e : Exp), Goes L (dotsR L rs m e)
  | 0, e => fun p hp => ⟨Nat.le_refl _, hp⟩
  | m + 1, e => fun p hp => by
    rw [dotsR]
    split
    · rename_i hi
      have h1 := h e p.adv (Pl.adv_lt hE hp hi)
      have h2 := dotsR_lt h m (rs e p.adv).1 (rs e p.adv).2 h1.2
      have h0 : p.k ≤ p.adv.k := Nat.le_succ _
      exact ⟨by omega, h2.2⟩
    · exact ⟨Nat.le_refl _, hp⟩
theorem baseR_lt {ty : Pl → Ty × Pl} {ex : Pl → Exp × Pl} (h1 : Goes L ty) (h2 : Goes L ex) : Goes L (baseR L ty ex) := fun p hp => by
  have h3 := Pl.name_lt hE hp
  unfold baseR
  split
  · have h4 := targsR_lt hE h1 _ h3.2
    have h5 := Pl.must_lt hE [123] h4.2
    have h6 := argsR_lt hE h2 [125] _ h5.2
    exact ⟨by show p.k ≤ (argsR L ex [125] ((targsR L ty (p.name L)).2.must L [123])).2.k; omega, h6.2⟩
  · exact h3
theorem exprR_lt : ∀ n, Goes L (exprR L n)
  | 0 => fun p hp => ⟨Nat.le_refl _, hp⟩
  | n + 1 => fun p hp => by
    have h1 := baseR_lt hE (typeR_lt hE n) (exprR_lt n) p hp
    have h2 := dotsR_lt hE (restR_lt hE (typeR_lt hE n) (exprR_lt n)) (L.length - (baseR L (typeR L n) (exprR L n) p).2.k) (baseR L (typeR L n) (exprR L n) p).1 _ h1.2
    exact ⟨Nat.le_trans h1.1 h2.1, h2.2⟩
end

theorem aloopR_count {L : List Tk} (rd : Pl → Exp × Pl) (e : Str) : ∀ (m : Nat) (p : Pl), (aloopR L rd e m p).1.length ≤ m
  | 0, p => by simp [aloopR]
  | m + 1, p => by
    rw [aloopR]
    split
    · have := aloopR_count (L := L) rd e m (rd p).2.adv
      simp only [List.length_cons]; omega
    · simp
theorem argsR_count {L : List Tk} (rd : Pl → Exp × Pl) (e : Str) (p : Pl) : (argsR L rd e p).1.length ≤ L.length := by
  unfold argsR
  split
  · simp
  · split
    · simp
    · have := aloopR_count (L := L) rd e (L.length - p.k) p
      omega
/-! ### Both read the same -/
structure Rel (L : List Tk) (c : Cur) (p : Pl) : Prop where
  l : c.l = L.drop p.k
  lt : p.k < L.length
  err : c.err.isSome = p.bad
  at_ : ∀ a, c.err = some a → a = (hdK L p).2.2

section
variable {L : List Tk} {c : Cur} {p : Pl}
theorem Rel.head (r : Rel L c p) : c.l.headD tk0 = hdK L p := by
  rw [r.l, List.drop_eq_getElem_cons r.lt]
  simp [hdK, List.getD_eq_getElem?_getD, r.lt]
theorem Rel.first (r : Rel L c p) (h : p.bad = false) : c.first = hdK L p := by
  rw [Cur.first, r.err, h]; exact r.head
theorem Rel.next (r : Rel L c p) (s : Str) : c.next s = p.is L s := by
  cases h : p.bad with
  | true => rw [Cur.err_next (by rw [r.err, h]), Pl.is, h]; rfl
  | false => rw [Cur.next, r.first h, Pl.is, h]; rfl
theorem Rel.named (r : Rel L c p) : c.named = p.named L := by
  cases h : p.bad with
  | true => rw [Cur.named, Cur.err_first (by rw [r.err, h]), Pl.named, h]; rfl
  | false => rw [Cur.named, r.first h, Pl.named, h]; rfl
theorem Rel.nm (r : Rel L c p) : c.nm = p.nm L := by
  unfold Cur.nm Pl.nm
  rw [r.named]
  cases h : p.named L with
  | false => rfl
  | true => rw [r.first (Pl.named_bad h).1]
theorem Rel.pos (r : Rel L c p) : c.at_ = p.at_ L := by
  unfold Cur.at_ Pl.at_
  rw [r.named]
  cases h : p.named L with
  | false => rfl
  | true => rw [r.first (Pl.named_bad h).1]
theorem Rel.adv' (r : Rel L c p) (hb : p.bad = false) (h : p.k + 1 < L.length) : Rel L c.adv p.adv := by
  refine ⟨?_, h, by simpa [Cur.adv, Pl.adv] using r.err, fun a ha => ?_⟩
  · show c.l.tail = L.drop (p.k + 1)
    rw [r.l, List.tail_drop]
  · have : c.err.isSome = true := by rw [show c.err = some a from ha]; rfl
    rw [r.err, hb] at this; cases this
theorem Rel.adv (hE : EndsT L) (r : Rel L c p) {s : Str} (h : p.is L s = true) : Rel L c.adv p.adv := r.adv' (Pl.is_bad h).1 (Pl.adv_lt hE r.lt h)
theorem Rel.fail (r : Rel L c p) : Rel L c.fail p.fail := by
  refine ⟨by rw [Cur.fail_l]; exact r.l, r.lt, ?_, fun a ha => ?_⟩
  · unfold Cur.fail
    split
    · rename_i h; exact h
    · rfl
  · unfold Cur.fail at ha
    split at ha
    · exact r.at_ a ha
    · rename_i h
      have hb : p.bad = false := by rw [← r.err]; simpa using h
      rw [r.first hb] at ha
      injection ha with ha; exact ha.symm
theorem Rel.must (hE : EndsT L) (r : Rel L c p) (s : Str) : Rel L (c.must s) (p.must L s) := by
  unfold Cur.must Pl.must
  rw [r.next]
  split
  · rename_i h; exact r.adv hE h
  · exact r.fail
theorem Rel.name (hE : EndsT L) (r : Rel L c p) : Rel L c.name (p.name L) := by
  unfold Cur.name Pl.name
  rw [r.named]
  split
  · rename_i h; exact r.adv' (Pl.named_bad h).1 (hE.2 _ r.lt (Pl.named_bad h).2)
  · exact r.fail
theorem Pl.must_bad {s : Str} (h : (p.must L s).bad = false) : p.bad = false ∧ p.is L s = true := by
  unfold Pl.must at h
  split at h
  · rename_i hi; exact ⟨(Pl.is_bad hi).1, hi⟩
  · cases h
theorem Pl.name_bad (h : (p.name L).bad = false) : p.bad = false := by
  unfold Pl.name at h
  split at h
  · rename_i hi; exact (Pl.named_bad hi).1
  · cases h

/-- A cursor's reader and a place's do the same; bad places stay. -/
structure Sim {α : Type} (L : List Tk) (rc : Cur → α × Cur) (rp : Pl → α × Pl) (n : Nat) : Prop where
  sim : ∀ c p, Rel L c p → L.length - p.k < n → Rel L (rc c).2 (rp p).2 ∧ ((rp p).2.bad = false → p.bad = false ∧ (rc c).1 = (rp p).1)
  suf : ∀ c, (rc c).2.l <:+ c.l
  goes : Goes L rp
  still : ∀ c, c.err.isSome = true → (rc c).2 = c

theorem listC_err {α : Type} {rd : Cur → α × Cur} (h : ∀ c : Cur, c.err.isSome = true → (rd c).2 = c) (c : Cur) (he : c.err.isSome = true) : (listC rd c).2 = c := by
  rw [listC, h c he]
  cases c.l.length with
  | zero => rfl
  | succ m => rw [loopC, Cur.err_next he]; rfl
theorem Cur.must_err {s : Str} (he : c.err.isSome = true) : c.must s = c := by rw [Cur.must, Cur.err_next he]; simp [Cur.fail, he]
theorem Cur.name_err (he : c.err.isSome = true) : c.name = c := by
  have : c.named = false := by simp [Cur.named, Cur.err_first he, tk0]
  simp [Cur.name, this, Cur.fail, he]
theorem targsC_err {rd : Cur → Ty × Cur} (c : Cur) (he : c.err.isSome = true) : (targsC rd c).2 = c := by rw [targsC, Cur.err_next he]; rfl
theorem typeC_err (n : Nat) (c : Cur) (he : c.err.isSome = true) : (typeC n c).2 = c := by
  cases n with
  | zero => rfl
  | succ n => show (targsC (typeC n) c.name).2 = c; rw [Cur.name_err he]; exact targsC_err c he
theorem restC_err {ty : Cur → Ty × Cur} {ex : Cur → Exp × Cur} (e : Exp) (c : Cur) (he : c.err.isSome = true) : (restC ty ex e c).2 = c := by
  rw [restC, Cur.err_next he, Cur.name_err he, Cur.err_next he, Cur.err_next he]; rfl
theorem baseC_err {ty : Cur → Ty × Cur} {ex : Cur → Exp × Cur} (c : Cur) (he : c.err.isSome = true) : (baseC ty ex c).2 = c := by
  rw [baseC, Cur.name_err he, Cur.err_next he, Cur.err_next he]; rfl
theorem dotsC_err {rs : Exp → Cur → Exp × Cur} (m : Nat) (e : Exp) (c : Cur) (he : c.err.isSome = true) : (dotsC rs m e c).2 = c := by
  cases m with
  | zero => rfl
  | succ m => rw [dotsC, Cur.err_next he]; rfl
theorem exprC_err (n : Nat) (c : Cur) (he : c.err.isSome = true) : (exprC n c).2 = c := by
  cases n with
  | zero => rfl
  | succ n =>
    show (dotsC (restC (typeC n) (exprC n)) _ _ (baseC (typeC n) (exprC n) c).2).2 = c
    rw [baseC_err c he]; exact dotsC_err _ _ c he

variable (hE : EndsT L)
include hE
theorem sim_list {rc : Cur → Ty × Cur} {rp : Pl → Ty × Pl} {n : Nat} (h : Sim L rc rp n) : ∀ (m : Nat) (c : Cur) (p : Pl), Rel L c.adv p.adv → L.length - p.k ≤ m → L.length - p.adv.k < n →
    Rel L ((listC rc c.adv).2.must [93]) (tloopR L rp m p).2 ∧ ((tloopR L rp m p).2.bad = false → p.bad = false ∧ (listC rc c.adv).1 = (tloopR L rp m p).1)
  | 0, c, p, r, hm, _ => by have h1 := r.lt; have h2 : p.adv.k = p.k + 1 := rfl; omega
  | m + 1, c, p, r, hm, hn => by
    obtain ⟨h1, h2⟩ := h.sim _ _ r hn
    have hg := h.goes _ r.lt
    have hk : p.adv.k = p.k + 1 := rfl
    have hl := loopC_at (fun c => (h.suf c).length_le) (rc c.adv).2
    rw [h1.next] at hl
    rw [tloopR]
    cases hi : (rp p.adv).2.is L [44] with
    | true =>
      rw [hi] at hl
      simp only [if_true] at hl ⊢
      have e : listC rc c.adv = ((rc c.adv).1 :: (listC rc (rc c.adv).2.adv).1, (listC rc (rc c.adv).2.adv).2) := by
        rw [listC, hl]; rfl
      have hk2 : (rp p.adv).2.adv.k = (rp p.adv).2.k + 1 := rfl
      obtain ⟨h3, h4⟩ := sim_list h m (rc c.adv).2 (rp p.adv).2 (h1.adv hE hi) (by omega) (by omega)
      rw [e]
      refine ⟨h3, fun hb => ?_⟩
      obtain ⟨h5, h6⟩ := h4 hb
      obtain ⟨h7, h8⟩ := h2 h5
      exact ⟨h7, by rw [h8, h6]⟩
    | false =>
      rw [hi] at hl
      simp only [Bool.false_eq_true, if_false] at hl ⊢
      have e : listC rc c.adv = ([(rc c.adv).1], (rc c.adv).2) := by rw [listC, hl]
      rw [e]
      refine ⟨h1.must hE [93], fun hb => ?_⟩
      obtain ⟨h7, h8⟩ := h2 (Pl.must_bad hb).1
      exact ⟨h7, by rw [h8]⟩
theorem sim_targs {rc : Cur → Ty × Cur} {rp : Pl → Ty × Pl} {n : Nat} (h : Sim L rc rp n) (c : Cur) (p : Pl) (r : Rel L c p) (hn : p.is L [91] = true → L.length - p.adv.k < n) :
    Rel L (targsC rc c).2 (targsR L rp p).2 ∧ ((targsR L rp p).2.bad = false → p.bad = false ∧ (targsC rc c).1 = (targsR L rp p).1) := by
  unfold targsC targsR
  rw [r.next]
  cases hi : p.is L [91] with
  | true =>
    simp only [if_true]
    exact sim_list hE h _ c p (r.adv hE hi) (Nat.le_refl _) (hn hi)
  | false =>
    simp only [Bool.false_eq_true, if_false]
    exact ⟨r, fun h => ⟨h, trivial⟩⟩
theorem sim_type : ∀ n, Sim L (typeC n) (typeR L n) n
  | 0 => ⟨fun _ _ _ h => absurd h (Nat.not_lt_zero _), typeC_suf 0, typeR_lt hE 0, typeC_err 0⟩
  | n + 1 => by
    refine ⟨fun c p r hn => ?_, typeC_suf _, typeR_lt hE _, typeC_err _⟩
    have r1 := r.name hE
    obtain ⟨h1, h2⟩ := sim_targs hE (sim_type n) c.name (p.name L) r1 (fun hi => by
      have h3 : (p.name L).k = p.k + 1 := by
        have := Pl.is_bad hi
        unfold Pl.name at this ⊢
        split
        · rfl
        · rename_i hq; rw [if_neg hq] at this; cases this.1
      have h4 : (p.name L).adv.k = (p.name L).k + 1 := rfl
      have := r.lt
      omega)
    refine ⟨h1, fun hb => ?_⟩
    obtain ⟨h3, h4⟩ := h2 hb
    exact ⟨Pl.name_bad h3, by show Ty.mk _ _ _ = Ty.mk _ _ _; rw [r.nm, r.pos, h4]⟩
theorem sim_alist {rc : Cur → Exp × Cur} {rp : Pl → Exp × Pl} {n : Nat} (h : Sim L rc rp n) (e : Str) : ∀ (m : Nat) (c : Cur) (p : Pl), Rel L c p → L.length - p.k ≤ m → L.length - p.k < n →
    Rel L ((listC rc c).2.must e) (aloopR L rp e m p).2 ∧ ((aloopR L rp e m p).2.bad = false → p.bad = false ∧ (listC rc c).1 = (aloopR L rp e m p).1)
  | 0, c, p, r, hm, _ => by have h1 := r.lt; omega
  | m + 1, c, p, r, hm, hn => by
    obtain ⟨h1, h2⟩ := h.sim _ _ r hn
    have hg := h.goes _ r.lt
    have hl := loopC_at (fun c => (h.suf c).length_le) (rc c).2
    rw [h1.next] at hl
    rw [aloopR]
    cases hi : (rp p).2.is L [44] with
    | true =>
      rw [hi] at hl
      simp only [if_true] at hl ⊢
      have e' : listC rc c = ((rc c).1 :: (listC rc (rc c).2.adv).1, (listC rc (rc c).2.adv).2) := by
        rw [listC, hl]; rfl
      have hk2 : (rp p).2.adv.k = (rp p).2.k + 1 := rfl
      obtain ⟨h3, h4⟩ := sim_alist h e m (rc c).2.adv (rp p).2.adv (h1.adv hE hi) (by omega) (by omega)
      rw [e']
      refine ⟨h3, fun hb => ?_⟩
      obtain ⟨h5, h6⟩ := h4 hb
      obtain ⟨h7, h8⟩ := h2 h5
      exact ⟨h7, by rw [h8, h6]⟩
    | false =>
      rw [hi] at hl
      simp only [Bool.false_eq_true, if_false] at hl ⊢
      have e' : listC rc c = ([(rc c).1], (rc c).2) := by rw [listC, hl]
      rw [e']
      refine ⟨h1.must hE e, fun hb => ?_⟩
      obtain ⟨h7, h8⟩ := h2 (Pl.must_bad hb).1
      exact ⟨h7, by rw [h8]⟩
theorem sim_args {rc : Cur → Exp × Cur} {rp : Pl → Exp × Pl} {n : Nat} (h : Sim L rc rp n) (e : Str) (c : Cur) (p : Pl) (r : Rel L c p) (hn : p.bad = false → L.length - p.k < n) :
    Rel L (argsC rc e c).2 (argsR L rp e p).2 ∧ ((argsR L rp e p).2.bad = false → p.bad = false ∧ (argsC rc e c).1 = (argsR L rp e p).1) := by
  unfold argsC argsR
  rw [r.next]
  cases hi : p.is L e with
  | true => simp only [if_true]; exact ⟨r.must hE e, fun _ => ⟨(Pl.is_bad hi).1, trivial⟩⟩
  | false =>
    simp only [Bool.false_eq_true, if_false]
    cases hb : p.bad with
    | true =>
      simp only [if_true]
      have he : c.err.isSome = true := by rw [r.err, hb]
      rw [listC_err h.still c he, Cur.must_err he]
      exact ⟨r, fun h => by rw [hb] at h; cases h⟩
    | false =>
      simp only [Bool.false_eq_true, if_false]
      have := sim_alist hE h e _ c p r (Nat.le_refl _) (hn hb)
      rw [hb] at this
      exact ⟨this.1, fun h => ⟨trivial, (this.2 h).2⟩⟩
theorem sim_rest {tc : Cur → Ty × Cur} {tp : Pl → Ty × Pl} {xc : Cur → Exp × Cur} {xp : Pl → Exp × Pl} {n : Nat} (ht : Sim L tc tp n) (hx : Sim L xc xp n) (e : Exp) (c : Cur) (p : Pl) (r : Rel L c p) (hn : L.length - p.k < n) :
    Rel L (restC tc xc e c).2 (restR L tp xp e p).2 ∧ ((restR L tp xp e p).2.bad = false → p.bad = false ∧ (restC tc xc e c).1 = (restR L tp xp e p).1) := by
  unfold restC restR
  rw [r.next]
  cases hi : p.is L [40] with
  | true =>
    simp only [if_true]
    have hk : p.adv.k = p.k + 1 := rfl
    obtain ⟨h1, h2⟩ := ht.sim _ _ (r.adv hE hi) (by omega)
    refine ⟨h1.must hE _, fun hb => ?_⟩
    obtain ⟨h3, h4⟩ := h2 (Pl.must_bad hb).1
    exact ⟨h3, by rw [h4, r.first (Pl.is_bad hi).1]⟩
  | false =>
    simp only [Bool.false_eq_true, if_false]
    have r1 := r.name hE
    rw [r1.next, r1.next]
    have hnl := (Pl.name_lt hE r.lt)
    have hng : ∀ s, (p.name L).is L s = true → (p.name L).k = p.k + 1 := fun s hi => by
      have := Pl.is_bad hi
      unfold Pl.name at this ⊢
      split
      · rfl
      · rename_i hq; rw [if_neg hq] at this; cases this.1
    cases hq : ((p.name L).is L [91] || (p.name L).is L [40]) with
    | true =>
      have hq2 : (!(p.name L).is L [91] && !(p.name L).is L [40]) = false := by
        cases h1 : (p.name L).is L [91] <;> cases h2 : (p.name L).is L [40] <;> simp_all
      rw [hq2]
      simp only [if_true, Bool.false_eq_true, if_false]
      obtain ⟨h1, h2⟩ := sim_targs hE ht c.name (p.name L) r1 (fun h => by
        have h4 : (p.name L).adv.k = (p.name L).k + 1 := rfl
        omega)
      have r2 := h1.must hE [40]
      have hg1 := targsR_lt hE ht.goes _ r1.lt
      have hg2 := Pl.must_lt hE [40] hg1.2
      obtain ⟨h3, h4⟩ := sim_args hE hx [41] _ _ r2 (fun _ => by omega)
      refine ⟨h3, fun hb => ?_⟩
      obtain ⟨h5, h6⟩ := h4 hb
      obtain ⟨h7, h8⟩ := h2 (Pl.must_bad h5).1
      exact ⟨Pl.name_bad h7, by rw [h6, h8, r.nm, r.pos]⟩
    | false =>
      have hq2 : (!(p.name L).is L [91] && !(p.name L).is L [40]) = true := by
        cases h1 : (p.name L).is L [91] <;> cases h2 : (p.name L).is L [40] <;> simp_all
      rw [hq2]
      simp only [if_true, Bool.false_eq_true, if_false]
      exact ⟨r1, fun hb => ⟨Pl.name_bad hb, by rw [r.nm, r.pos]⟩⟩
theorem sim_dots {rc : Exp → Cur → Exp × Cur} {rp : Exp → Pl → Exp × Pl} {n : Nat} (hs : ∀ e c, (rc e c).2.l <:+ c.l) (hg : ∀ e, Goes L (rp e))
    (h : ∀ e c p, Rel L c p → L.length - p.k < n → Rel L (rc e c).2 (rp e p).2 ∧ ((rp e p).2.bad = false → p.bad = false ∧ (rc e c).1 = (rp e p).1)) : ∀ (m : Nat) (e e' : Exp) (c : Cur) (p : Pl), Rel L c p → (p.bad = false → e = e') → L.length - p.k ≤ m → L.length - p.k ≤ n →
    Rel L (dotsC rc c.l.length e c).2 (dotsR L rp m e' p).2 ∧ ((dotsR L rp m e' p).2.bad = false → p.bad = false ∧ (dotsC rc c.l.length e c).1 = (dotsR L rp m e' p).1)
  | 0, e, e', c, p, r, _, hm, _ => by have h1 := r.lt; omega
  | m + 1, e, e', c, p, r, hee, hm, hn => by
    rw [dotsC_at (fun e c => (hs e c).length_le), dotsR, r.next]
    cases hi : p.is L [46] with
    | true =>
      simp only [if_true]
      obtain rfl := hee (Pl.is_bad hi).1
      have r1 := r.adv hE hi
      have hk : p.adv.k = p.k + 1 := rfl
      have hlt := r.lt
      obtain ⟨h1, h2⟩ := h e _ _ r1 (by omega)
      have hgo := hg e _ r1.lt
      obtain ⟨h3, h4⟩ := sim_dots hs hg h m (rc e c.adv).1 (rp e p.adv).1 (rc e c.adv).2 (rp e p.adv).2 h1 (fun hb => (h2 hb).2) (by omega) (by omega)
      refine ⟨h3, fun hb => ?_⟩
      obtain ⟨h5, h6⟩ := h4 hb
      exact ⟨(Pl.is_bad hi).1, h6⟩
    | false =>
      simp only [Bool.false_eq_true, if_false]
      exact ⟨r, fun hb => ⟨hb, hee hb⟩⟩
theorem sim_base {tc : Cur → Ty × Cur} {tp : Pl → Ty × Pl} {xc : Cur → Exp × Cur} {xp : Pl → Exp × Pl} {n : Nat} (ht : Sim L tc tp n) (hx : Sim L xc xp n) (c : Cur) (p : Pl) (r : Rel L c p) (hn : L.length - p.k < n + 1) :
    Rel L (baseC tc xc c).2 (baseR L tp xp p).2 ∧ ((baseR L tp xp p).2.bad = false → p.bad = false ∧ (baseC tc xc c).1 = (baseR L tp xp p).1) := by
  unfold baseC baseR
  have r1 := r.name hE
  rw [r1.next, r1.next]
  have hng : ∀ s, (p.name L).is L s = true → (p.name L).k = p.k + 1 := fun s hi => by
    have := Pl.is_bad hi
    unfold Pl.name at this ⊢
    split
    · rfl
    · rename_i hq; rw [if_neg hq] at this; cases this.1
  have hlt := r.lt
  cases hq : ((p.name L).is L [91] || (p.name L).is L [123]) with
  | true =>
    have hk : (p.name L).k = p.k + 1 := by
      rcases Bool.or_eq_true _ _ ▸ hq with h | h <;> exact hng _ h
    simp only [if_true]
    obtain ⟨h1, h2⟩ := sim_targs hE ht c.name (p.name L) r1 (fun h => by
      have h4 : (p.name L).adv.k = (p.name L).k + 1 := rfl
      omega)
    have r2 := h1.must hE [123]
    have hg1 := targsR_lt hE ht.goes _ r1.lt
    have hg2 := Pl.must_lt hE [123] hg1.2
    obtain ⟨h3, h4⟩ := sim_args hE hx [125] _ _ r2 (fun _ => by omega)
    refine ⟨h3, fun hb => ?_⟩
    obtain ⟨h5, h6⟩ := h4 hb
    obtain ⟨h7, h8⟩ := h2 (Pl.must_bad h5).1
    exact ⟨Pl.name_bad h7, by rw [h6, h8, r.nm, r.pos]⟩
  | false =>
    simp only [Bool.false_eq_true, if_false]
    exact ⟨r1, fun hb => ⟨Pl.name_bad hb, by rw [r.nm, r.pos]⟩⟩
theorem sim_expr : ∀ n, Sim L (exprC n) (exprR L n) n
  | 0 => ⟨fun _ _ _ h => absurd h (Nat.not_lt_zero _), exprC_suf 0, exprR_lt hE 0, exprC_err 0⟩
  | n + 1 => by
    have ht := sim_type hE n
    have hx := sim_expr n
    refine ⟨fun c p r hn => ?_, exprC_suf _, exprR_lt hE _, exprC_err _⟩
    obtain ⟨h1, h2⟩ := sim_base hE ht hx c p r hn
    have hg := baseR_lt hE ht.goes hx.goes p r.lt
    obtain ⟨h3, h4⟩ := sim_dots hE (restC_suf ht.suf hx.suf) (restR_lt hE ht.goes hx.goes) (fun e c p r hn => sim_rest hE ht hx e c p r hn)
      (L.length - (baseR L (typeR L n) (exprR L n) p).2.k) (baseC (typeC n) (exprC n) c).1 (baseR L (typeR L n) (exprR L n) p).1 _ _ h1 (fun hb => (h2 hb).2) (Nat.le_refl _) (by have := r.lt; omega)
    refine ⟨h3, fun hb => ?_⟩
    obtain ⟨h5, h6⟩ := h4 hb
    exact ⟨(h2 h5).1, h6⟩
end
end Go.Pv
end

section
/- A drawn region whose last operation comes after all others: that one may see the hints, and whatever else is known by then. Nil slices that are known as such. -/
namespace Go.Pv
open Go

def guardsIn (n : Nat) (l : List Oper) : Bool := l.all fun o => match o.guard with | some (j, _) => decide (j < n) | none => true
def edgesIn : Nat → List Oper → Bool
  | _, [] => true
  | i, o :: r => (edgesOf o).all (fun e => decide (e < i)) && edgesIn (i + 1) r
def lastOk (l : List Oper) (o : Oper) : Bool :=
  guardsIn l.length l && edgesIn 0 (l ++ [o]) && (List.range l.length).all fun i => ((masks (l ++ [o]) []).getD l.length 0).testBit i

theorem edgesIn_spec : ∀ (l : List Oper) (i : Nat), edgesIn i l = true → ∀ (k : Nat) (o : Oper), l[k]? = some o → ∀ e ∈ o.after, Region.binds .any e = true → e.on < i + k
  | [], _, _, k, o, h => by simp at h
  | o' :: r, i, h, k, o, hk => by
    simp only [edgesIn, Bool.and_eq_true] at h
    cases k with
    | zero =>
      simp at hk; subst hk
      intro e he hb
      have := List.all_eq_true.1 h.1 e.on (List.mem_map.2 ⟨e, List.mem_filter.2 ⟨by simpa using he, hb⟩, rfl⟩)
      simpa using this
    | succ k =>
      intro e he hb
      have := edgesIn_spec r (i + 1) h.2 k o (by simpa using hk) e he hb
      omega

section
variable {ops ops' : Array Oper}

theorem ready_nil_all {ops : Array Oper} {listed : Array Bool} (hsz : listed.size = ops.size) (hedge : ∀ (j : Nat) (o : Oper), ops[j]? = some o → ∀ e ∈ o.after, Region.binds .any e = true → e.on < j)
    (h : Region.ready .any ops listed = []) : ∀ i, i < ops.size → listed.getD i false = true := by
  intro i
  induction i using Nat.strongRecOn with
  | _ i ih =>
    intro hi
    cases hl : listed.getD i false with
    | true => rfl
    | false =>
      exfalso
      have hm : i ∈ Region.ready .any ops listed := by
        refine mem_ready.2 ⟨?_, ops[i], by simp [hi], fun e he hb => ?_⟩
        · have : i < listed.size := by omega
          simpa [this] using hl
        · have h1 := hedge i ops[i] (by simp [hi]) e he hb
          exact ih e.on h1 (by omega)
      rw [h] at hm
      cases hm

theorem all_ready_nil {ops : Array Oper} {listed : Array Bool} (hsz : listed.size = ops.size) (h : ∀ i, i < ops.size → listed.getD i false = true) : Region.ready .any ops listed = [] := by
  cases hr : Region.ready .any ops listed with
  | nil => rfl
  | cons i r =>
    exfalso
    have hi : i ∈ Region.ready .any ops listed := by rw [hr]; simp
    obtain ⟨h1, o, ho, _⟩ := mem_ready.1 hi
    have hlt := (Array.getElem?_eq_some_iff.1 ho).1
    have h2 := h i hlt
    have : i < listed.size := by omega
    simp [this] at h1 h2
    rw [h2] at h1
    cases h1

theorem push_getD {l : Array Bool} {i : Nat} (h : i < l.size) (d b : Bool) : (l.push b).getD i d = l.getD i d := by
  simp [Array.getElem?_push, Nat.ne_of_lt h]
theorem push_set {l : Array Bool} {i : Nat} (h : i < l.size) (a b : Bool) : (l.push b).setIfInBounds i a = (l.setIfInBounds i a).push b := by
  apply Array.ext_getElem?
  intro j
  simp only [Array.getElem?_setIfInBounds, Array.getElem?_push, Array.size_push, Array.size_setIfInBounds]
  by_cases hij : i = j
  · subst hij
    simp [h, Nat.lt_succ_of_lt h, Nat.ne_of_lt h]
  · simp [hij]

theorem push_ready {oL : Oper} (hops : ops = ops'.push oL) (hedge : ∀ (j : Nat) (o : Oper), ops[j]? = some o → ∀ e ∈ o.after, Region.binds .any e = true → e.on < j) {listed : Array Bool} (hsz : listed.size = ops'.size) {i : Nat} (hi : i < ops'.size) :
    i ∈ Region.ready .any ops (listed.push false) ↔ i ∈ Region.ready .any ops' listed := by
  have ho : ops[i]? = ops'[i]? := by rw [hops, Array.getElem?_push]; simp [Nat.ne_of_lt hi]
  rw [mem_ready, mem_ready, push_getD (by omega), ho]
  refine and_congr_right fun _ => exists_congr fun o => and_congr_right fun h => ?_
  have hlt : ∀ e ∈ o.after, Region.binds .any e = true → (listed.push false).getD e.on false = listed.getD e.on false := fun e he hb => by
    have := hedge i o (ho.trans h) e he hb
    exact push_getD (by omega) _ _
  constructor
  · intro h e he hb
    rw [← hlt e he hb]; exact h e he hb
  · intro h e he hb
    rw [hlt e he hb]; exact h e he hb

theorem anyA_last {cx : Cx} {ro : Option Nat} {n : Nat} {oL : Oper} {Q : Exit → Act → World → Prop} {K : AS → Prop} (hops : ops = ops'.push oL)
    (hg : ∀ (j : Nat) (o : Oper), ops'[j]? = some o → ∀ i b, o.guard = some (i, b) → i < ops'.size)
    (hedge : ∀ (j : Nat) (o : Oper), ops[j]? = some o → ∀ e ∈ o.after, Region.binds .any e = true → e.on < j)
    (hreach : ∀ i, i < ops'.size → Reach ops ops'.size i)
    (hQ : ∀ σ a w, K σ → R cx σ a w → wpOpIn (Fw ro) n cx.P ops Q ops'.size (fun a w => Q .normal a w) a w) :
    ∀ (fuel : Nat) (listed : Array Bool) (σ : AS) (a : Act) (w : World), listed.size = ops'.size → DC ops (listed.push false) → R cx σ a w → anyA cx.P cx.gl ops' K fuel listed σ →
      wpAnyIn (Fw ro) n cx.P .any ops Q (fuel + 1) (listed.push false) a w := by
  have hsize : ops.size = ops'.size + 1 := by rw [hops]; simp
  have hL : ops[ops'.size]? = some oL := by rw [hops]; simp
  have hedge' : ∀ (j : Nat) (o : Oper), ops'[j]? = some o → ∀ e ∈ o.after, Region.binds .any e = true → e.on < j := fun j o ho => by
    have hlt := (Array.getElem?_eq_some_iff.1 ho).1
    exact hedge j o (by rw [hops, Array.getElem?_push, if_neg (Nat.ne_of_lt hlt)]; exact ho)
  have hguard : ∀ (j : Nat) (o : Oper), ops'[j]? = some o → ∀ σ, guardB ops' o σ = guardB ops o σ := fun j o ho σ => by
    unfold guardB
    cases hgd : o.guard with
    | none => rfl
    | some p =>
      obtain ⟨i, b⟩ := p
      have := hg j o ho i b hgd
      simp only [hops, Array.getElem?_push, if_neg (Nat.ne_of_lt this)]
  -- when only the last one is left
  have hend : ∀ (listed : Array Bool), listed.size = ops'.size → Region.ready .any ops (listed.push false) ≠ [] := by
    intro listed hsz h
    cases hr : Region.ready .any ops' listed with
    | nil =>
      have hall := ready_nil_all hsz hedge' hr
      have hm : ops'.size ∈ Region.ready .any ops (listed.push false) := by
        refine mem_ready.2 ⟨by simp [← hsz], oL, hL, fun e he hb => ?_⟩
        have h1 := hedge _ oL hL e he hb
        rw [push_getD (by omega)]
        exact hall _ h1
      rw [h] at hm; cases hm
    | cons i r =>
      have hi : i ∈ Region.ready .any ops' listed := by rw [hr]; simp
      obtain ⟨_, o, ho, _⟩ := mem_ready.1 hi
      have hlt := (Array.getElem?_eq_some_iff.1 ho).1
      have := (push_ready hops hedge hsz hlt).2 hi
      rw [h] at this; cases this
  have hlast : ∀ (fuel : Nat) (listed : Array Bool) (σ : AS) (a : Act) (w : World), listed.size = ops'.size → (∀ i, i < ops'.size → listed.getD i false = true) → K σ → R cx σ a w →
      wpOpIn (Fw ro) n cx.P ops Q ops'.size (wpAnyIn (Fw ro) n cx.P .any ops Q fuel ((listed.push false).setIfInBounds ops'.size true)) a w := by
    intro fuel listed σ a w hsz hall hk r
    refine wpOpIn_mono (fun a w hq => ?_) (hQ σ a w hk r)
    have hnil : Region.ready .any ops ((listed.push false).setIfInBounds ops'.size true) = [] := by
      refine all_ready_nil (by simp [hsz, hsize]) fun i hi => ?_
      by_cases hil : i = ops'.size
      · subst hil
        simp [← hsz]
      · rw [getD_set_ne false (fun h => hil h.symm), push_getD (by omega)]
        exact hall i (by omega)
    cases fuel with
    | zero => exact ⟨hnil, hq⟩
    | succ m => exact ⟨fun _ => hq, fun i hi => by rw [hnil] at hi; cases hi⟩
  intro fuel
  induction fuel with
  | zero =>
    intro listed σ a w hsz hdc r h
    refine ⟨fun h0 => absurd h0 (hend listed hsz), fun i hi => ?_⟩
    have hall := ready_nil_all hsz hedge' h.1
    obtain ⟨_, o, ho, _⟩ := mem_ready.1 hi
    have hlt := (Array.getElem?_eq_some_iff.1 ho).1
    by_cases hil : i = ops'.size
    · subst hil
      exact hlast 0 listed σ a w hsz hall h.2 r
    · have hm := (push_ready hops hedge hsz (by omega)).1 hi
      rw [h.1] at hm; cases hm
  | succ m ih =>
    intro listed σ a w hsz hdc r h
    refine ⟨fun h0 => absurd h0 (hend listed hsz), fun i hi => ?_⟩
    obtain ⟨_, o, ho, _⟩ := mem_ready.1 hi
    have hlt := (Array.getElem?_eq_some_iff.1 ho).1
    by_cases hil : i = ops'.size
    · subst hil
      have hall : ∀ i, i < ops'.size → listed.getD i false = true := fun i h => by
        have := hdc.ready (hreach i h) hi
        rwa [push_getD (by omega)] at this
      exact hlast (m + 1) listed σ a w hsz hall (h.1 (all_ready_nil hsz hall)) r
    · have hlt' : i < ops'.size := by omega
      have hm := (push_ready hops hedge hsz hlt').1 hi
      obtain ⟨o', ho', hn⟩ := h.2 i hm
      have hoo : ops[i]? = some o' := by rw [hops, Array.getElem?_push, if_neg (Nat.ne_of_lt hlt')]; exact ho'
      have hn2 : nextV cx.P cx.gl ops o' σ (anyA cx.P cx.gl ops' K m (listed.setIfInBounds i true)) := by
        have := nextV_of hn
        unfold nextV at this ⊢
        rw [← hguard i o' ho']
        exact this
      refine wpOpIn_mono (fun a' w' hh => ?_) (opIn_sound (ro := ro) (n := n) (Q := Q) hoo r hn2)
      obtain ⟨σ', hk, r'⟩ := hh
      rw [push_set (by omega)]
      refine ih _ σ' a' w' (by simpa using hsz) ?_ r' hk
      rw [← push_set (by omega)]
      exact hdc.set hi
end

/-- Whatever σ describes, σ' describes too. -/
def Gives (P : Program) (σ σ' : AS) : Prop := ∀ (cx : Cx) (a : Act) (w : World), cx.P = P → R cx σ a w → R cx σ' a w
theorem Gives.refl {P : Program} {σ : AS} : Gives P σ σ := fun _ _ _ _ h => h
theorem Gives.trans {P : Program} {σ1 σ2 σ3 : AS} (h : Gives P σ1 σ2) (k : Gives P σ2 σ3) : Gives P σ1 σ3 := fun cx a w hP r => k cx a w hP (h cx a w hP r)

theorem region_draw_last {cx : Cx} {ro : Option Nat} {n : Nat} {id : Nat} {l : List Oper} {oL : Oper} {Q : Exit → Act → World → Prop} {K : AS → Prop} {σ : AS} {a : Act} {w : World} (b : Bool) (m : List (Nat × Nat)) (hm : cx.P.follows .mixedOrders = true) (hok : lexOkM b m l.toArray = true) (hl : lastOk l oL = true) (him : Iv b m σ)
    (hQ : ∀ s a w, K s → R cx s a w → Q .normal a w) (r : R cx σ a w) (h : RVd cx.P cx.gl l.toArray l { σ with hint := [] } fun s => ∃ s', Gives cx.P { s with hint := σ.hint } s' ∧ nextV cx.P cx.gl (l ++ [oL]).toArray oL s' K) : (Code.region id (l ++ [oL]).toArray true).wpIn (Fw ro) n cx.P Q a w := by
  refine wpIn_region_any hm ?_
  let K0 : AS → Prop := fun s => ∃ s', Gives cx.P { s with hint := σ.hint } s' ∧ nextV cx.P cx.gl (l ++ [oL]).toArray oL s' K
  let K' : AS → Prop := fun s => ∃ s0, Eqv s0 s ∧ K0 s0
  have hK' : ∀ s s', Eqv s s' → K' s → K' s' := fun s s' e ⟨s0, e0, hk⟩ =>
    ⟨s0, ⟨⟨e.ex.1.trans e0.ex.1, e.ex.2.1.trans e0.ex.2.1, e.ex.2.2.trans e0.ex.2.2⟩, e.n.trans e0.n, fun t => (e.tm t).trans (e0.tm t), e.bx.trans e0.bx, e.tb.trans e0.tb, e.sh.trans e0.sh, e0.hint.1, e.hint.2⟩, hk⟩
  have hmono : ∀ (q : List Oper) (s : AS), s.hint = [] → RVd cx.P cx.gl l.toArray q s K0 → RVd cx.P cx.gl l.toArray q s K' := by
    intro q
    induction q with
    | nil => intro s hs h; exact ⟨s, ⟨⟨rfl, rfl, rfl⟩, rfl, fun _ => rfl, rfl, rfl, rfl, hs, hs⟩, h⟩
    | cons o q ih =>
      intro s hs h
      have h2 := eff_hint hs h
      exact nextVd_eqv ⟨⟨rfl, rfl, rfl⟩, rfl, fun _ => rfl, rfl, rfl, rfl, hs, hs⟩ (fun s1 s2 e hk => by
        have h3 := ih s1 hk.1 hk.2
        exact region_draw_sound.RVd_eqv hK' q s1 s2 e h3) h2
  have h' := hmono l _ rfl h
  have hok2 := hok
  simp only [lexOkM, Bool.and_eq_true, Bool.or_eq_true, Bool.not_eq_true'] at hok2
  have hom : OkM b m l.toArray := ⟨hok2.1.1.elim (fun h => .inl (List.isEmpty_iff.1 h)) fun h => .inr fun j o ho => List.all_eq_true.1 h o (List.mem_of_getElem? (by simpa using ho)), hok2.1.2.elim .inl fun h => .inr fun j o ho => List.all_eq_true.1 h o (List.mem_of_getElem? (by simpa using ho))⟩
  have ha := anyA_lex hom hK' l 0 (Array.replicate l.length false) { σ with hint := [] } (by simp) (by simpa using hok2.2) (by simp) (by simp) (fun j hj => by simp at hj; simp [hj]) (fun j o _ hj => by rw [Array.getD_eq_getD_getElem?, Array.getElem?_replicate] at hj; split at hj <;> simp at hj) rfl him h'
  simp only [lastOk, Bool.and_eq_true] at hl
  obtain ⟨⟨hg, he⟩, hr⟩ := hl
  have hedge : ∀ (j : Nat) (o : Oper), ((l ++ [oL]).toArray)[j]? = some o → ∀ e ∈ o.after, Region.binds .any e = true → e.on < j := fun j o ho e hm hb => by
    have := edgesIn_spec (l ++ [oL]) 0 he j o (by simpa using ho) e hm hb
    omega
  have hpush : (l ++ [oL]).toArray = l.toArray.push oL := by simp
  have hs := anyA_last (cx := cx) (ro := ro) (n := n) (Q := Q) (K := K') hpush
    (fun j o ho i b hgd => by
      have := List.all_eq_true.1 hg o (List.mem_of_getElem? (by simpa using ho))
      rw [hgd] at this
      simpa using this) hedge
    (fun i hi => by
      have h1 := List.all_eq_true.1 hr i (by simpa using hi)
      have := masks_spec (ops := (l ++ [oL]).toArray) (l ++ [oL]) [] (by simp) (by simp) l.length i h1
      simpa using this)
    (fun s a w ⟨s0, e0, s', hstr, hn⟩ r => by
      have r1 := hstr cx a w rfl ((r.eqv e0.symm).setHint σ.hint)
      refine wpOpIn_mono (fun a' w' hh => ?_) (opIn_sound (ro := ro) (n := n) (Q := Q) (by simp) r1 hn)
      obtain ⟨σ', hk, r'⟩ := hh
      exact hQ σ' a' w' hk r') l.length (Array.replicate l.length false) _ a _ (by simp)
    (fun j o ho hj => by
      rw [Array.getD_eq_getD_getElem?, Array.getElem?_push, Array.getElem?_replicate] at hj
      split at hj <;> first | (simp at hj; done) | (split at hj <;> simp at hj)) ((r.setHint []).drew (w.drawn + 1)) ha
  have e1 : (Array.replicate l.length false).push false = Array.replicate ((l ++ [oL]).toArray).size false := by
    simp [Array.replicate_succ]
  rw [← e1]
  simpa using hs

section
variable {P : Program} {gl : Gl} {σ : AS} {Q : Exit → AS → Prop}

theorem AT_str {c : Code} {σ' : AS} (hs : Gives P σ σ') (h : AT P gl c σ' Q) : AT P gl c σ Q := fun cx ro n a w hP hg hro r => h cx ro n a w hP hg hro (hs cx a w hP r)

theorem AT_draw_last {id : Nat} {l : List Oper} {oL : Oper} (b : Bool) (m : List (Nat × Nat)) (hm : P.follows .mixedOrders = true) (hok : lexOkM b m l.toArray = true) (hl : lastOk l oL = true) (him : Iv b m σ)
    (h : RVd P gl l.toArray l { σ with hint := [] } fun s => ∃ s', Gives P { s with hint := σ.hint } s' ∧ nextV P gl (l ++ [oL]).toArray oL s' (Q .normal)) : AT P gl (.region id (l ++ [oL]).toArray true) σ Q := by
  intro cx ro n a w hP hg hro r
  subst hP; subst hg
  exact region_draw_last (K := Q .normal) b m hm hok hl him (fun s a w hk r => ⟨s, hk, r⟩) r h

/-- A drawn region whose last operation sees the hints. -/
theorem AT_seq_draw_last {id : Nat} {l : List Oper} {y : Code} (hne : l ≠ []) (b : Bool) (m : List (Nat × Nat)) (hm : P.follows .mixedOrders = true) (hok : lexOkM b m l.dropLast.toArray = true) (hl : lastOk l.dropLast (l.getLast hne) = true) (him : Iv b m σ)
    (h : ∀ K : AS → Prop, (∀ s s', Gives P { s with hint := σ.hint } s' → (∀ K2 : AS → Prop, (∀ s, AT P gl y s Q → K2 s) → RV P gl l.toArray [l.getLast hne] s' K2) → K s) → RVd P gl l.dropLast.toArray l.dropLast { σ with hint := [] } K) : AT P gl (.seq (.region id l.toArray true) y) σ Q := by
  have e : l.dropLast ++ [l.getLast hne] = l := List.dropLast_concat_getLast hne
  have := AT_draw_last (Q := thenA (fun s => AT P gl y s Q) Q) (id := id) b m hm hok hl him (h _ fun s s' hs hn => ⟨s', hs, by
    have h2 := hn _ (fun _ h => h)
    rw [e]
    exact h2⟩)
  rw [e] at this
  exact AT_seq this
end

/-! ### Nil slices -/
def nilled (l : List AV) (ns : List Nat) : List AV := ns.foldl (fun l n => l.set n .nilS) l
attribute [simp] nilled

theorem rep_nilS {lim : Lim} {h : Array Obj} {v : Value} (r : Rep lim h v .nilS) : v = .slice none 0 0 := by cases r; rfl

theorem nilled_rep {lim : Lim} {h : Array Obj} {vs : List Value} : ∀ (ns : List Nat) (l : List AV), RepL lim h vs l → (∀ j ∈ ns, vs[j]? = some (.slice none 0 0)) → RepL lim h vs (nilled l ns)
  | [], l, r, _ => r
  | n :: ns, l, r, hn => by
    refine nilled_rep ns (l.set n .nilS) ?_ (fun j hj => hn j (List.mem_cons_of_mem _ hj))
    have h1 := hn n (List.mem_cons_self ..)
    have e : vs.set n (.slice none 0 0) = vs := by
      apply List.ext_getElem?
      intro i
      rw [List.getElem?_set]
      split
      · rename_i he; subst he
        obtain ⟨h2, -⟩ := List.getElem?_eq_some_iff.1 h1
        rw [if_pos h2, h1]
      · rfl
    have := r.set n (x := .nilS) .nilS
    rwa [e] at this

theorem R.nilled {cx : Cx} {σ : AS} {a : Act} {w : World} (h : R cx σ a w) {t : Nat} {l : List AV} {ns : List Nat} (hl : look t σ.tm = some (.bld l ns)) : R cx { σ with tm := (t, .v (.agg (Pv.nilled l ns)) none) :: σ.tm } a w := by
  obtain ⟨gh, r⟩ := h
  have hu : ∀ {g e}, AS.uses { σ with tm := (t, .v (.agg (Pv.nilled l ns)) none) :: σ.tm } g e → σ.uses g e := by
    rintro g e (⟨s, y, h⟩ | h)
    · simp only [look] at h
      split at h
      · injection h with h; cases h
      · exact .inl ⟨s, y, h⟩
    · exact .inr h
  refine ⟨gh, { frm := r.frm, base := r.base, limB := r.limB, size := r.size, ex := r.ex.sub (fun s q p hq => ?_) rfl rfl, gl := r.gl, tmps := fun s y hy => ?_, boxes := r.boxes, inj := r.inj, shs := r.shs, apart := r.apart, tbs := r.tbs, own := fun g e h => r.own g e (hu h), alone := fun g e g' e' h h' => r.alone g e g' e' (hu h) (hu h') }⟩
  · simp only [look] at hq
    split at hq
    · cases hq
    · exact hq
  · simp only [look] at hy
    split at hy
    · rename_i he; subst he
      injection hy with hy; subst hy
      have h1 := (r.tmps t _ hl).1
      obtain ⟨cs, hv, hr⟩ := Rep.agg_iff.1 h1.1
      refine ⟨⟨Rep.agg_iff.2 ⟨cs, hv, nilled_rep ns l hr fun j hj => ?_⟩, by simp⟩, fun k off hk => by cases hk⟩
      have := h1.2 j hj
      rw [hv] at this
      simpa [Value.cells] using this
    · exact r.tmps s y hy

theorem R.openN {cx : Cx} {σ : AS} {a : Act} {w : World} (h : R cx σ a w) (k j e : Nat) {cells : List AV} (hk : look k σ.bx = some cells) (hj : cells[j]? = some .nilS) (hu : σ.usesB (gid k j) = false) :
    R cx { σ with bx := (k, cells.set j (.slice [])) :: σ.bx, tb := (k, j, gid k j, e) :: σ.tb } a w := by
  obtain ⟨gh, r⟩ := h
  have hlk : ∀ k', (look k' ((k, cells.set j (.slice [])) :: σ.bx)).isSome = (look k' σ.bx).isSome := by
    intro k'
    simp only [look]
    split
    · rename_i h; subst h; rw [hk]; rfl
    · rfl
  obtain ⟨hB, hlim, cs, ee, hcs, hrep⟩ := r.boxes k cells hk
  obtain ⟨v, hv, hrv⟩ := hrep.get hj
  obtain rfl := rep_nilS hrv
  have hset : cs.toList.set j (.slice none 0 0) = cs.toList := by
    apply List.ext_getElem?
    intro i
    rw [List.getElem?_set]
    split
    · rename_i he; subst he
      obtain ⟨h2, -⟩ := List.getElem?_eq_some_iff.1 hv
      rw [if_pos h2, hv]
    · rfl
  have r1 : RR cx gh { σ with bx := (k, cells.set j (.slice [])) :: σ.bx } a w := by
    refine { frm := r.frm, base := r.base, limB := r.limB, size := r.size, ex := r.ex.sub (fun _ _ _ h => h) rfl rfl, gl := r.gl, tmps := fun t x hx => ⟨(r.tmps t x hx).1, fun k' o h => by rw [hlk]; exact (r.tmps t x hx).2 k' o h⟩, boxes := fun k' c hc => ?_, inj := fun k1 k2 h1 h2 => by rw [hlk] at h1 h2; exact r.inj k1 k2 h1 h2, shs := r.shs, apart := fun b k' h1 h2 => by rw [hlk] at h2; exact r.apart b k' h1 h2, tbs := fun k' i g e h => ⟨by rw [hlk]; exact (r.tbs k' i g e h).1, (r.tbs k' i g e h).2⟩, own := fun g e h => ⟨(r.own g e h).1, fun b hb => ⟨fun k' h' => by rw [hlk] at h'; exact ((r.own g e h).2 b hb).1 k' h', ((r.own g e h).2 b hb).2⟩⟩, alone := r.alone }
    simp only [look] at hc
    split at hc
    · rename_i he; subst he
      injection hc with hc; subst hc
      have := hrep.set j (x := .slice []) (.slice0 none 0)
      rw [hset] at this
      exact ⟨hB, hlim, cs, ee, hcs, this⟩
    · exact r.boxes k' c hc
  obtain ⟨gh', r2⟩ := RR.openB k [(gid k j, e)] [j] _ gh r1 (by simp [look]) (fun i hi => by
    simp at hi; subst hi
    show cellAt w.heap (gh.bl k) i = _
    unfold cellAt
    rw [hcs]
    simpa using hv)
  refine ⟨gh', ?_⟩
  have hu' : AS.usesB { σ with bx := (k, cells.set j (.slice [])) :: σ.bx } (gid k j) = false := hu
  simpa [AS.openB, look, hu'] using r2

/-- A box's cell read as less. -/
theorem R.recell {cx : Cx} {σ : AS} {a : Act} {w : World} (h : R cx σ a w) (k j : Nat) {x y : AV} {cells : List AV} (hk : look k σ.bx = some cells) (hj : cells[j]? = some x) (hxy : ∀ (lim : Lim) (h : Array Obj) (v : Value), Rep lim h v x → Rep lim h v y) :
    R cx { σ with bx := (k, cells.set j y) :: σ.bx } a w := by
  obtain ⟨gh, r⟩ := h
  have hlk : ∀ k', (look k' ((k, cells.set j y) :: σ.bx)).isSome = (look k' σ.bx).isSome := by
    intro k'
    simp only [look]
    split
    · rename_i h; subst h; rw [hk]; rfl
    · rfl
  obtain ⟨hB, hlim, cs, ee, hcs, hrep⟩ := r.boxes k cells hk
  obtain ⟨v, hv, hrv⟩ := hrep.get hj
  have hset : cs.toList.set j v = cs.toList := by
    apply List.ext_getElem?
    intro i
    rw [List.getElem?_set]
    split
    · rename_i he; subst he
      obtain ⟨h2, -⟩ := List.getElem?_eq_some_iff.1 hv
      rw [if_pos h2, hv]
    · rfl
  refine ⟨gh, { frm := r.frm, base := r.base, limB := r.limB, size := r.size, ex := r.ex.sub (fun _ _ _ h => h) rfl rfl, gl := r.gl, tmps := fun t x hx => ⟨(r.tmps t x hx).1, fun k' o h => by rw [hlk]; exact (r.tmps t x hx).2 k' o h⟩, boxes := fun k' c hc => ?_, inj := fun k1 k2 h1 h2 => by rw [hlk] at h1 h2; exact r.inj k1 k2 h1 h2, shs := r.shs, apart := fun b k' h1 h2 => by rw [hlk] at h2; exact r.apart b k' h1 h2, tbs := fun k' i g e h => ⟨by rw [hlk]; exact (r.tbs k' i g e h).1, (r.tbs k' i g e h).2⟩, own := fun g e h => ⟨(r.own g e h).1, fun b hb => ⟨fun k' h' => by rw [hlk] at h'; exact ((r.own g e h).2 b hb).1 k' h', ((r.own g e h).2 b hb).2⟩⟩, alone := r.alone }⟩
  simp only [look] at hc
  split at hc
  · rename_i he; subst he
    injection hc with hc; subst hc
    have := hrep.set j (hxy _ _ _ hrv)
    rw [hset] at this
    exact ⟨hB, hlim, cs, ee, hcs, this⟩
  · exact r.boxes k' c hc
theorem Gives.weakX {P : Program} {σ : AS} (k j : Nat) {l : List (List AV)} {cells : List AV} (hk : look k σ.bx = some cells) (hj : cells[j]? = some (.slX l)) :
    Gives P σ { σ with bx := (k, cells.set j (.slice l)) :: σ.bx } := fun _ _ _ _ r => r.recell k j hk hj fun _ _ _ h => by obtain ⟨_, _, h2⟩ := h.slX_inv; exact h2
theorem Gives.nilled {P : Program} {σ : AS} (t : Nat) {l : List AV} {ns : List Nat} (hl : look t σ.tm = some (.bld l ns)) : Gives P σ { σ with tm := (t, .v (.agg (Pv.nilled l ns)) none) :: σ.tm } := fun _ _ _ _ r => r.nilled hl
theorem Gives.openN {P : Program} {σ : AS} (k j e : Nat) {cells : List AV} (hk : look k σ.bx = some cells) (hj : cells[j]? = some .nilS) (hu : σ.usesB (gid k j) = false) :
    Gives P σ { σ with bx := (k, cells.set j (.slice [])) :: σ.bx, tb := (k, j, gid k j, e) :: σ.tb } := fun _ _ _ _ r => r.openN k j e hk hj hu

end Go.Pv
end

section
/- A drawn region by all its orders. Shared objects: calls of methods, objects that a function makes. -/
namespace Go.Pv
open Go

section
variable {P : Program} {gl : Gl} {ops : Array Oper} {Q : Exit → AS → Prop} {σ : AS}

def ANY (P : Program) (gl : Gl) (ops : Array Oper) (Q : Exit → AS → Prop) (fuel : Nat) (listed : Array Bool) (σ : AS) : Prop :=
  ∀ (cx : Cx) (ro : Option Nat) (n : Nat) (a : Act) (w : World), cx.P = P → cx.gl = gl → (gl.rnd = false → ro = none) → R cx σ a w →
    wpAnyIn (Fw ro) n P .any ops (fun e a' w' => ∃ σ', Q e σ' ∧ R cx σ' a' w') fuel listed a w

theorem AT_any {id : Nat} (hm : P.follows .mixedOrders = true) (h : ANY P gl ops Q ops.size (Array.replicate ops.size false) σ) : AT P gl (.region id ops true) σ Q := by
  intro cx ro n a w hP hg hro r
  exact wpIn_region_any hm (h cx ro n a _ hP hg hro (r.drew (w.drawn + 1)))

theorem ANY_done {listed : Array Bool} {fuel : Nat} (hr : Region.ready .any ops listed = []) (h : Q .normal σ) : ANY P gl ops Q fuel listed σ :=
  fun _ _ _ _ _ _ _ _ r => wpAnyIn_done hr ⟨σ, h, r⟩ fuel

def AnyAll (P : Program) (gl : Gl) (ops : Array Oper) (Q : Exit → AS → Prop) (fuel : Nat) (listed : Array Bool) (σ : AS) (rs : List Nat) : Prop :=
  ∀ i ∈ rs, ∃ o, ops[i]? = some o ∧ nextV P gl ops o σ fun s => ANY P gl ops Q fuel (listed.setIfInBounds i true) s

theorem AnyAll.nil {listed : Array Bool} {fuel : Nat} : AnyAll P gl ops Q fuel listed σ [] := fun _ h => by cases h
theorem AnyAll.cons {listed : Array Bool} {fuel i : Nat} {rs : List Nat} {o : Oper} (ho : ops[i]? = some o) (h : ∀ K : AS → Prop, (∀ s, ANY P gl ops Q fuel (listed.setIfInBounds i true) s → K s) → RV P gl ops [o] σ K) (hs : AnyAll P gl ops Q fuel listed σ rs) :
    AnyAll P gl ops Q fuel listed σ (i :: rs) := fun j hj => by
  rcases List.mem_cons.1 hj with rfl | hj
  · exact ⟨o, ho, h _ fun _ h => h⟩
  · exact hs j hj

theorem ANY_ready {listed : Array Bool} {fuel : Nat} (rs : List Nat) (hr : Region.ready .any ops listed = rs) (hne : rs ≠ []) (h : AnyAll P gl ops Q fuel listed σ rs) : ANY P gl ops Q (fuel + 1) listed σ := by
  intro cx ro n a w hP hg hro r
  refine wpAnyIn_all hr hne fun i hi => ?_
  obtain ⟨o, ho, hn⟩ := h i hi
  subst hP; subst hg
  refine wpOpIn_mono (fun a' w' hh => ?_) (opIn_sound (ro := ro) (n := n) ho r hn)
  obtain ⟨σ', hk, r'⟩ := hh
  exact hk cx ro n a' w' rfl rfl hro r'

/-- A move, or a field's address in a box, goes first. -/
theorem ANY_take {listed : Array Bool} {fuel : Nat} (i : Nat) {o : Oper} {x : TV} (hy : gl.rnd = false) (hQ : ∀ c s, ¬ Q (.panic c) s) (ho : ops[i]? = some o) (hg : o.guard = none) (hd : dstOk P o σ = true)
    (hv : (∃ y, o.op = .move y ∧ x = ev gl σ y) ∨ ∃ t y f k off j, o.op = .fieldAddr t y f ∧ ev gl σ y = .lp k off ∧ foff P t f = some j ∧ x = .lp k (off + j))
    (hs : Region.noSelect ops = true) (hf : Region.free .any ops listed i = true) (hr : (Region.ready .any ops listed).contains i = true)
    (h : ANY P gl ops Q fuel (listed.setIfInBounds i true) (σ.put o.dst x)) : ANY P gl ops Q (fuel + 1) listed σ := by
  intro cx ro n a w hP hgl hro r
  subst hP; subst hgl
  obtain rfl := hro hy
  obtain ⟨gh, r⟩ := r
  have hw : Region.wanted o (yielded ops a.tmps) = true := by unfold Region.wanted; rw [hg]
  have hd' := dst_of hd
  rcases hv with ⟨y, hop, rfl⟩ | ⟨t, y, f, k, off, j, hop, hy, hj, rfl⟩
  · refine wpAnyIn_take (v := a.eval y) rfl ho hs hf hr (fun c a w hq => ?_) ⟨.inl ⟨hw, fun w => by simp [execOp, hop]⟩, fun w => by simp [Oper.about, hop]⟩ ?_
    · obtain ⟨s, hq, -⟩ := hq; exact absurd hq (hQ c s)
    · exact h cx none n _ w rfl rfl (fun _ => rfl) ⟨gh, r.put o.dst hd' (ev_nit _ _ _) (r.ev y) (fun k off h => r.ev_lp y h) fun z g e h => r.ev_uses y h⟩
  · have hx := r.ev y
    rw [hy] at hx
    refine wpAnyIn_take (v := .pointer (some ⟨gh.bl k, off + j, none⟩)) rfl ho hs hf hr (fun c a w hq => ?_) ⟨.inl ⟨hw, fun w => ?_⟩, fun w => by simp [Oper.about, hop]⟩ ?_
    · obtain ⟨s, hq, -⟩ := hq; exact absurd hq (hQ c s)
    · have he : execOp a.eval o = (do pure (.value (← Instr.fieldAt t (a.eval y) f))) := by simp [execOp, hop]
      rw [he, show a.eval y = .pointer (some ⟨gh.bl k, off, none⟩) from hx]
      simp [run_fieldAt hj w]
    · exact h cx none n _ w rfl rfl (fun _ => rfl) ⟨gh, r.put o.dst hd' rfl rfl (fun k' o' h => by injection h with e1 e2; subst e1; exact r.ev_lp y hy) (by simp)⟩

/-- A drawn region by all its orders, then what follows; J: what is left of the state. -/
theorem AT_seq_any {id : Nat} {l : List Oper} {y : Code} (ts bs : List Nat) (J : AS → Prop) (hm : P.follows .mixedOrders = true)
    (h : ∀ K : Exit → AS → Prop, (∀ s, lpOk (pick bs s.bx) (pick ts s.tm) = true → J (s.keep ts bs) → K .normal s) → (∀ c s, ¬ K (.panic c) s) → ANY P gl l.toArray K l.length (Array.replicate l.length false) σ) (hy : ∀ s, J s → AT P gl y s Q) : AT P gl (.seq (.region id l.toArray true) y) σ Q := by
  refine AT_seq ?_
  have := AT_any (id := id) (ops := l.toArray) hm (by
    have := h (fun e s => match e with | .normal => AT P gl y s Q | _ => False) (fun s hok hj => AT_keep ts bs hok (hy _ hj)) (fun c s h => h)
    simpa using this)
  exact AT_mono this fun e s hs => by cases e <;> first | exact hs | exact hs.elim
end

/-! ### Shared objects -/
section
variable {P : Program} {gl : Gl}

/-- A method of the object b. -/
def ValidC (P : Program) (gl : Gl) (f : FuncId) (args : List AV) (b : Nat) (c : List AV) (r : AV) (c' : List AV) : Prop :=
  ValidH P gl f (.gp b 0 :: args) [(b, c)] fun r' sh' => r' = r ∧ sh' = [(b, c')]

theorem validC_of {f : FuncId} {fn : Func} {cd : Code} {args : List AV} {b : Nat} {c c' : List AV} {r : AV} (hint : List (Nat × Nat)) (hf : P.funcs[f]? = some fn) (hb : fn.body = some cd) (hok : fnOk P f = true)
    (h : AT P gl cd (entry fn (.gp b 0 :: args) [(b, c)] hint) (done P fn fun r' s => r' = r ∧ look b s.sh = some c')) (hy : gl.y = none := by rfl) : ValidC P gl f args b c r c' := by
  refine validH_of hint hf hb hok (AT_mono h fun e s hs => ?_) hy
  have key : (∃ r', resOk P fn s r' ∧ r' = r ∧ look b s.sh = some c') → ∃ r', resOk P fn s r' ∧ ∃ sh', (∀ b' cl, look b' sh' = some cl → look b' s.sh = some cl) ∧ (∀ b', (look b' [(b, c)]).isSome = true → (look b' sh').isSome = true) ∧ r' = r ∧ sh' = [(b, c')] :=
    fun ⟨r', h1, h2, h3⟩ => ⟨r', h1, [(b, c')], fun b' cl h => (by
      simp only [look] at h
      split at h
      · rename_i he; subst he; injection h with h; subst h; exact h3
      · cases h), fun b' h => (by
      simp only [look] at h ⊢
      split
      · rfl
      · rename_i hne; simp [hne] at h), h2, rfl⟩
  cases e with
  | normal => exact key hs
  | ret => exact key hs
  | exit id => exact hs
  | goto l => exact hs
  | panic ch => exact hs
  | outgrown => exact hs

theorem callV_C {f : FuncId} {args : List AV} {σ : AS} {d : Option Nat} {K : AS → Prop} {b : Nat} {c c' : List AV} {r : AV} (hy : gl.y = none) (h : ValidC P gl f args b c r c') (hsh : σ.sh = [(b, c)]) (k : K ({ σ with sh := [(b, c')] }.put d (.v r none))) : callV P gl f (.gp b 0 :: args) σ d K :=
  .inl ⟨hy, [(b, c)], _, id, ⟨fun sh' b' c' h => by rw [look_append]; rw [show look b' sh' = some c' from h]; rfl, fun b' c' h => by rw [hsh]; exact h⟩, h, fun r' sh' hp => by obtain ⟨rfl, rfl⟩ := hp; exact k⟩

/-- A function that makes an object. -/
def ValidN (P : Program) (gl : Gl) (f : FuncId) (args : List AV) (c : List AV) : Prop :=
  ValidH P gl f args [] fun r sh' => ∃ b, r = .gp b 0 ∧ sh' = [(b, c)]

theorem callV_N {f : FuncId} {args : List AV} {σ : AS} {d : Option Nat} {K : AS → Prop} {c : List AV} (hy : gl.y = none) (h : ValidN P gl f args c) (k : ∀ b, K ({ σ with sh := [(b, c)] }.put d (.v (.gp b 0) none))) : callV P gl f args σ d K :=
  .inl ⟨hy, [], _, id, ⟨fun sh' b' c' h => by rw [look_append]; rw [show look b' sh' = some c' from h]; rfl, fun b' c' h => by cases h⟩, h, fun r' sh' hp => by obtain ⟨b, rfl, rfl⟩ := hp; exact k b⟩

def TV.esc (k b : Nat) : TV → TV
  | .lp k' o => if k' = k then .v (.gp b o) none else .lp k' o
  | x => x
def AS.esc (σ : AS) (k b : Nat) (cells : List AV) : AS := { σ with tm := σ.tm.map fun p => (p.1, p.2.esc k b), bx := σ.bx.filter fun p => !(p.1 == k), sh := (b, cells) :: σ.sh }

theorem look_map_esc {k b t : Nat} : ∀ (tm : List (Nat × TV)), look t (tm.map fun p => (p.1, p.2.esc k b)) = (look t tm).map (·.esc k b)
  | [] => rfl
  | (j, x) :: r => by
    simp only [List.map_cons, look]
    split
    · rfl
    · exact look_map_esc r
theorem look_filter_ne {α : Type} {k k' : Nat} (h : k' ≠ k) : ∀ (l : List (Nat × α)), look k' (l.filter fun p => !(p.1 == k)) = look k' l
  | [] => rfl
  | (j, x) :: r => by
    by_cases hj : j = k
    · subst hj
      simp only [List.filter_cons, BEq.rfl, Bool.not_true, Bool.false_eq_true, if_false, look, if_neg (Ne.symm h)]
      exact look_filter_ne h r
    · have hj' : (j == k) = false := by simpa using hj
      simp only [List.filter_cons, hj', Bool.not_false, if_true, look]
      split
      · rfl
      · exact look_filter_ne h r
theorem look_filter_eq {α : Type} {k : Nat} : ∀ (l : List (Nat × α)), look k (l.filter fun p => !(p.1 == k)) = none
  | [] => rfl
  | (j, x) :: r => by
    by_cases hj : j = k
    · subst hj
      simp only [List.filter_cons, BEq.rfl, Bool.not_true, Bool.false_eq_true, if_false]
      exact look_filter_eq r
    · have hj' : (j == k) = false := by simpa using hj
      simp only [List.filter_cons, hj', Bool.not_false, if_true, look, if_neg hj]
      exact look_filter_eq r

theorem RR.esc {cx : Cx} {gh : Gh} {σ : AS} {a : Act} {w : World} (r : RR cx gh σ a w) {k : Nat} {cells : List AV} (hk : look k σ.bx = some cells) (htb : (σ.tb.all fun q => !(q.1 == k)) = true) (hcl : noClP k σ.tm) :
    RR cx gh (σ.esc k (gh.bl k) cells) a w := by
  have hks : (look k σ.bx).isSome = true := by simp [hk]
  have hne : ∀ {k'}, (look k' (σ.esc k (gh.bl k) cells).bx).isSome = true → k' ≠ k ∧ (look k' σ.bx).isSome = true := by
    intro k' h
    by_cases he : k' = k
    · subst he
      rw [show (σ.esc k' (gh.bl k') cells).bx = σ.bx.filter fun p => !(p.1 == k') from rfl, look_filter_eq] at h; cases h
    · rw [show (σ.esc k (gh.bl k) cells).bx = σ.bx.filter fun p => !(p.1 == k) from rfl, look_filter_ne he] at h
      exact ⟨he, h⟩
  have hin : ∀ {k'}, k' ≠ k → look k' (σ.esc k (gh.bl k) cells).bx = look k' σ.bx := fun he => look_filter_ne he _
  have hu : ∀ {g e}, AS.uses (σ.esc k (gh.bl k) cells) g e → σ.uses g e := by
    rintro g e (⟨t, x, h⟩ | h)
    · rw [show (σ.esc k (gh.bl k) cells).tm = σ.tm.map fun p => (p.1, p.2.esc k (gh.bl k)) from rfl, look_map_esc] at h
      obtain ⟨y, hy, he⟩ := Option.map_eq_some_iff.1 h
      cases y with
      | lp k' o => simp only [TV.esc] at he; split at he <;> simp at he
      | v z g' => simp only [TV.esc] at he; rw [he] at hy; exact .inl ⟨t, x, hy⟩
      | un => cases he
      | bld l ns => cases he
      | it s p => cases he
      | cl f ks => cases he
    · exact .inr h
  obtain ⟨hB, hbox⟩ := r.boxes k cells hk
  refine { frm := r.frm, base := r.base, limB := r.limB, size := r.size, ex := r.ex.sub (fun t s p hq => ?_) rfl rfl, gl := r.gl, tmps := fun t x hx => ?_, boxes := fun k' c hc => ?_, inj := fun k1 k2 h1 h2 => r.inj k1 k2 (hne h1).2 (hne h2).2, shs := fun b c hb => ?_, apart := fun b k' h1 h2 => ?_, tbs := fun k' j g e hq => ?_, own := fun g e h => ?_, alone := fun g e g' e' h h' => r.alone g e g' e' (hu h) (hu h') }
  · rw [show (σ.esc k (gh.bl k) cells).tm = σ.tm.map fun p => (p.1, p.2.esc k (gh.bl k)) from rfl, look_map_esc] at hq
    obtain ⟨y, hy, he⟩ := Option.map_eq_some_iff.1 hq
    cases y with
    | lp k' o => simp only [TV.esc] at he; split at he <;> cases he
    | it s' p' => simp only [TV.esc] at he; rw [he] at hy; exact hy
    | v z g' => cases he
    | un => cases he
    | bld l ns => cases he
    | cl f ks => cases he
  · rw [show (σ.esc k (gh.bl k) cells).tm = σ.tm.map fun p => (p.1, p.2.esc k (gh.bl k)) from rfl, look_map_esc] at hx
    obtain ⟨y, hy, rfl⟩ := Option.map_eq_some_iff.1 hx
    have h1 := r.tmps t y hy
    cases y with
    | lp k' o =>
      simp only [TV.esc]
      by_cases he : k' = k
      · subst he
        rw [if_pos rfl]
        have h2 : a.tmps.getD t undef = .pointer (some ⟨gh.bl k', o, none⟩) := h1.1
        refine ⟨⟨?_, by simp⟩, fun k2 off h => by cases h⟩
        rw [h2]; exact .gp _ _
      · rw [if_neg he]
        refine ⟨h1.1, fun k2 off h => ?_⟩
        injection h with e1 e2; subst e1
        rw [hin he]; exact h1.2 k' o rfl
    | v z g' => exact ⟨h1.1, fun k2 off h => by cases h⟩
    | un => exact ⟨h1.1, fun k2 off h => by cases h⟩
    | bld l ns => exact ⟨h1.1, fun k2 off h => by cases h⟩
    | it s p => exact ⟨h1.1, fun k2 off h => by cases h⟩
    | cl f ks => exact ⟨h1.1, fun k2 off h => by cases h⟩
  · have hn := hne (k' := k') (by rw [hc]; rfl)
    rw [hin hn.1] at hc
    exact r.boxes k' c hc
  · rw [show (σ.esc k (gh.bl k) cells).sh = (gh.bl k, cells) :: σ.sh from rfl] at hb
    simp only [look] at hb
    split at hb
    · rename_i he; subst he
      injection hb with hb; subst hb
      exact ⟨.inr hB, hbox⟩
    · exact r.shs b c hb
  · have hn := hne h2
    rw [show (σ.esc k (gh.bl k) cells).sh = (gh.bl k, cells) :: σ.sh from rfl] at h1
    simp only [look] at h1
    split at h1
    · rename_i he; subst he
      exact fun h => hn.1 (r.inj k' k hn.2 hks h)
    · exact r.apart b k' h1 hn.2
  · have hq' : (k', j, g, e) ∈ σ.tb := hq
    have h1 := r.tbs k' j g e hq'
    have hkk : k' ≠ k := by
      have := List.all_eq_true.1 htb _ hq'
      simpa using this
    exact ⟨by rw [hin hkk]; exact h1.1, h1.2⟩
  · have h1 := r.own g e (hu h)
    refine ⟨h1.1, fun b hb => ⟨fun k' hk' => (h1.2 b hb).1 k' (hne hk').2, ?_⟩⟩
    rw [show (σ.esc k (gh.bl k) cells).sh = (gh.bl k, cells) :: σ.sh from rfl]
    simp only [look]
    rw [if_neg ((h1.2 b hb).1 k hks)]
    exact (h1.2 b hb).2

/-- A box leaves the activation: from here on it is an object that others may hold. -/
theorem AT_esc {σ : AS} {Q : Exit → AS → Prop} {c : Code} (k : Nat) {cells : List AV} (hk : look k σ.bx = some cells) (htb : (σ.tb.all fun q => !(q.1 == k)) = true) (hcl : noClP k σ.tm) (h : ∀ b, AT P gl c (σ.esc k b cells) Q) : AT P gl c σ Q := by
  intro cx ro n a w hP hg hro r
  obtain ⟨gh, r⟩ := r
  exact h (gh.bl k) cx ro n a w hP hg hro ⟨gh, r.esc hk htb hcl⟩
end
attribute [simp] TV.esc AS.esc

theorem validN_of {P : Program} {gl : Gl} {f : FuncId} {fn : Func} {cd : Code} {args : List AV} {c : List AV} (hint : List (Nat × Nat)) (hf : P.funcs[f]? = some fn) (hb : fn.body = some cd) (hok : fnOk P f = true)
    (h : AT P gl cd (entry fn args [] hint) (done P fn fun r' s => ∃ b, r' = .gp b 0 ∧ look b s.sh = some c)) (hy : gl.y = none := by rfl) : ValidN P gl f args c := by
  refine validH_of hint hf hb hok (AT_mono h fun e s hs => ?_) hy
  have key : (∃ r', resOk P fn s r' ∧ ∃ b, r' = .gp b 0 ∧ look b s.sh = some c) → ∃ r', resOk P fn s r' ∧ ∃ sh', (∀ b' cl, look b' sh' = some cl → look b' s.sh = some cl) ∧ (∀ b', (look b' ([] : List (Nat × List AV))).isSome = true → (look b' sh').isSome = true) ∧ ∃ b, r' = .gp b 0 ∧ sh' = [(b, c)] :=
    fun ⟨r', h1, b, h2, h3⟩ => ⟨r', h1, [(b, c)], fun b' cl h => (by
      simp only [look] at h
      split at h
      · rename_i he; subst he; injection h with h; subst h; exact h3
      · cases h), fun b' h => (by cases h), b, h2, rfl⟩
  cases e with
  | normal => exact key hs
  | ret => exact key hs
  | exit id => exact hs
  | goto l => exact hs
  | panic ch => exact hs
  | outgrown => exact hs

end Go.Pv
end

import Derived.Test.YtpjkdaechknogaaGreatDoorPvMa
import Derived.Test.YtpjkdaechknogaaGreatDoorPvX
import Derived.Test.YtpjkdaechknogaaGreatDoorPvLa
set_option linter.all false
section
/- Expressions handed out one by one; which one comes first. -/
namespace Go.Pv
open Go

theorem map_inj_on {α β : Type} {f : α → β} : ∀ {a b : List α}, (∀ x ∈ a, ∀ y, f x = f y → x = y) → a.map f = b.map f → a = b
  | [], [], _, _ => rfl
  | [], _ :: _, _, h => by simp at h
  | _ :: _, [], _, h => by simp at h
  | x :: a, y :: b, hx, h => by
    simp only [List.map_cons, List.cons.injEq] at h
    rw [hx x (by simp) y h.1, map_inj_on (fun z hz => hx z (by simp [hz])) h.2]
theorem encTy_inj : ∀ t u : Ty, encTy t = encTy u → t = u := by
  intro t
  induction t using Ty.ind with
  | h n ts p ih =>
    intro u h
    obtain ⟨m, us, q⟩ := u
    rw [encTy_mk, encTy_mk] at h
    simp only [List.cons.injEq, AV.str.injEq, AV.slice.injEq, AV.int.injEq, true_and, and_true] at h
    obtain ⟨rfl, h2, rfl⟩ := h
    rw [map_inj_on (fun x hx y => ih x hx y) h2]
theorem encE_inj : ∀ e f : Exp, encE e = encE f → e = f := by
  intro e
  induction e using Exp.ind with
  | h k n t a l p ih =>
    intro f h
    obtain ⟨k2, n2, t2, a2, l2, p2⟩ := f
    rw [encE_mk, encE_mk] at h
    simp only [List.cons.injEq, AV.str.injEq, AV.slice.injEq, AV.int.injEq, true_and, and_true] at h
    obtain ⟨rfl, rfl, h3, h4, h5, h6, h7, rfl⟩ := h
    have ht : t = t2 := encTy_inj t t2 (by rw [encTy_def, encTy_def, h3, h4, h5])
    rw [ht, map_inj_on (fun x _ y => encTy_inj x y) h6, map_inj_on (fun x hx y => ih x hx y) h7]

def idxQ {α : Type} (q : α → Bool) : List α → Nat → Int
  | [], _ => -1
  | x :: r, k => if q x then k else idxQ q r (k + 1)
theorem idxQ_any {α : Type} (q : α → Bool) (l : List α) (k : Nat) : decide (0 ≤ idxQ q l k) = l.any q := by
  induction l generalizing k with
  | nil => simp [idxQ]
  | cons x r ih =>
    simp only [idxQ, List.any_cons]
    by_cases h : q x = true
    · simp [h]
    · simp [h, ih]

open Classical in
noncomputable def goE (p : Exp → Bool) (_ : List AV) (x : AV) : Bool := if ∃ e, x = .agg (encE e) ∧ p e = true then true else false
theorem goE_at (p : Exp → Bool) (s : List AV) (e : Exp) : goE p s (.agg (encE e)) = p e := by
  unfold goE
  cases h : p e with
  | true => rw [if_pos ⟨e, rfl, h⟩]
  | false =>
    rw [if_neg]
    rintro ⟨f, hf, hp⟩
    injection hf with hf
    rw [encE_inj e f hf, hp] at h
    cases h
abbrev avE (e : Exp) : AV := .agg (encE e)
theorem feedG_goE (p : Exp → Bool) (s : List AV) (l : List Exp) : (feedG (goE p) s (l.map avE)).2 = l.all p := by
  induction l generalizing s with
  | nil => rfl
  | cons x r ih => simp only [List.map_cons, feedG, goE_at, List.all_cons]; by_cases h : p x = true <;> simp [ih, h]
theorem elP_exp {l : List Exp} {s : List AV} {x : AV} (h : elP (l.map avE) s x) : ∃ e, x = .agg (encE e) ∧ e ∈ l := by
  obtain ⟨r, hr⟩ := h
  have : x ∈ l.map avE := by rw [← hr]; simp
  obtain ⟨n, h1, h2⟩ := List.mem_map.1 this
  exact ⟨n, h2.symm, h1⟩
theorem len_eq0 {α : Type} (l : List α) : ((l.length : Int) == 0) = l.isEmpty := by
  cases l with
  | nil => rfl
  | cons x r =>
    have : ¬ (((x :: r).length : Int) = 0) := by simp only [List.length_cons]; omega
    rw [List.isEmpty_cons]
    simpa using this
theorem len_ge1 {α : Type} (l : List α) : decide ((1 : Int) ≤ l.length) = !l.isEmpty := by
  cases l with
  | nil => rfl
  | cons x r => rw [decide_eq_true (by simp only [List.length_cons]; omega)]; rfl
theorem len_eq1 {α : Type} (l : List α) : ((l.length : Int) == 1) = (l.length == 1) := by
  by_cases h : l.length = 1
  · rw [h]; rfl
  · have h2 : ¬ (l.length : Int) = 1 := by omega
    rw [beq_eq_false_iff_ne.2 h2, beq_eq_false_iff_ne.2 h]
theorem cmpT_ty0 (t : Ty) : (cmpT t ty0 == 0) = (t.name.isEmpty && t.args.isEmpty) := by
  obtain ⟨n, ts, p⟩ := t
  have e0 : cmpT (.mk n ts p) ty0 = if cmpS n [] = 0 then cmpTs ts [] else cmpS n [] := by rw [cmpT]; rfl
  rw [e0]
  show _ = (n.isEmpty && ts.isEmpty)
  by_cases h : cmpS n [] = 0
  · rw [if_pos h]
    obtain rfl := (cmpS_eq n []).1 h
    cases ts with
    | nil => simp [cmpTs]
    | cons x r => simp [cmpTs]
  · rw [if_neg h]
    have hn : n ≠ [] := fun e => h (by rw [e]; exact cmpS_nil)
    have h2 : (cmpS n [] == 0) = false := by simpa using h
    rw [h2]
    cases n with
    | nil => exact absurd rfl hn
    | cons a b => rfl
theorem sameTs_nil (a : List Ty) : sameTs a [] = a.isEmpty := by cases a <;> rfl
theorem sameEs_refl (l : List Exp) : sameEs l l = true := by
  induction l with
  | nil => simp [sameEs]
  | cons x l ih => rw [sameEs_cons, sameE_refl, ih]; rfl
section
variable (kd : Int) (n : Str) (t : Ty) (ta : List Ty) (l : List Exp) (p : Int)
theorem same_s1 : sameE (.mk kd n t ta l p) (.mk kd n ty0 [] l 0) = (t.name.isEmpty && t.args.isEmpty && ta.isEmpty) := by simp [sameE, cmpT_ty0, sameTs_nil, sameEs_refl]
theorem same_s2 : sameE (.mk kd n t ta l p) (.mk kd n ty0 ta l 0) = (t.name.isEmpty && t.args.isEmpty) := by simp [sameE, cmpT_ty0, sameTs_refl, sameEs_refl]
theorem same_s3 : sameE (.mk kd n t ta l p) (.mk kd [] t [] l 0) = (n.isEmpty && ta.isEmpty) := by cases n <;> simp [sameE, cmpT_refl, sameTs_nil, sameEs_refl]
theorem enc_s1 : encE (.mk kd n ty0 ta l 0) = [.int .i64 kd, .str n, .str [], .slice [], .int .i64 0, .slice (ta.map encTy), .slice (l.map encE), .int .i64 0] := by rw [encE_mk]; rfl
end
theorem kd_cases (kd : Int) : kd = 1 ∨ kd = 2 ∨ kd = 3 ∨ kd = 4 ∨ kd = 5 ∨ ((kd == 1) = false ∧ (kd == 2) = false ∧ (kd == 3) = false ∧ (kd == 4) = false ∧ (kd == 5) = false) := by
  by_cases h1 : kd = 1
  · exact .inl h1
  by_cases h2 : kd = 2
  · exact .inr (.inl h2)
  by_cases h3 : kd = 3
  · exact .inr (.inr (.inl h3))
  by_cases h4 : kd = 4
  · exact .inr (.inr (.inr (.inl h4)))
  by_cases h5 : kd = 5
  · exact .inr (.inr (.inr (.inr (.inl h5))))
  exact .inr (.inr (.inr (.inr (.inr ⟨by simpa using h1, by simpa using h2, by simpa using h3, by simpa using h4, by simpa using h5⟩))))
theorem any_right (ta : List Ty) : (ta.any fun t => !rightT t) = !ta.all rightT := by
  induction ta with
  | nil => rfl
  | cons x r ih => simp only [List.any_cons, List.all_cons, ih, Bool.not_and]
def bareK : Exp → Exp | .mk k n t a l p => .mk k n t a (List.replicate l.length ex0) p
theorem shape_bareK (e : Exp) : shapeE (bareK e) = shapeE e := by
  obtain ⟨k, n, t, a, l, p⟩ := e
  have h1 : (List.replicate l.length ex0).isEmpty = l.isEmpty := by cases l <;> rfl
  simp only [bareK, shapeE, h1, List.length_replicate]
theorem wt_bareK (e : Exp) : wtE (bareK e) ≤ 2 * wtE e := by
  obtain ⟨k, n, t, a, l, p⟩ := e
  have h0 : wtE ex0 = 2 := by decide
  have h1 : ∀ m, wtEs (List.replicate m ex0) = 2 * m := by
    intro m
    induction m with
    | zero => rfl
    | succ m ih => rw [List.replicate_succ, wtEs, ih, h0]; omega
  have h2 := wtEs_len l
  rw [bareK, wtE_mk, wtE_mk, h1]; omega
def okT (k : Int) (a : List Ty) : Bool := a.isEmpty || (k == 2 && a.all rightT)
theorem okT_cons (k : Int) (x : Ty) (r : List Ty) : okT k (x :: r) = (k == 2 && rightT x && okT k r) := by
  unfold okT
  cases h : (k == 2)
  · simp
  · cases r <;> simp
def bodyE (k : Int) (n : Str) (t : Ty) : Bool := if typedE k then rightT t && n.isEmpty else t.name.isEmpty && t.args.isEmpty && isName n
def kidsE (k : Int) (l : List Exp) : Bool := if k == 1 then l.isEmpty else if k == 2 then !l.isEmpty else if k == 3 then true else if k == 4 || k == 5 then l.length == 1 else false
theorem rightE_ok (k : Int) (n : Str) (t : Ty) (a : List Ty) (l : List Exp) (p : Int) : rightE (.mk k n t a l p) = (rightEs l && okT k a && bodyE k n t && kidsE k l) := by rw [rightE]; rfl
theorem shapeE_ok (k : Int) (n : Str) (t : Ty) (a : List Ty) (l : List Exp) (p : Int) : shapeE (.mk k n t a l p) = (okT k a && bodyE k n t && kidsE k l) := by rw [shapeE]; rfl
theorem rightEs_cons (e : Exp) (r : List Exp) : rightEs (e :: r) = (rightE e && rightEs r) := by rw [rightEs]
theorem rightT_ne {n : Str} {ts : List Ty} {p : Int} (h : rightT (.mk n ts p) = true) : n.isEmpty = false := by
  cases n with
  | nil =>
    rw [rightT, lst, List.all_cons, show isName [] = false by decide] at h
    cases h
  | cons a b => rfl
end Go.Pv
end

section
/- The sizes of expressions that a law keeps. -/
namespace Go.Pv
open Go

mutual
def esum : Exp → Nat | .mk _ n t a l _ => n.length / 50 + csum t + csums a + esums l
def esums : List Exp → Nat | [] => 0 | e :: r => esum e + esums r
end
end Go.Pv
end

section
/- From data to expressions. -/
namespace Go.Pv
open Go

section
variable {H : Type} {P : Program} {S I L T E X : Nat} (hS : P.underlying S = some .string) (hI : P.underlying I = some (.int .i64)) (hL : P.underlying L = some (.slice T)) (hF : ftypes P T = some [S, L, I]) (hb : 0 < P.bytesOf T)
  (hX : P.underlying X = some (.slice E)) (hE : ftypes P E = some [I, S, T, L, X, I]) (hbe : 0 < P.bytesOf E)
include hS hI hL hF hb hX hE hbe
end
end Go.Pv
end

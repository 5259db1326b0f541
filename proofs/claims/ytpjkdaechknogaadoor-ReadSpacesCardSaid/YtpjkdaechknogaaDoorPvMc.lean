import Derived.Test.YtpjkdaechknogaaDoorPvMa
import Derived.Test.YtpjkdaechknogaaDoorPvW
import Derived.Test.YtpjkdaechknogaaDoorPvY
set_option linter.all false
section
/- Expressions handed out one by one; which one comes first. -/
namespace Go.Pv
open Go

def idxQ {α : Type} (q : α → Bool) : List α → Nat → Int
  | [], _ => -1
  | x :: r, k => if q x then k else idxQ q r (k + 1)
open Classical in
/-- The body goes on at the expressions of which p is true. -/
noncomputable def goE (p : Exp → Bool) (_ : List AV) (x : AV) : Bool := if ∃ e, x = .agg (encE e) ∧ p e = true then true else false
abbrev avE (e : Exp) : AV := .agg (encE e)
theorem len_eq0 {α : Type} (l : List α) : ((l.length : Int) == 0) = l.isEmpty := by
  cases l with
  | nil => rfl
  | cons x r =>
    have : ¬ (((x :: r).length : Int) = 0) := by simp only [List.length_cons]; omega
    rw [List.isEmpty_cons]
    simpa using this
theorem len_ge1 {α : Type} (l : List α) : decide ((1 : Int) ≤ l.length) = !l.isEmpty := by
  cases l with
  | nil => rfl
  | cons x r => rw [decide_eq_true (by simp only [List.length_cons]; omega)]; rfl
theorem len_eq1 {α : Type} (l : List α) : ((l.length : Int) == 1) = (l.length == 1) := by
  by_cases h : l.length = 1
  · rw [h]; rfl
  · have h2 : ¬ (l.length : Int) = 1 := by omega
    rw [beq_eq_false_iff_ne.2 h2, beq_eq_false_iff_ne.2 h]
section
variable (kd : Int) (n : Str) (t : Ty) (ta : List Ty) (l : List Exp) (p : Int)
end
theorem kd_cases (kd : Int) : kd = 1 ∨ kd = 2 ∨ kd = 3 ∨ kd = 4 ∨ kd = 5 ∨ ((kd == 1) = false ∧ (kd == 2) = false ∧ (kd == 3) = false ∧ (kd == 4) = false ∧ (kd == 5) = false) := by
  by_cases h1 : kd = 1
  · exact .inl h1
  by_cases h2 : kd = 2
  · exact .inr (.inl h2)
  by_cases h3 : kd = 3
  · exact .inr (.inr (.inl h3))
  by_cases h4 : kd = 4
  · exact .inr (.inr (.inr (.inl h4)))
  by_cases h5 : kd = 5
  · exact .inr (.inr (.inr (.inr (.inl h5))))
  exact .inr (.inr (.inr (.inr (.inr ⟨by simpa using h1, by simpa using h2, by simpa using h3, by simpa using h4, by simpa using h5⟩))))
def bareK : Exp → Exp | .mk k n t a l p => .mk k n t a (List.replicate l.length ex0) p
def okT (k : Int) (a : List Ty) : Bool := a.isEmpty || (k == 2 && a.all rightT)
theorem okT_cons (k : Int) (x : Ty) (r : List Ty) : okT k (x :: r) = (k == 2 && rightT x && okT k r) := by
  unfold okT
  cases h : (k == 2)
  · simp
  · cases r <;> simp
def bodyE (k : Int) (n : Str) (t : Ty) : Bool := if typedE k then rightT t && n.isEmpty else t.name.isEmpty && t.args.isEmpty && isName n
def kidsE (k : Int) (l : List Exp) : Bool := if k == 1 then l.isEmpty else if k == 2 then !l.isEmpty else if k == 3 then true else if k == 4 || k == 5 then l.length == 1 else false
theorem rightE_ok (k : Int) (n : Str) (t : Ty) (a : List Ty) (l : List Exp) (p : Int) : rightE (.mk k n t a l p) = (rightEs l && okT k a && bodyE k n t && kidsE k l) := by rw [rightE]; rfl
theorem rightEs_cons (e : Exp) (r : List Exp) : rightEs (e :: r) = (rightE e && rightEs r) := by rw [rightEs]
theorem rightT_ne {n : Str} {ts : List Ty} {p : Int} (h : rightT (.mk n ts p) = true) : n.isEmpty = false := by
  cases n with
  | nil =>
    rw [rightT, lst, List.all_cons, show isName [] = false by decide] at h
    cases h
  | cons a b => rfl
end Go.Pv
end

section
/- The sizes of expressions that a law keeps. -/
namespace Go.Pv
open Go

mutual
def esum : Exp → Nat | .mk _ n t a l _ => n.length / 50 + csum t + csums a + esums l
def esums : List Exp → Nat | [] => 0 | e :: r => esum e + esums r
end
theorem cntE_sum : ∀ (e : Exp) (k : Nat), k ≤ cntE e k ∧ (cntE e k ≤ 2000 → cntE e k = k + esum e) := by
  intro e
  induction e using Exp.ind with
  | h kd n t a l p ih =>
    intro k
    have key : ∀ l : List Exp, (∀ e ∈ l, ∀ k : Nat, k ≤ cntE e k ∧ (cntE e k ≤ 2000 → cntE e k = k + esum e)) → ∀ k, k ≤ cntEs l k ∧ (cntEs l k ≤ 2000 → cntEs l k = k + esums l) := by
      intro l
      induction l with
      | nil => intro _ k; simp [cntEs, esums]
      | cons e l ihl =>
        intro h k
        have h1 := h e (by simp) k
        have h2 := ihl (fun x hx => h x (by simp [hx])) (cntE e k)
        rw [cntEs_cons, esums]
        split
        · refine ⟨by omega, fun h3 => ?_⟩
          have h4 := h2.2 h3
          have h5 := h1.2 (by omega)
          omega
        · exact ⟨Nat.le_refl _, fun h3 => by omega⟩
    have h1 := cnt_sum t (k + n.length / 50)
    have h2 := cnts_sum a (cnt t (k + n.length / 50))
    have h3 := key l ih (cnts a (cnt t (k + n.length / 50)))
    simp only [cntE, esum]
    refine ⟨by omega, fun h => ?_⟩
    have h4 := h3.2 h
    have h5 := h2.2 (by omega)
    have h6 := h1.2 (by omega)
    omega
theorem wts_sum : ∀ l : List Ty, wts l ≤ 50 * csums l
  | [] => by simp [wts, csums]
  | t :: l => by
    have h1 := wt_sum t
    have h2 := wts_sum l
    simp only [wts, csums]; omega
theorem wtE_sum : ∀ e : Exp, wtE e ≤ 100 * esum e := by
  intro e
  induction e using Exp.ind with
  | h kd n t a l p ih =>
    have key : ∀ l : List Exp, (∀ e ∈ l, wtE e ≤ 100 * esum e) → wtEs l ≤ 100 * esums l := by
      intro l
      induction l with
      | nil => intro _; simp [wtEs, esums]
      | cons e l ihl =>
        intro h
        have h1 := h e (by simp)
        have h2 := ihl (fun x hx => h x (by simp [hx]))
        simp only [wtEs, esums]; omega
    have h1 := key l ih
    have h2 := wt_sum t
    have h3 := wts_sum a
    have h4 := csum_pos t
    rw [wtE_mk]
    simp only [esum]
    omega
theorem fewE_wt {e : Exp} (h : cntE e 0 ≤ 250) : wtE e ≤ 25000 := by
  have h1 := (cntE_sum e 0).2 (by omega)
  have h2 := wtE_sum e
  omega

end Go.Pv
end

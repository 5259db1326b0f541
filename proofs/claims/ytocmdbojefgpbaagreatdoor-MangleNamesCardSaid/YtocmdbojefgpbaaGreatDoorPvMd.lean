import Derived.Test.YtocmdbojefgpbaaGreatDoorPvKd
import Derived.Test.YtocmdbojefgpbaaGreatDoorPvY
set_option linter.all false
section
/- Expressions handed out one by one; which one comes first. -/
namespace Go.Pv
open Go

def idxQ {α : Type} (q : α → Bool) : List α → Nat → Int
  | [], _ => -1
  | x :: r, k => if q x then k else idxQ q r (k + 1)
open Classical in
/-- The body goes on at the expressions of which p is true. -/
noncomputable def goE (p : Exp → Bool) (_ : List AV) (x : AV) : Bool := if ∃ e, x = .agg (encE e) ∧ p e = true then true else false
abbrev avE (e : Exp) : AV := .agg (encE e)
section
variable (kd : Int) (n : Str) (t : Ty) (ta : List Ty) (l : List Exp) (p : Int)
end
def bareK : Exp → Exp | .mk k n t a l p => .mk k n t a (List.replicate l.length ex0) p
def okT (k : Int) (a : List Ty) : Bool := a.isEmpty || (k == 2 && a.all rightT)
def bodyE (k : Int) (n : Str) (t : Ty) : Bool := if typedE k then rightT t && n.isEmpty else t.name.isEmpty && t.args.isEmpty && isName n
def kidsE (k : Int) (l : List Exp) : Bool := if k == 1 then l.isEmpty else if k == 2 then !l.isEmpty else if k == 3 then true else if k == 4 || k == 5 then l.length == 1 else false
end Go.Pv
end

section
/- The sizes of expressions that a law keeps. -/
namespace Go.Pv
open Go

mutual
def esum : Exp → Nat | .mk _ n t a l _ => n.length / 50 + csum t + csums a + esums l
def esums : List Exp → Nat | [] => 0 | e :: r => esum e + esums r
end
theorem cntE_sum : ∀ (e : Exp) (k : Nat), k ≤ cntE e k ∧ (cntE e k ≤ 2000 → cntE e k = k + esum e) := by
  intro e
  induction e using Exp.ind with
  | h kd n t a l p ih =>
    intro k
    have key : ∀ l : List Exp, (∀ e ∈ l, ∀ k : Nat, k ≤ cntE e k ∧ (cntE e k ≤ 2000 → cntE e k = k + esum e)) → ∀ k, k ≤ cntEs l k ∧ (cntEs l k ≤ 2000 → cntEs l k = k + esums l) := by
      intro l
      induction l with
      | nil => intro _ k; simp [cntEs, esums]
      | cons e l ihl =>
        intro h k
        have h1 := h e (by simp) k
        have h2 := ihl (fun x hx => h x (by simp [hx])) (cntE e k)
        rw [cntEs_cons, esums]
        split
        · refine ⟨by omega, fun h3 => ?_⟩
          have h4 := h2.2 h3
          have h5 := h1.2 (by omega)
          omega
        · exact ⟨Nat.le_refl _, fun h3 => by omega⟩
    have h1 := cnt_sum t (k + n.length / 50)
    have h2 := cnts_sum a (cnt t (k + n.length / 50))
    have h3 := key l ih (cnts a (cnt t (k + n.length / 50)))
    simp only [cntE, esum]
    refine ⟨by omega, fun h => ?_⟩
    have h4 := h3.2 h
    have h5 := h2.2 (by omega)
    have h6 := h1.2 (by omega)
    omega
end Go.Pv
end

section
/- From data to expressions. -/
namespace Go.Pv
open Go

section
variable {H : Type} {P : Program} {S I L T E X : Nat} (hS : P.underlying S = some .string) (hI : P.underlying I = some (.int .i64)) (hL : P.underlying L = some (.slice T)) (hF : ftypes P T = some [S, L, I]) (hb : 0 < P.bytesOf T)
  (hX : P.underlying X = some (.slice E)) (hE : ftypes P E = some [I, S, T, L, X, I]) (hbe : 0 < P.bytesOf E)
include hS hI hL hF hb hX hE hbe
end
end Go.Pv
end

import Derived.Test.YtocmdbojefgpbaaGreatDoorPvKd
import Derived.Test.YtocmdbojefgpbaaGreatDoorPvW
import Derived.Test.YtocmdbojefgpbaaGreatDoorPvY
set_option linter.all false
section
/- Expressions handed out one by one; which one comes first. -/
namespace Go.Pv
open Go

def idxQ {α : Type} (q : α → Bool) : List α → Nat → Int
  | [], _ => -1
  | x :: r, k => if q x then k else idxQ q r (k + 1)
open Classical in
/-- The body goes on at the expressions of which p is true. -/
noncomputable def goE (p : Exp → Bool) (_ : List AV) (x : AV) : Bool := if ∃ e, x = .agg (encE e) ∧ p e = true then true else false
abbrev avE (e : Exp) : AV := .agg (encE e)
section
variable (kd : Int) (n : Str) (t : Ty) (ta : List Ty) (l : List Exp) (p : Int)
end
def bareK : Exp → Exp | .mk k n t a l p => .mk k n t a (List.replicate l.length ex0) p
def okT (k : Int) (a : List Ty) : Bool := a.isEmpty || (k == 2 && a.all rightT)
def bodyE (k : Int) (n : Str) (t : Ty) : Bool := if typedE k then rightT t && n.isEmpty else t.name.isEmpty && t.args.isEmpty && isName n
def kidsE (k : Int) (l : List Exp) : Bool := if k == 1 then l.isEmpty else if k == 2 then !l.isEmpty else if k == 3 then true else if k == 4 || k == 5 then l.length == 1 else false
end Go.Pv
end

section
/- The sizes of expressions that a law keeps. -/
namespace Go.Pv
open Go

mutual
def esum : Exp → Nat | .mk _ n t a l _ => n.length / 50 + csum t + csums a + esums l
def esums : List Exp → Nat | [] => 0 | e :: r => esum e + esums r
end
end Go.Pv
end

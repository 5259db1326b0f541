import Derived.Test.YtocmdbojefgpbaaGreatDoorPvOc
import Derived.Test.YtocmdbojefgpbaaGreatDoorPvPa
import Derived.Test.YtocmdbojefgpbaaGreatDoorPvY
import Derived.Test.YtocmdbojefgpbaaGreatDoorPvLc
set_option linter.all false
section
/- The walk by simp: calls of methods. -/
namespace Go.Pv
open Go

section
variable {P : Program} {gl : Gl} {ops : Array Oper} {o : Oper} {rest : List Oper} {σ : AS} {K : AS → Prop}
theorem RVn_callC {f : FuncId} {args : List AV} {b : Nat} {c c' : List AV} {r : AV} (h : ValidC P gl f args b c r c') (hsh : σ.sh = [(b, c)]) (k : RV P gl ops rest ({ σ with sh := [(b, c')] }.put o.dst (.v r none)) K) (hy : gl.y = none := by rfl) :
    RVn P gl ops true (some true) (.call f (.gp b 0 :: args)) o rest σ K := by
  unfold RVn
  simp only [orV, true_and]
  exact callV_C hy h hsh k
end
end Go.Pv
end

section
/- Listed variables that hold a type's handle; lists of tokens as arguments. -/
namespace Go.Pv
open Go Go.ChangeShapes Go.WideShapes Go.RowKit

end Go.Pv
end

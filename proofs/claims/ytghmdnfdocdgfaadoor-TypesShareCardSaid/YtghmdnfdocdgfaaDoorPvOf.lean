import Derived.Test.YtghmdnfdocdgfaaDoorPvY
import Derived.Test.YtghmdnfdocdgfaaDoorPvLc
import Derived.Test.YtghmdnfdocdgfaaDoorPvPb
import Derived.Test.YtghmdnfdocdgfaaDoorPvOe
set_option linter.all false
section
/- Listed variables that hold a type's handle; lists of tokens as arguments. -/
namespace Go.Pv
open Go Go.ChangeShapes Go.WideShapes Go.RowKit

end Go.Pv
end

section
/- Functions that read with an object that a frozen box leads to. -/
namespace Go.Pv
open Go

def ValidD (P : Program) (gl : Gl) (f : FuncId) (args : List AV) (b : Nat) (c : List AV) (r : AV) (c' : List AV) : Prop :=
  ValidH P gl f args [(b, c)] fun r' sh' => r' = r ∧ sh' = [(b, c')]

section
variable {P : Program} {gl : Gl} {ops : Array Oper} {o : Oper} {rest : List Oper} {σ : AS} {K : AS → Prop}
end
end Go.Pv
end

/- The walk by simp: calls of methods. -/
import Derived.Test.YtpjkdaechknogaaDoorPvOc
import Derived.Test.YtpjkdaechknogaaDoorPvRa
set_option linter.all false
namespace Go.Pv
open Go

section
variable {P : Program} {gl : Gl} {ops : Array Oper} {o : Oper} {rest : List Oper} {σ : AS} {K : AS → Prop}
theorem RVn_callC {f : FuncId} {args : List AV} {b : Nat} {c c' : List AV} {r : AV} (h : ValidC P gl f args b c r c') (hsh : σ.sh = [(b, c)]) (k : RV P gl ops rest ({ σ with sh := [(b, c')] }.put o.dst (.v r none)) K) (hy : gl.y = none := by rfl) :
    RVn P gl ops true (some true) (.call f (.gp b 0 :: args)) o rest σ K := by
  unfold RVn
  simp only [orV, true_and]
  exact callV_C hy h hsh k
theorem RVn_callN {f : FuncId} {args : List AV} {c : List AV} (h : ValidN P gl f args c) (k : ∀ b, RV P gl ops rest ({ σ with sh := [(b, c)] }.put o.dst (.v (.gp b 0) none)) K) (hy : gl.y = none := by rfl) :
    RVn P gl ops true (some true) (.call f args) o rest σ K := by
  unfold RVn
  simp only [orV, true_and]
  exact callV_N hy h k
end
end Go.Pv

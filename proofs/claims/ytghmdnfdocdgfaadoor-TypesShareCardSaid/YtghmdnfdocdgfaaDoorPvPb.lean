import Derived.Test.YtghmdnfdocdgfaaDoorPvLc
import Derived.Test.YtghmdnfdocdgfaaDoorPvOc
set_option linter.all false
section
/- Short words for the walks. -/
namespace Go.Pv
open Go

theorem sg {a b : Prop} (h : b) (ha : a := by first | omega | (simp at *; omega)) : a ∧ b := ⟨ha, h⟩
@[simp] theorem row_fst (x : List AV) (l : List (List AV)) : row (x :: l) 0 = x := rfl
section
variable {P : Program} {gl : Gl} {σ : AS} {Q : Exit → AS → Prop} {c : Operand} {x y : Code}
theorem cT (hc : ev gl σ c = .v (.bool true) none) (h : AT P gl x σ Q) : AT P gl (.cond c x y) σ Q := AT_cond hc (fun _ => h) (fun h => by cases h)
theorem cF (hc : ev gl σ c = .v (.bool false) none) (h : AT P gl y σ Q) : AT P gl (.cond c x y) σ Q := AT_cond hc (fun h => by cases h) (fun _ => h)
end
end Go.Pv
end

section
/- The walk by simp: calls of methods. -/
namespace Go.Pv
open Go

section
variable {P : Program} {gl : Gl} {ops : Array Oper} {o : Oper} {rest : List Oper} {σ : AS} {K : AS → Prop}
end
end Go.Pv
end

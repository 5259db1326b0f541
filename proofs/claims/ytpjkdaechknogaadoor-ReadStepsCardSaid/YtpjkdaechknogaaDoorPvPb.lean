import Derived.Test.YtpjkdaechknogaaDoorPvLc
import Derived.Test.YtpjkdaechknogaaDoorPvOc
set_option linter.all false
section
/- Short words for the walks. -/
namespace Go.Pv
open Go

theorem sg {a b : Prop} (h : b) (ha : a := by first | omega | (simp at *; omega)) : a ∧ b := ⟨ha, h⟩
theorem sgX {a b : Prop} (h : b) (ha : a := by first | omega | assumption | exact Rows_map _ _ encK_cells _ | (simp at *; omega)) : a ∧ b := ⟨ha, h⟩
theorem sgK {a b : Prop} (h : b) (ha : a := by first | omega | assumption | exact Rows_map _ _ encK_cells _ | exact ⟨by omega, Rows_map _ _ encK_cells _⟩ | (simp at *; omega)) : a ∧ b := ⟨ha, h⟩
theorem nrm {n : AS → Prop} {Q : Exit → AS → Prop} {s : AS} :
    (thenA n Q .normal s = n s ∧ (∀ i, thenA n Q (.exit i) s = Q (.exit i) s) ∧ (∀ i, thenA n Q (.goto i) s = Q (.goto i) s) ∧ thenA n Q .ret s = Q .ret s ∧ (∀ i, thenA n Q (.panic i) s = Q (.panic i) s) ∧ thenA n Q .outgrown s = Q .outgrown s) ∧
    (∀ i, inBlockA i Q .normal s = Q .normal s) ∧ (∀ i j, inBlockA i Q (.exit j) s = if j = i then Q .normal s else Q (.exit j) s) ∧ (∀ i, inBlockA i Q .ret s = Q .ret s) ∧
    noGotoA Q .normal s = Q .normal s ∧ noGotoA Q .ret s = Q .ret s ∧ (∀ i, noGotoA Q (.exit i) s = Q (.exit i) s) := by
  refine ⟨⟨rfl, fun _ => rfl, fun _ => rfl, rfl, fun _ => rfl, rfl⟩, fun _ => rfl, fun i j => ?_, fun _ => rfl, rfl, rfl, fun _ => rfl⟩
  rfl
@[simp] theorem row_fst (x : List AV) (l : List (List AV)) : row (x :: l) 0 = x := rfl
end Go.Pv
end

section
/- The walk by simp: calls of methods. -/
namespace Go.Pv
open Go

section
variable {P : Program} {gl : Gl} {ops : Array Oper} {o : Oper} {rest : List Oper} {σ : AS} {K : AS → Prop}
theorem RVn_callC {f : FuncId} {args : List AV} {b : Nat} {c c' : List AV} {r : AV} (h : ValidC P gl f args b c r c') (hsh : σ.sh = [(b, c)]) (k : RV P gl ops rest ({ σ with sh := [(b, c')] }.put o.dst (.v r none)) K) (hy : gl.y = none := by rfl) :
    RVn P gl ops true (some true) (.call f (.gp b 0 :: args)) o rest σ K := by
  unfold RVn
  simp only [orV, true_and]
  exact callV_C hy h hsh k
theorem RVn_callN {f : FuncId} {args : List AV} {c : List AV} (h : ValidN P gl f args c) (k : ∀ b, RV P gl ops rest ({ σ with sh := [(b, c)] }.put o.dst (.v (.gp b 0) none)) K) (hy : gl.y = none := by rfl) :
    RVn P gl ops true (some true) (.call f args) o rest σ K := by
  unfold RVn
  simp only [orV, true_and]
  exact callV_N hy h k
end
end Go.Pv
end

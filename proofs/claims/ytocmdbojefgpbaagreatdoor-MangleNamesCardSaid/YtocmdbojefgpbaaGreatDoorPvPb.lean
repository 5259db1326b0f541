import Derived.Test.YtocmdbojefgpbaaGreatDoorPvOc
import Derived.Test.YtocmdbojefgpbaaGreatDoorPvKb
set_option linter.all false
section
/- Objects that are listed twice. -/
namespace Go.Pv
open Go
theorem Gives.shEq {P : Program} {σ : AS} (sh' : List (Nat × List AV)) (h : ∀ k, look k sh' = look k σ.sh) : Gives P σ { σ with sh := sh' } := by
  rintro cx a w - ⟨gh, r⟩
  exact ⟨gh, { frm := r.frm, base := r.base, limB := r.limB, size := r.size, ex := r.ex.sub (fun _ _ h => h) rfl rfl, gl := r.gl, tmps := r.tmps, boxes := r.boxes, inj := r.inj, shs := fun b c hb => r.shs b c ((h b).symm.trans hb), apart := fun b k hb hk => r.apart b k (by rw [← h b]; exact hb) hk, tbs := r.tbs, own := fun g e hu => ⟨(r.own g e hu).1, fun b hb => ⟨((r.own g e hu).2 b hb).1, (h b).trans ((r.own g e hu).2 b hb).2⟩⟩, alone := r.alone }⟩
theorem Gives.shb {P : Program} {n : Nat} {tm : List (Nat × TV)} {bx : List (Nat × List AV)} {tb : List (Nat × Nat × Nat × Nat)} {hint : List (Nat × Nat)} {b : Nat} {c : List AV} {rs : List (Nat × List AV)} (h : ∀ k, k ≠ b → look k rs = none) :
    Gives P { n := n, tm := tm, bx := bx, tb := tb, sh := (b, c) :: rs, hint := hint } { n := n, tm := tm, bx := bx, tb := tb, sh := [(b, c)], hint := hint } :=
  Gives.shEq [(b, c)] fun k => by
    simp only [look]
    by_cases hk : b = k
    · simp [hk]
    · simp [hk, h k (fun h => hk h.symm)]
end Go.Pv
end

section
/- Short words for the walks. -/
namespace Go.Pv
open Go

theorem sg {a b : Prop} (h : b) (ha : a := by first | omega | (simp at *; omega)) : a ∧ b := ⟨ha, h⟩
theorem nrm {n : AS → Prop} {Q : Exit → AS → Prop} {s : AS} :
    (thenA n Q .normal s = n s ∧ (∀ i, thenA n Q (.exit i) s = Q (.exit i) s) ∧ (∀ i, thenA n Q (.goto i) s = Q (.goto i) s) ∧ thenA n Q .ret s = Q .ret s ∧ (∀ i, thenA n Q (.panic i) s = Q (.panic i) s) ∧ thenA n Q .outgrown s = Q .outgrown s) ∧
    (∀ i, inBlockA i Q .normal s = Q .normal s) ∧ (∀ i j, inBlockA i Q (.exit j) s = if j = i then Q .normal s else Q (.exit j) s) ∧ (∀ i, inBlockA i Q .ret s = Q .ret s) ∧
    noGotoA Q .normal s = Q .normal s ∧ noGotoA Q .ret s = Q .ret s ∧ (∀ i, noGotoA Q (.exit i) s = Q (.exit i) s) := by
  refine ⟨⟨rfl, fun _ => rfl, fun _ => rfl, rfl, fun _ => rfl, rfl⟩, fun _ => rfl, fun i j => ?_, fun _ => rfl, rfl, rfl, fun _ => rfl⟩
  rfl
@[simp] theorem row_fst (x : List AV) (l : List (List AV)) : row (x :: l) 0 = x := rfl
section
variable {P : Program} {gl : Gl} {σ : AS} {Q : Exit → AS → Prop} {c : Operand} {x y : Code}
theorem cT (hc : ev gl σ c = .v (.bool true) none) (h : AT P gl x σ Q) : AT P gl (.cond c x y) σ Q := AT_cond hc (fun _ => h) (fun h => by cases h)
theorem cF (hc : ev gl σ c = .v (.bool false) none) (h : AT P gl y σ Q) : AT P gl (.cond c x y) σ Q := AT_cond hc (fun h => by cases h) (fun _ => h)
end
end Go.Pv
end

section
/- The walk by simp: calls of methods. -/
namespace Go.Pv
open Go

section
variable {P : Program} {gl : Gl} {ops : Array Oper} {o : Oper} {rest : List Oper} {σ : AS} {K : AS → Prop}
theorem RVn_callC {f : FuncId} {args : List AV} {b : Nat} {c c' : List AV} {r : AV} (h : ValidC P gl f args b c r c') (hsh : σ.sh = [(b, c)]) (k : RV P gl ops rest ({ σ with sh := [(b, c')] }.put o.dst (.v r none)) K) (hy : gl.y = none := by rfl) :
    RVn P gl ops true (some true) (.call f (.gp b 0 :: args)) o rest σ K := by
  unfold RVn
  simp only [orV, true_and]
  exact callV_C hy h hsh k
end
end Go.Pv
end

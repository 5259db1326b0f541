/- The sizes of expressions behind substituting and replacing. -/
import Derived.Test.YtjkabaejabibnaaDoorPvMd
set_option linter.all false
namespace Go.Pv
open Go

theorem mul_add3 {a b c x y z M : Nat} (h1 : x ≤ a * M) (h2 : y ≤ b * M) (h3 : z ≤ c * M) : x + y + z ≤ (a + b + c) * M := by
  rw [Nat.add_mul, Nat.add_mul]; omega
theorem wts_map_le {M : Nat} {f : Ty → Ty} : ∀ l : List Ty, (∀ t ∈ l, wt (f t) ≤ wt t * M) → wts (l.map f) ≤ wts l * M
  | [], _ => by simp [wts]
  | t :: l, h => by
    have h1 := h t (by simp)
    have h2 := wts_map_le l fun x hx => h x (by simp [hx])
    simp only [List.map_cons, wts]
    rw [Nat.add_mul]; omega
theorem wtEs_map_le {M : Nat} {f : Exp → Exp} : ∀ l : List Exp, (∀ e ∈ l, wtE (f e) ≤ wtE e * M) → wtEs (l.map f) ≤ wtEs l * M
  | [], _ => by simp [wtEs]
  | t :: l, h => by
    have h1 := h t (by simp)
    have h2 := wtEs_map_le l fun x hx => h x (by simp [hx])
    simp only [List.map_cons, wtEs]
    rw [Nat.add_mul]; omega
theorem wtE_sub (ns : List Str) (as : List Ty) (M : Nat) (hM : 1 ≤ M) (h : ∀ a ∈ as, wt a ≤ M) : ∀ e : Exp, wtE (subE ns as e) ≤ wtE e * M := by
  intro e
  induction e using Exp.ind with
  | h k n t a l p ih =>
    rw [subE, subs_map, subEs_map, wtE_mk, wtE_mk]
    have h1 := wt_sub ns as M hM h t
    have h2 := wts_map_le a fun x _ => wt_sub ns as M hM h x
    have h3 := wtEs_map_le l ih
    have h4 : (n.length + 1) * 1 ≤ (n.length + 1) * M := Nat.mul_le_mul_left _ hM
    rw [Nat.add_mul, Nat.add_mul, Nat.add_mul]
    omega
theorem wtE_rep (vs : List Str) (xs : List Exp) (M : Nat) (hM : 1 ≤ M) (h : ∀ x ∈ xs, wtE x ≤ M) : ∀ e : Exp, wtE (repE vs xs e) ≤ wtE e * M := by
  intro e
  induction e using Exp.ind with
  | h k n t a l p ih =>
    have hp : 1 * M ≤ wtE (.mk k n t a l p) * M := Nat.mul_le_mul_right _ (wtE_pos _)
    rw [repE, repEs_map]
    split
    · rename_i hc
      have hm : xs.getD (idxF vs n 0).toNat ex0 ∈ xs := by
        have hlt : (idxF vs n 0).toNat < xs.length := by omega
        simp [List.getD_eq_getElem?_getD, hlt]
      have := h _ hm
      omega
    · rw [wtE_mk, wtE_mk]
      have h3 := wtEs_map_le l ih
      have h4 : (n.length + 1 + wt t + wts a) * 1 ≤ (n.length + 1 + wt t + wts a) * M := Nat.mul_le_mul_left _ hM
      rw [Nat.add_mul]
      omega
theorem repE_nil : ∀ e : Exp, repE [] [] e = e := by
  intro e
  induction e using Exp.ind with
  | h k n t a l p ih =>
    rw [repE, repEs_map, if_neg (by simp)]
    congr 1
    conv => rhs; rw [← List.map_id l]
    exact List.map_congr_left ih
end Go.Pv

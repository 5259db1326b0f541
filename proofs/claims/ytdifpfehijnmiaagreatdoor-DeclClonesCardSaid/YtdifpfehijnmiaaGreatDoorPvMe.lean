import Derived.Test.YtdifpfehijnmiaaGreatDoorPvMb
import Derived.Test.YtdifpfehijnmiaaGreatDoorPvY
set_option linter.all false
section
/- The sizes of expressions that a law keeps. -/
namespace Go.Pv
open Go

mutual
def esum : Exp → Nat | .mk _ n t a l _ => n.length / 50 + csum t + csums a + esums l
def esums : List Exp → Nat | [] => 0 | e :: r => esum e + esums r
end
theorem cntE_sum : ∀ (e : Exp) (k : Nat), k ≤ cntE e k ∧ (cntE e k ≤ 2000 → cntE e k = k + esum e) := by
  intro e
  induction e using Exp.ind with
  | h kd n t a l p ih =>
    intro k
    have key : ∀ l : List Exp, (∀ e ∈ l, ∀ k : Nat, k ≤ cntE e k ∧ (cntE e k ≤ 2000 → cntE e k = k + esum e)) → ∀ k, k ≤ cntEs l k ∧ (cntEs l k ≤ 2000 → cntEs l k = k + esums l) := by
      intro l
      induction l with
      | nil => intro _ k; simp [cntEs, esums]
      | cons e l ihl =>
        intro h k
        have h1 := h e (by simp) k
        have h2 := ihl (fun x hx => h x (by simp [hx])) (cntE e k)
        rw [cntEs_cons, esums]
        split
        · refine ⟨by omega, fun h3 => ?_⟩
          have h4 := h2.2 h3
          have h5 := h1.2 (by omega)
          omega
        · exact ⟨Nat.le_refl _, fun h3 => by omega⟩
    have h1 := cnt_sum t (k + n.length / 50)
    have h2 := cnts_sum a (cnt t (k + n.length / 50))
    have h3 := key l ih (cnts a (cnt t (k + n.length / 50)))
    simp only [cntE, esum]
    refine ⟨by omega, fun h => ?_⟩
    have h4 := h3.2 h
    have h5 := h2.2 (by omega)
    have h6 := h1.2 (by omega)
    omega
theorem wts_sum : ∀ l : List Ty, wts l ≤ 50 * csums l
  | [] => by simp [wts, csums]
  | t :: l => by
    have h1 := wt_sum t
    have h2 := wts_sum l
    simp only [wts, csums]; omega
theorem wtE_sum : ∀ e : Exp, wtE e ≤ 100 * esum e := by
  intro e
  induction e using Exp.ind with
  | h kd n t a l p ih =>
    have key : ∀ l : List Exp, (∀ e ∈ l, wtE e ≤ 100 * esum e) → wtEs l ≤ 100 * esums l := by
      intro l
      induction l with
      | nil => intro _; simp [wtEs, esums]
      | cons e l ihl =>
        intro h
        have h1 := h e (by simp)
        have h2 := ihl (fun x hx => h x (by simp [hx]))
        simp only [wtEs, esums]; omega
    have h1 := key l ih
    have h2 := wt_sum t
    have h3 := wts_sum a
    have h4 := csum_pos t
    rw [wtE_mk]
    simp only [esum]
    omega
end Go.Pv
end

section
/- From data to expressions. -/
namespace Go.Pv
open Go

theorem fitEs_all {l : List Exp} (h : ∀ e ∈ l, fitE e) : fitEs l := by
  induction l with
  | nil => trivial
  | cons e l ih => exact ⟨h e (by simp), ih fun x hx => h x (by simp [hx])⟩

section
variable {H : Type} {P : Program} {S I L T E X : Nat} (hS : P.underlying S = some .string) (hI : P.underlying I = some (.int .i64)) (hL : P.underlying L = some (.slice T)) (hF : ftypes P T = some [S, L, I]) (hb : 0 < P.bytesOf T)
  (hX : P.underlying X = some (.slice E)) (hE : ftypes P E = some [I, S, T, L, X, I]) (hbe : 0 < P.bytesOf E)
include hS hI hL hF hb hX hE hbe
theorem exp_of : ∀ (n : Nat) (d : DataW H), typed P n E d → (d.weights P E).all (· ≤ reachBytes) = true → ∃ e : Exp, avOf d = encE e ∧ fitE e := by
  intro n
  induction n using Nat.strongRecOn with
  | _ n ih =>
    intro d h hw
    obtain ⟨m, ps, rfl, rfl, hps, hwe⟩ := typed_struct hE h
    rw [hwe] at hw
    match ps, hps with
    | [k, s, t, a, l, p], ⟨hk, hs, ht, ha, hl, hp, _⟩ =>
      obtain ⟨w1, hw⟩ := weightsEach_cons hw
      obtain ⟨w2, hw⟩ := weightsEach_cons hw
      obtain ⟨w3, hw⟩ := weightsEach_cons hw
      obtain ⟨w4, hw⟩ := weightsEach_cons hw
      obtain ⟨w5, hw⟩ := weightsEach_cons hw
      obtain ⟨k, rfl, -⟩ := typed_int hI hk
      obtain ⟨s, hs1, hs2⟩ := str_of hS hs w2
      obtain ⟨⟨tn, tas, tp⟩, ht1, ht2⟩ := ty_of hS hI hL hF hb m _ ht w3
      obtain ⟨a, ha1, ha2, ha3⟩ := tys_of hS hI hL hF hb m _ ha w4
      obtain ⟨p, rfl, -⟩ := typed_int hI hp
      obtain ⟨q, rfl, hq⟩ := typed_slice hX hl
      rcases hq with rfl | ⟨es, sp, rfl, hq⟩
      · exact ⟨.mk k s (.mk tn tas tp) a [] p, by simp [avOf, avFlat, hs1, ht1, ha1, encE_mk, encTy_mk], by simp [fitE, fitEs, hs2, ht2, ha2, ha3]⟩
      · obtain ⟨g1, g2⟩ := weights_slice hX hbe w5
        obtain ⟨l, e1, e2, e3⟩ := rows_of (enc := encE) (good := fitE) es (fun x hx => ih q (by omega) x (hq x hx) (g2 x hx))
        exact ⟨.mk k s (.mk tn tas tp) a l p, by simp [avOf, avFlat, hs1, ht1, ha1, encE_mk, encTy_mk, e1], by rw [fitE]; exact ⟨hs2, ht2, ⟨ha2, ha3⟩, by omega, fitEs_all e3⟩⟩
end
end Go.Pv
end

section
/- The sizes of expressions behind substituting and replacing. -/
namespace Go.Pv
open Go

end Go.Pv
end

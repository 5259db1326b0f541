/- What is read is right, and no larger than its text; whole texts. -/
import Derived.Test.YtpjkdaechknogaaDoorPvRb
import Derived.Test.YtpjkdaechknogaaDoorPvMe
set_option linter.all false
namespace Go.Pv
open Go

def szC (c : Cur) : Nat := szK (c.l.map ktOf)
theorem TkL_ends {l : List Tk} (h : TkL (l.map ktOf)) : EndsT l := by
  generalize hk : l.map ktOf = m at h
  induction h generalizing l with
  | nil =>
    cases l with
    | nil => cases hk
    | cons t r =>
      cases r with
      | nil =>
        simp only [List.map_cons, List.map_nil, List.cons.injEq, and_true] at hk
        refine ⟨by simp, fun k hlt hne => ?_⟩
        have : k = 0 := by simp at hlt; omega
        subst this
        exact absurd (show t.1 = 3 from congrArg Prod.fst hk) hne
      | cons x r => simp at hk
  | word w l' hw hl ih =>
    cases l with
    | nil => cases hk
    | cons t r =>
      simp only [List.map_cons, List.cons.injEq] at hk
      obtain ⟨h1, h2⟩ := ih hk.2
      refine ⟨by simp, fun k hlt hne => ?_⟩
      cases k with
      | zero => simp; omega
      | succ k => have := h2 k (by simpa using hlt) (by simpa using hne); simp; omega
  | sign c l' hc hl ih =>
    cases l with
    | nil => cases hk
    | cons t r =>
      simp only [List.map_cons, List.cons.injEq] at hk
      obtain ⟨h1, h2⟩ := ih hk.2
      refine ⟨by simp, fun k hlt hne => ?_⟩
      cases k with
      | zero => simp; omega
      | succ k => have := h2 k (by simpa using hlt) (by simpa using hne); simp; omega
theorem lexT_ends {s : Str} {l : List Tk} {n : Nat} (h : lexT s = (some l, n)) : EndsT l := TkL_ends (lexT_some (lexT_bounds h).1 h).2.1

def rtR (l : List Tk) : Ty × Pl := typeR l (l.length + 1) ⟨0, false⟩
def reR (l : List Tk) : Exp × Pl := exprR l (l.length + 1) ⟨0, false⟩
def wholeR {α : Type} (none_ : α) (rd : List Tk → α × Pl) (s : Str) : α × Int × Int :=
  match lexT s with
  | (none, m) => (none_, 1, m)
  | (some l, _) => if (finR l (rd l).2).1 = 0 then ((rd l).1, 0, 0) else (none_, (finR l (rd l).2).1, (finR l (rd l).2).2)

theorem rel0 {l : List Tk} (hE : EndsT l) : Rel l ⟨l, none⟩ ⟨0, false⟩ := ⟨by simp, hE.1, rfl, fun a h => by cases h⟩
theorem fin_eq {L : List Tk} {c : Cur} {p : Pl} (r : Rel L c p) : (endC c).err = (if (finR L p).1 = 0 then none else some (finR L p).2) ∧ ((finR L p).1 = 0 → p.bad = false) ∧ ((finR L p).1 = 0 ∨ (finR L p).1 = 2) := by
  unfold endC finR
  cases hb : p.bad with
  | true =>
    have he : c.err.isSome = true := by rw [r.err, hb]
    rw [Cur.err_first he]
    obtain ⟨a, ha⟩ := Option.isSome_iff_exists.1 he
    have := r.at_ a ha
    simp [tk0, ha, this]
  | false =>
    have he : c.err = none := by
      have := r.err
      rw [hb] at this
      simpa using this
    rw [r.first hb]
    cases h3 : ((hdK L p).1 == 3) with
    | true => simp only [beq_iff_eq] at h3; simp [h3, he]
    | false =>
      simp only [beq_eq_false_iff_ne] at h3
      simp [h3, Cur.fail, he, r.first hb]

theorem tm2a {k : Nat} (h : k % 2 = 0) : (k : Int).tmod 2 = 0 := by
  have := Int.ofNat_tmod k 2
  simp only [Int.cast_ofNat_Int] at this
  rw [← this, h]; rfl
theorem tm2b {k : Nat} (h : k % 2 = 1) : (k : Int).tmod 2 = 1 := by
  have := Int.ofNat_tmod k 2
  simp only [Int.cast_ofNat_Int] at this
  rw [← this, h]; rfl
theorem fin_told (ft : Nat) {L : List Tk} {c : Cur} {p : Pl} (r : Rel L c p) : ((finR L p).1 = 0 ∧ errA ft (endC c).err = .nilIface) ∨ ((finR L p).1 ≠ 0 ∧ errA ft (endC c).err = .iface ft (.agg [.int .i64 (finR L p).1, .int .i64 (finR L p).2])) := by
  obtain ⟨h1, -, h3⟩ := fin_eq r
  rcases h3 with h3 | h3
  · exact .inl ⟨h3, by rw [h1, if_pos h3]; rfl⟩
  · exact .inr ⟨by rw [h3]; decide, by rw [h1, if_neg (by rw [h3]; decide), h3]; rfl⟩
end Go.Pv

import Derived.Test.YtpjkdaechknogaaDoorPvMc
import Derived.Test.YtpjkdaechknogaaDoorPvOc
set_option linter.all false
section
/- The sizes of expressions behind substituting and replacing. -/
namespace Go.Pv
open Go

theorem mul_add3 {a b c x y z M : Nat} (h1 : x ≤ a * M) (h2 : y ≤ b * M) (h3 : z ≤ c * M) : x + y + z ≤ (a + b + c) * M := by
  rw [Nat.add_mul, Nat.add_mul]; omega
theorem wts_map_le {M : Nat} {f : Ty → Ty} : ∀ l : List Ty, (∀ t ∈ l, wt (f t) ≤ wt t * M) → wts (l.map f) ≤ wts l * M
  | [], _ => by simp [wts]
  | t :: l, h => by
    have h1 := h t (by simp)
    have h2 := wts_map_le l fun x hx => h x (by simp [hx])
    simp only [List.map_cons, wts]
    rw [Nat.add_mul]; omega
theorem wtEs_map_le {M : Nat} {f : Exp → Exp} : ∀ l : List Exp, (∀ e ∈ l, wtE (f e) ≤ wtE e * M) → wtEs (l.map f) ≤ wtEs l * M
  | [], _ => by simp [wtEs]
  | t :: l, h => by
    have h1 := h t (by simp)
    have h2 := wtEs_map_le l fun x hx => h x (by simp [hx])
    simp only [List.map_cons, wtEs]
    rw [Nat.add_mul]; omega
theorem wtE_sub (ns : List Str) (as : List Ty) (M : Nat) (hM : 1 ≤ M) (h : ∀ a ∈ as, wt a ≤ M) : ∀ e : Exp, wtE (subE ns as e) ≤ wtE e * M := by
  intro e
  induction e using Exp.ind with
  | h k n t a l p ih =>
    rw [subE, subs_map, subEs_map, wtE_mk, wtE_mk]
    have h1 := wt_sub ns as M hM h t
    have h2 := wts_map_le a fun x _ => wt_sub ns as M hM h x
    have h3 := wtEs_map_le l ih
    have h4 : (n.length + 1) * 1 ≤ (n.length + 1) * M := Nat.mul_le_mul_left _ hM
    rw [Nat.add_mul, Nat.add_mul, Nat.add_mul]
    omega
theorem wtE_rep (vs : List Str) (xs : List Exp) (M : Nat) (hM : 1 ≤ M) (h : ∀ x ∈ xs, wtE x ≤ M) : ∀ e : Exp, wtE (repE vs xs e) ≤ wtE e * M := by
  intro e
  induction e using Exp.ind with
  | h k n t a l p ih =>
    have hp : 1 * M ≤ wtE (.mk k n t a l p) * M := Nat.mul_le_mul_right _ (wtE_pos _)
    rw [repE, repEs_map]
    split
    · rename_i hc
      have hm : xs.getD (idxF vs n 0).toNat ex0 ∈ xs := by
        have hlt : (idxF vs n 0).toNat < xs.length := by omega
        simp [List.getD_eq_getElem?_getD, hlt]
      have := h _ hm
      omega
    · rw [wtE_mk, wtE_mk]
      have h3 := wtEs_map_le l ih
      have h4 : (n.length + 1 + wt t + wts a) * 1 ≤ (n.length + 1 + wt t + wts a) * M := Nat.mul_le_mul_left _ hM
      rw [Nat.add_mul]
      omega
theorem repE_nil : ∀ e : Exp, repE [] [] e = e := by
  intro e
  induction e using Exp.ind with
  | h k n t a l p ih =>
    rw [repE, repEs_map, if_neg (by simp)]
    congr 1
    conv => rhs; rw [← List.map_id l]
    exact List.map_congr_left ih
end Go.Pv
end

section
/- What is read is right, and no larger than its text; whole texts. -/
namespace Go.Pv
open Go

/-! ### Right -/
theorem isErr {c : Cur} {α : Type} {rd : Cur → α × Cur} (h : ∀ c : Cur, c.err.isSome = true → (rd c).2 = c) (he : (rd c).2.err = none) : c.err = none := by
  cases hc : c.err with
  | none => rfl
  | some a =>
    have := h c (by rw [hc]; rfl)
    rw [this, hc] at he; cases he
theorem Cur.must_ok {c : Cur} {s : Str} (h : (c.must s).err = none) : c.err = none := by
  cases hc : c.err with
  | none => rfl
  | some a => rw [Cur.must_err (by rw [hc]; rfl), hc] at h; cases h
theorem Cur.name_ok {c : Cur} (h : c.name.err = none) : c.err = none ∧ c.named = true := by
  have h1 : c.err = none := by
    cases hc : c.err with
    | none => rfl
    | some a => rw [Cur.name_err (by rw [hc]; rfl), hc] at h; cases h
  refine ⟨h1, ?_⟩
  cases hn : c.named with
  | true => rfl
  | false => simp [Cur.name, hn, Cur.fail, h1] at h
theorem Cur.nm_ok {c : Cur} (h : c.named = true) : isName c.nm = true := by
  simp only [Cur.nm, h, if_true]
  simp only [Cur.named, Bool.and_eq_true] at h
  exact h.2
theorem loopC_err {α : Type} {rd : Cur → α × Cur} (m : Nat) (c : Cur) (he : c.err.isSome = true) : (loopC rd m c).2 = c := by
  cases m with
  | zero => rfl
  | succ m => rw [loopC, Cur.err_next he]; rfl
theorem loopC_ok {α : Type} {rd : Cur → α × Cur} {Q : α → Prop} (h : ∀ c : Cur, c.err.isSome = true → (rd c).2 = c) (hq : ∀ c, (rd c).2.err = none → Q (rd c).1) : ∀ (m : Nat) (c : Cur), (loopC rd m c).2.err = none → ∀ x ∈ (loopC rd m c).1, Q x
  | 0, c, _ => by simp [loopC]
  | m + 1, c, he => by
    rw [loopC] at he ⊢
    split
    · rename_i hn
      rw [if_pos hn] at he
      have he' : (loopC rd m (rd c.adv).2).2.err = none := he
      intro x hx
      rcases List.mem_cons.1 hx with rfl | hx
      · refine hq _ ?_
        cases hc : (rd c.adv).2.err with
        | none => rfl
        | some a => rw [loopC_err m _ (by rw [hc]; rfl), hc] at he'; cases he'
      · exact loopC_ok h hq m _ he' x hx
    · intro x hx; cases hx
theorem listC_ok {α : Type} {rd : Cur → α × Cur} {Q : α → Prop} (h : ∀ c : Cur, c.err.isSome = true → (rd c).2 = c) (hq : ∀ c, (rd c).2.err = none → Q (rd c).1) (c : Cur) (he : (listC rd c).2.err = none) : ∀ x ∈ (listC rd c).1, Q x := by
  intro x hx
  have he' : (loopC rd (rd c).2.l.length (rd c).2).2.err = none := he
  rcases List.mem_cons.1 hx with rfl | hx
  · refine hq _ ?_
    cases hc : (rd c).2.err with
    | none => rfl
    | some a => rw [loopC_err _ _ (by rw [hc]; rfl), hc] at he'; cases he'
  · exact loopC_ok h hq _ _ he' x hx
theorem targsC_ok {rd : Cur → Ty × Cur} (h : ∀ c : Cur, c.err.isSome = true → (rd c).2 = c) (hq : ∀ c, (rd c).2.err = none → rightT (rd c).1 = true) (c : Cur) (he : (targsC rd c).2.err = none) : ∀ x ∈ (targsC rd c).1, rightT x = true := by
  unfold targsC at he ⊢
  split
  · rename_i hn
    rw [if_pos hn] at he
    exact listC_ok h hq _ (Cur.must_ok he)
  · intro x hx; cases hx
theorem rightT_mk {n : Str} {ts : List Ty} {p : Int} (h : isName n = true) (ht : ∀ x ∈ ts, rightT x = true) : rightT (.mk n ts p) = true := by
  rw [rightT, lst, List.all_cons, h, Bool.true_and, List.all_eq_true]
  intro s hs
  rw [lsts_flat] at hs
  obtain ⟨l, hl, hs⟩ := List.mem_flatten.1 hs
  obtain ⟨t, ht1, rfl⟩ := List.mem_map.1 hl
  exact List.all_eq_true.1 (ht t ht1) s hs
theorem listC_okL {α : Type} {rd : Cur → α × Cur} {Q : α → Prop} (n : Nat) (hs : ∀ c, (rd c).2.l <:+ c.l) (h : ∀ c : Cur, c.err.isSome = true → (rd c).2 = c) (hq : ∀ c, c.l.length < n → (rd c).2.err = none → Q (rd c).1) (c : Cur) (hc : c.l.length < n) (he : (listC rd c).2.err = none) : ∀ x ∈ (listC rd c).1, Q x := by
  have key : ∀ (m : Nat) (c : Cur), c.l.length < n → (loopC rd m c).2.err = none → ∀ x ∈ (loopC rd m c).1, Q x := by
    intro m
    induction m with
    | zero => intro c _ _ x hx; cases hx
    | succ m ih =>
      intro c hc he
      rw [loopC] at he ⊢
      split
      · rename_i hn
        rw [if_pos hn] at he
        have he' : (loopC rd m (rd c.adv).2).2.err = none := he
        have h1 := Cur.adv_len hn
        have h2 := (hs c.adv).length_le
        intro x hx
        rcases List.mem_cons.1 hx with rfl | hx
        · refine hq _ (by omega) ?_
          cases hc : (rd c.adv).2.err with
          | none => rfl
          | some a => rw [loopC_err m _ (by rw [hc]; rfl), hc] at he'; cases he'
        · exact ih _ (by omega) he' x hx
      · intro x hx; cases hx
  intro x hx
  have he' : (loopC rd (rd c).2.l.length (rd c).2).2.err = none := he
  have h2 := (hs c).length_le
  rcases List.mem_cons.1 hx with rfl | hx
  · refine hq _ hc ?_
    cases hc : (rd c).2.err with
    | none => rfl
    | some a => rw [loopC_err _ _ (by rw [hc]; rfl), hc] at he'; cases he'
  · exact key _ _ (by omega) he' x hx
theorem typeC_ok : ∀ (n : Nat) (c : Cur), c.l.length < n → (typeC n c).2.err = none → rightT (typeC n c).1 = true
  | 0, c, h, _ => by omega
  | n + 1, c, hl, he => by
    have he' : (targsC (typeC n) c.name).2.err = none := he
    have h1 := Cur.name_ok (isErr (rd := targsC (typeC n)) (fun c h => targsC_err c h) he')
    refine rightT_mk (Cur.nm_ok h1.2) ?_
    show ∀ x ∈ (targsC (typeC n) c.name).1, rightT x = true
    unfold targsC at he' ⊢
    split
    · rename_i hn
      rw [if_pos hn] at he'
      have h2 := (Cur.name_next hn).2
      have h3 := Cur.adv_len hn
      have h4 := Cur.must_ok he'
      exact listC_okL n (typeC_suf n) (fun c h => typeC_err n c h) (fun c hc he => typeC_ok n c hc he) c.name.adv (by omega) h4
    · intro x hx; cases hx

/-! ### Sizes -/
def szC (c : Cur) : Nat := szK (c.l.map ktOf)
theorem szC_adv {c : Cur} {s : Str} (h : c.next s = true) : szC c.adv + (s.length + 1) = szC c := by
  obtain ⟨-, t, r, hl, -, ht⟩ := Cur.next_cons h
  subst ht
  simp [szC, Cur.adv, hl, szK, ktOf]; omega
theorem szC_fail (c : Cur) : szC c.fail = szC c := by rw [szC, Cur.fail_l]; rfl
theorem szC_must (c : Cur) (s : Str) : szC (c.must s) ≤ szC c := by
  unfold Cur.must
  split
  · rename_i h; have := szC_adv h; omega
  · rw [szC_fail]; exact Nat.le_refl _
theorem szC_name (c : Cur) : szC c.name + (if c.named then c.nm.length + 1 else 0) = szC c := by
  unfold Cur.name
  cases hn : c.named with
  | false => simp [szC_fail]
  | true =>
    obtain ⟨he, t, r, hl, -, -⟩ := Cur.named_cons hn
    simp [szC, Cur.adv, hl, szK, ktOf, Cur.nm, hn, Cur.first, he]; omega
theorem nm_bad {c : Cur} (h : c.named = false) : c.nm = [] := by simp [Cur.nm, h]
theorem name_bad_next {c : Cur} (h : c.named = false) (s : Str) : c.name.next s = false := by
  cases hn : c.name.next s with
  | false => rfl
  | true => rw [(Cur.name_next hn).1] at h; cases h

theorem targsC_sz {rd : Cur → Ty × Cur} (h : ∀ c, wt (rd c).1 + szC (rd c).2 ≤ szC c + 1) (c : Cur) : wts (targsC rd c).1 + szC (targsC rd c).2 ≤ szC c := by
  have key : ∀ (m : Nat) (c : Cur), wts (loopC rd m c).1 + szC (loopC rd m c).2 ≤ szC c := by
    intro m
    induction m with
    | zero => intro c; simp [loopC, wts]
    | succ m ih =>
      intro c
      rw [loopC]
      split
      · rename_i hn
        have h1 := szC_adv hn
        have h2 := h c.adv
        have h3 := ih (rd c.adv).2
        simp only [wts]
        simp only [List.length_cons, List.length_nil] at h1
        omega
      · simp [wts]
  unfold targsC
  split
  · rename_i hn
    have h1 := szC_adv hn
    have h2 := h c.adv
    have h3 := key (rd c.adv).2.l.length (rd c.adv).2
    have h4 := szC_must (listC rd c.adv).2 [93]
    simp only [List.length_cons, List.length_nil] at h1
    show wts (listC rd c.adv).1 + szC ((listC rd c.adv).2.must [93]) ≤ szC c
    have h5 : wts (listC rd c.adv).1 = wt (rd c.adv).1 + wts (loopC rd (rd c.adv).2.l.length (rd c.adv).2).1 := rfl
    have h6 : szC (listC rd c.adv).2 = szC (loopC rd (rd c.adv).2.l.length (rd c.adv).2).2 := rfl
    omega
  · simp [wts]
theorem typeC_sz : ∀ (n : Nat) (c : Cur), wt (typeC n c).1 + szC (typeC n c).2 ≤ szC c + 1
  | 0, c => by show wt ty0 + szC c ≤ szC c + 1; simp [ty0, wt, wts]; omega
  | n + 1, c => by
    have h1 := targsC_sz (typeC_sz n) c.name
    have h2 := szC_name c
    show wt (.mk c.nm (targsC (typeC n) c.name).1 c.at_) + szC (targsC (typeC n) c.name).2 ≤ szC c + 1
    simp only [wt]
    cases hn : c.named with
    | true => rw [hn] at h2; simp only [if_true] at h2; omega
    | false =>
      rw [hn] at h2
      simp only [Bool.false_eq_true, if_false, Nat.add_zero] at h2
      rw [nm_bad hn]
      simp only [List.length_nil]
      omega

/-! ### Ends -/
theorem TkL_ends {l : List Tk} (h : TkL (l.map ktOf)) : EndsT l := by
  generalize hk : l.map ktOf = m at h
  induction h generalizing l with
  | nil =>
    cases l with
    | nil => cases hk
    | cons t r =>
      cases r with
      | nil =>
        simp only [List.map_cons, List.map_nil, List.cons.injEq, and_true] at hk
        refine ⟨by simp, fun k hlt hne => ?_⟩
        have : k = 0 := by simp at hlt; omega
        subst this
        exact absurd (show t.1 = 3 from congrArg Prod.fst hk) hne
      | cons x r => simp at hk
  | word w l' hw hl ih =>
    cases l with
    | nil => cases hk
    | cons t r =>
      simp only [List.map_cons, List.cons.injEq] at hk
      obtain ⟨h1, h2⟩ := ih hk.2
      refine ⟨by simp, fun k hlt hne => ?_⟩
      cases k with
      | zero => simp; omega
      | succ k => have := h2 k (by simpa using hlt) (by simpa using hne); simp; omega
  | sign c l' hc hl ih =>
    cases l with
    | nil => cases hk
    | cons t r =>
      simp only [List.map_cons, List.cons.injEq] at hk
      obtain ⟨h1, h2⟩ := ih hk.2
      refine ⟨by simp, fun k hlt hne => ?_⟩
      cases k with
      | zero => simp; omega
      | succ k => have := h2 k (by simpa using hlt) (by simpa using hne); simp; omega
theorem lexT_ends {s : Str} {l : List Tk} {n : Nat} (h : lexT s = (some l, n)) : EndsT l := TkL_ends (lexT_some (lexT_bounds h).1 h).2.1

/-! ### Whole texts in the reference -/
def rtR (l : List Tk) : Ty × Pl := typeR l (l.length + 1) ⟨0, false⟩
def reR (l : List Tk) : Exp × Pl := exprR l (l.length + 1) ⟨0, false⟩
def wholeR {α : Type} (none_ : α) (rd : List Tk → α × Pl) (s : Str) : α × Int × Int :=
  match lexT s with
  | (none, m) => (none_, 1, m)
  | (some l, _) => if (finR l (rd l).2).1 = 0 then ((rd l).1, 0, 0) else (none_, (finR l (rd l).2).1, (finR l (rd l).2).2)

theorem rel0 {l : List Tk} (hE : EndsT l) : Rel l ⟨l, none⟩ ⟨0, false⟩ := ⟨by simp, hE.1, rfl, fun a h => by cases h⟩
theorem fin_eq {L : List Tk} {c : Cur} {p : Pl} (r : Rel L c p) : (endC c).err = (if (finR L p).1 = 0 then none else some (finR L p).2) ∧ ((finR L p).1 = 0 → p.bad = false) ∧ ((finR L p).1 = 0 ∨ (finR L p).1 = 2) := by
  unfold endC finR
  cases hb : p.bad with
  | true =>
    have he : c.err.isSome = true := by rw [r.err, hb]
    rw [Cur.err_first he]
    obtain ⟨a, ha⟩ := Option.isSome_iff_exists.1 he
    have := r.at_ a ha
    simp [tk0, ha, this]
  | false =>
    have he : c.err = none := by
      have := r.err
      rw [hb] at this
      simpa using this
    rw [r.first hb]
    cases h3 : ((hdK L p).1 == 3) with
    | true => simp only [beq_iff_eq] at h3; simp [h3, he]
    | false =>
      simp only [beq_eq_false_iff_ne] at h3
      simp [h3, Cur.fail, he, r.first hb]

/-- What both say of a text. -/
theorem whole_same {α : Type} (ft : Nat) (none_ : α) (rc : List Tk → α × Cur) (rr : List Tk → α × Pl) (s : Str)
    (h : ∀ l, EndsT l → Rel l (rc l).2 (rr l).2 ∧ ((rr l).2.bad = false → (rc l).1 = (rr l).1)) :
    (wholeC ft none_ rc s).1 = (wholeR none_ rr s).1 ∧ (((wholeR none_ rr s).2.1 = 0 ∧ (wholeC ft none_ rc s).2 = .nilIface ∧ ∃ l n, lexT s = (some l, n) ∧ (wholeC ft none_ rc s).1 = (rc l).1 ∧ (rc l).2.err = none) ∨
      ((wholeR none_ rr s).1 = none_ ∧ (wholeR none_ rr s).2.1 ≠ 0 ∧ (wholeC ft none_ rc s).2 = .iface ft (.agg [.int .i64 (wholeR none_ rr s).2.1, .int .i64 (wholeR none_ rr s).2.2]))) := by
  unfold wholeC wholeR
  cases hx : lexT s with
  | mk o n =>
    cases o with
    | none => exact ⟨rfl, .inr ⟨rfl, by simp, rfl⟩⟩
    | some l =>
      obtain ⟨h1, h2⟩ := h l (lexT_ends hx)
      obtain ⟨h3, h4, h5⟩ := fin_eq h1
      simp only []
      by_cases h0 : (finR l (rr l).2).1 = 0
      · rw [if_pos h0] at h3
        have hb := h4 h0
        simp only [h3, h0, Option.isSome_none, Bool.false_eq_true, if_false, if_true]
        refine ⟨h2 hb, .inl ⟨trivial, trivial, l, n, rfl, rfl, ?_⟩⟩
        have := h1.err
        rw [hb] at this
        simpa using this
      · rw [if_neg h0] at h3
        simp only [h3, h0, Option.isSome_some, if_true, if_false]
        refine ⟨trivial, .inr ⟨trivial, h0, ?_⟩⟩
        rcases h5 with h5 | h5
        · exact absurd h5 h0
        · rw [h5]; rfl
theorem type_same {l : List Tk} (hE : EndsT l) : Rel l (rdT l).2 (rtR l).2 ∧ ((rtR l).2.bad = false → (rdT l).1 = (rtR l).1) := by
  obtain ⟨h1, h2⟩ := (sim_type hE (l.length + 1)).sim _ _ (rel0 hE) (by simp)
  exact ⟨h1, fun h => (h2 h).2⟩
theorem expr_same {l : List Tk} (hE : EndsT l) : Rel l (rdE l).2 (reR l).2 ∧ ((reR l).2.bad = false → (rdE l).1 = (reR l).1) := by
  obtain ⟨h1, h2⟩ := (sim_expr hE (l.length + 1)).sim _ _ (rel0 hE) (by simp)
  exact ⟨h1, fun h => (h2 h).2⟩
theorem rdT_sz {s : Str} {l : List Tk} {n : Nat} (h : lexT s = (some l, n)) : wt (rdT l).1 ≤ 2 * s.length + 2 := by
  have h1 := typeC_sz (l.length + 1) ⟨l, none⟩
  obtain ⟨-, -, h3, -⟩ := lexT_some (lexT_bounds h).1 h
  have h4 : szC ⟨l, none⟩ = szK (l.map ktOf) := rfl
  show wt (typeC (l.length + 1) ⟨l, none⟩).1 ≤ _
  omega
end Go.Pv
end

import Derived.Test.YtpjkdaechknogaaGreatDoorPvRb
set_option linter.all false
section
/- What is read is right, and no larger than its text; whole texts. -/
namespace Go.Pv
open Go

theorem isErr {c : Cur} {α : Type} {rd : Cur → α × Cur} (h : ∀ c : Cur, c.err.isSome = true → (rd c).2 = c) (he : (rd c).2.err = none) : c.err = none := by
  cases hc : c.err with
  | none => rfl
  | some a =>
    have := h c (by rw [hc]; rfl)
    rw [this, hc] at he; cases he
theorem Cur.must_ok {c : Cur} {s : Str} (h : (c.must s).err = none) : c.err = none := by
  cases hc : c.err with
  | none => rfl
  | some a => rw [Cur.must_err (by rw [hc]; rfl), hc] at h; cases h
theorem Cur.name_ok {c : Cur} (h : c.name.err = none) : c.err = none ∧ c.named = true := by
  have h1 : c.err = none := by
    cases hc : c.err with
    | none => rfl
    | some a => rw [Cur.name_err (by rw [hc]; rfl), hc] at h; cases h
  refine ⟨h1, ?_⟩
  cases hn : c.named with
  | true => rfl
  | false => simp [Cur.name, hn, Cur.fail, h1] at h
theorem Cur.nm_ok {c : Cur} (h : c.named = true) : isName c.nm = true := by
  simp only [Cur.nm, h, if_true]
  simp only [Cur.named, Bool.and_eq_true] at h
  exact h.2
theorem loopC_err {α : Type} {rd : Cur → α × Cur} (m : Nat) (c : Cur) (he : c.err.isSome = true) : (loopC rd m c).2 = c := by
  cases m with
  | zero => rfl
  | succ m => rw [loopC, Cur.err_next he]; rfl
theorem rightT_mk {n : Str} {ts : List Ty} {p : Int} (h : isName n = true) (ht : ∀ x ∈ ts, rightT x = true) : rightT (.mk n ts p) = true := by
  rw [rightT, lst, List.all_cons, h, Bool.true_and, List.all_eq_true]
  intro s hs
  rw [lsts_flat] at hs
  obtain ⟨l, hl, hs⟩ := List.mem_flatten.1 hs
  obtain ⟨t, ht1, rfl⟩ := List.mem_map.1 hl
  exact List.all_eq_true.1 (ht t ht1) s hs
theorem listC_okL {α : Type} {rd : Cur → α × Cur} {Q : α → Prop} (n : Nat) (hs : ∀ c, (rd c).2.l <:+ c.l) (h : ∀ c : Cur, c.err.isSome = true → (rd c).2 = c) (hq : ∀ c, c.l.length < n → (rd c).2.err = none → Q (rd c).1) (c : Cur) (hc : c.l.length < n) (he : (listC rd c).2.err = none) : ∀ x ∈ (listC rd c).1, Q x := by
  have key : ∀ (m : Nat) (c : Cur), c.l.length < n → (loopC rd m c).2.err = none → ∀ x ∈ (loopC rd m c).1, Q x := by
    intro m
    induction m with
    | zero => intro c _ _ x hx; cases hx
    | succ m ih =>
      intro c hc he
      rw [loopC] at he ⊢
      split
      · rename_i hn
        rw [if_pos hn] at he
        have he' : (loopC rd m (rd c.adv).2).2.err = none := he
        have h1 := Cur.adv_len hn
        have h2 := (hs c.adv).length_le
        intro x hx
        rcases List.mem_cons.1 hx with rfl | hx
        · refine hq _ (by omega) ?_
          cases hc : (rd c.adv).2.err with
          | none => rfl
          | some a => rw [loopC_err m _ (by rw [hc]; rfl), hc] at he'; cases he'
        · exact ih _ (by omega) he' x hx
      · intro x hx; cases hx
  intro x hx
  have he' : (loopC rd (rd c).2.l.length (rd c).2).2.err = none := he
  have h2 := (hs c).length_le
  rcases List.mem_cons.1 hx with rfl | hx
  · refine hq _ hc ?_
    cases hc : (rd c).2.err with
    | none => rfl
    | some a => rw [loopC_err _ _ (by rw [hc]; rfl), hc] at he'; cases he'
  · exact key _ _ (by omega) he' x hx
theorem typeC_ok : ∀ (n : Nat) (c : Cur), c.l.length < n → (typeC n c).2.err = none → rightT (typeC n c).1 = true
  | 0, c, h, _ => by omega
  | n + 1, c, hl, he => by
    have he' : (targsC (typeC n) c.name).2.err = none := he
    have h1 := Cur.name_ok (isErr (rd := targsC (typeC n)) (fun c h => targsC_err c h) he')
    refine rightT_mk (Cur.nm_ok h1.2) ?_
    show ∀ x ∈ (targsC (typeC n) c.name).1, rightT x = true
    unfold targsC at he' ⊢
    split
    · rename_i hn
      rw [if_pos hn] at he'
      have h2 := (Cur.name_next hn).2
      have h3 := Cur.adv_len hn
      have h4 := Cur.must_ok he'
      exact listC_okL n (typeC_suf n) (fun c h => typeC_err n c h) (fun c hc he => typeC_ok n c hc he) c.name.adv (by omega) h4
    · intro x hx; cases hx

def szC (c : Cur) : Nat := szK (c.l.map ktOf)
theorem szC_adv {c : Cur} {s : Str} (h : c.next s = true) : szC c.adv + (s.length + 1) = szC c := by
  obtain ⟨-, t, r, hl, -, ht⟩ := Cur.next_cons h
  subst ht
  simp [szC, Cur.adv, hl, szK, ktOf]; omega
theorem szC_fail (c : Cur) : szC c.fail = szC c := by rw [szC, Cur.fail_l]; rfl
theorem szC_must (c : Cur) (s : Str) : szC (c.must s) ≤ szC c := by
  unfold Cur.must
  split
  · rename_i h; have := szC_adv h; omega
  · rw [szC_fail]; exact Nat.le_refl _
theorem szC_name (c : Cur) : szC c.name + (if c.named then c.nm.length + 1 else 0) = szC c := by
  unfold Cur.name
  cases hn : c.named with
  | false => simp [szC_fail]
  | true =>
    obtain ⟨he, t, r, hl, -, -⟩ := Cur.named_cons hn
    simp [szC, Cur.adv, hl, szK, ktOf, Cur.nm, hn, Cur.first, he]; omega
theorem nm_bad {c : Cur} (h : c.named = false) : c.nm = [] := by simp [Cur.nm, h]
theorem targsC_sz {rd : Cur → Ty × Cur} (h : ∀ c, wt (rd c).1 + szC (rd c).2 ≤ szC c + 1) (c : Cur) : wts (targsC rd c).1 + szC (targsC rd c).2 ≤ szC c := by
  have key : ∀ (m : Nat) (c : Cur), wts (loopC rd m c).1 + szC (loopC rd m c).2 ≤ szC c := by
    intro m
    induction m with
    | zero => intro c; simp [loopC, wts]
    | succ m ih =>
      intro c
      rw [loopC]
      split
      · rename_i hn
        have h1 := szC_adv hn
        have h2 := h c.adv
        have h3 := ih (rd c.adv).2
        simp only [wts]
        simp only [List.length_cons, List.length_nil] at h1
        omega
      · simp [wts]
  unfold targsC
  split
  · rename_i hn
    have h1 := szC_adv hn
    have h2 := h c.adv
    have h3 := key (rd c.adv).2.l.length (rd c.adv).2
    have h4 := szC_must (listC rd c.adv).2 [93]
    simp only [List.length_cons, List.length_nil] at h1
    show wts (listC rd c.adv).1 + szC ((listC rd c.adv).2.must [93]) ≤ szC c
    have h5 : wts (listC rd c.adv).1 = wt (rd c.adv).1 + wts (loopC rd (rd c.adv).2.l.length (rd c.adv).2).1 := rfl
    have h6 : szC (listC rd c.adv).2 = szC (loopC rd (rd c.adv).2.l.length (rd c.adv).2).2 := rfl
    omega
  · simp [wts]
theorem typeC_sz : ∀ (n : Nat) (c : Cur), wt (typeC n c).1 + szC (typeC n c).2 ≤ szC c + 1
  | 0, c => by show wt ty0 + szC c ≤ szC c + 1; simp [ty0, wt, wts]; omega
  | n + 1, c => by
    have h1 := targsC_sz (typeC_sz n) c.name
    have h2 := szC_name c
    show wt (.mk c.nm (targsC (typeC n) c.name).1 c.at_) + szC (targsC (typeC n) c.name).2 ≤ szC c + 1
    simp only [wt]
    cases hn : c.named with
    | true => rw [hn] at h2; simp only [if_true] at h2; omega
    | false =>
      rw [hn] at h2
      simp only [Bool.false_eq_true, if_false, Nat.add_zero] at h2
      rw [nm_bad hn]
      simp only [List.length_nil]
      omega

theorem TkL_ends {l : List Tk} (h : TkL (l.map ktOf)) : EndsT l := by
  generalize hk : l.map ktOf = m at h
  induction h generalizing l with
  | nil =>
    cases l with
    | nil => cases hk
    | cons t r =>
      cases r with
      | nil =>
        simp only [List.map_cons, List.map_nil, List.cons.injEq, and_true] at hk
        refine ⟨by simp, fun k hlt hne => ?_⟩
        have : k = 0 := by simp at hlt; omega
        subst this
        exact absurd (show t.1 = 3 from congrArg Prod.fst hk) hne
      | cons x r => simp at hk
  | word w l' hw hl ih =>
    cases l with
    | nil => cases hk
    | cons t r =>
      simp only [List.map_cons, List.cons.injEq] at hk
      obtain ⟨h1, h2⟩ := ih hk.2
      refine ⟨by simp, fun k hlt hne => ?_⟩
      cases k with
      | zero => simp; omega
      | succ k => have := h2 k (by simpa using hlt) (by simpa using hne); simp; omega
  | sign c l' hc hl ih =>
    cases l with
    | nil => cases hk
    | cons t r =>
      simp only [List.map_cons, List.cons.injEq] at hk
      obtain ⟨h1, h2⟩ := ih hk.2
      refine ⟨by simp, fun k hlt hne => ?_⟩
      cases k with
      | zero => simp; omega
      | succ k => have := h2 k (by simpa using hlt) (by simpa using hne); simp; omega
theorem lexT_ends {s : Str} {l : List Tk} {n : Nat} (h : lexT s = (some l, n)) : EndsT l := TkL_ends (lexT_some (lexT_bounds h).1 h).2.1

def rtR (l : List Tk) : Ty × Pl := typeR l (l.length + 1) ⟨0, false⟩
def reR (l : List Tk) : Exp × Pl := exprR l (l.length + 1) ⟨0, false⟩
def wholeR {α : Type} (none_ : α) (rd : List Tk → α × Pl) (s : Str) : α × Int × Int :=
  match lexT s with
  | (none, m) => (none_, 1, m)
  | (some l, _) => if (finR l (rd l).2).1 = 0 then ((rd l).1, 0, 0) else (none_, (finR l (rd l).2).1, (finR l (rd l).2).2)

theorem rel0 {l : List Tk} (hE : EndsT l) : Rel l ⟨l, none⟩ ⟨0, false⟩ := ⟨by simp, hE.1, rfl, fun a h => by cases h⟩
theorem fin_eq {L : List Tk} {c : Cur} {p : Pl} (r : Rel L c p) : (endC c).err = (if (finR L p).1 = 0 then none else some (finR L p).2) ∧ ((finR L p).1 = 0 → p.bad = false) ∧ ((finR L p).1 = 0 ∨ (finR L p).1 = 2) := by
  unfold endC finR
  cases hb : p.bad with
  | true =>
    have he : c.err.isSome = true := by rw [r.err, hb]
    rw [Cur.err_first he]
    obtain ⟨a, ha⟩ := Option.isSome_iff_exists.1 he
    have := r.at_ a ha
    simp [tk0, ha, this]
  | false =>
    have he : c.err = none := by
      have := r.err
      rw [hb] at this
      simpa using this
    rw [r.first hb]
    cases h3 : ((hdK L p).1 == 3) with
    | true => simp only [beq_iff_eq] at h3; simp [h3, he]
    | false =>
      simp only [beq_eq_false_iff_ne] at h3
      simp [h3, Cur.fail, he, r.first hb]

theorem whole_same {α : Type} (ft : Nat) (none_ : α) (rc : List Tk → α × Cur) (rr : List Tk → α × Pl) (s : Str)
    (h : ∀ l, EndsT l → Rel l (rc l).2 (rr l).2 ∧ ((rr l).2.bad = false → (rc l).1 = (rr l).1)) :
    (wholeC ft none_ rc s).1 = (wholeR none_ rr s).1 ∧ (((wholeR none_ rr s).2.1 = 0 ∧ (wholeC ft none_ rc s).2 = .nilIface ∧ ∃ l n, lexT s = (some l, n) ∧ (wholeC ft none_ rc s).1 = (rc l).1 ∧ (rc l).2.err = none) ∨
      ((wholeR none_ rr s).1 = none_ ∧ (wholeR none_ rr s).2.1 ≠ 0 ∧ (wholeC ft none_ rc s).2 = .iface ft (.agg [.int .i64 (wholeR none_ rr s).2.1, .int .i64 (wholeR none_ rr s).2.2]))) := by
  unfold wholeC wholeR
  cases hx : lexT s with
  | mk o n =>
    cases o with
    | none => exact ⟨rfl, .inr ⟨rfl, by simp, rfl⟩⟩
    | some l =>
      obtain ⟨h1, h2⟩ := h l (lexT_ends hx)
      obtain ⟨h3, h4, h5⟩ := fin_eq h1
      simp only []
      by_cases h0 : (finR l (rr l).2).1 = 0
      · rw [if_pos h0] at h3
        have hb := h4 h0
        simp only [h3, h0, Option.isSome_none, Bool.false_eq_true, if_false, if_true]
        refine ⟨h2 hb, .inl ⟨trivial, trivial, l, n, rfl, rfl, ?_⟩⟩
        have := h1.err
        rw [hb] at this
        simpa using this
      · rw [if_neg h0] at h3
        simp only [h3, h0, Option.isSome_some, if_true, if_false]
        refine ⟨trivial, .inr ⟨trivial, h0, ?_⟩⟩
        rcases h5 with h5 | h5
        · exact absurd h5 h0
        · rw [h5]; rfl
theorem expr_same {l : List Tk} (hE : EndsT l) : Rel l (rdE l).2 (reR l).2 ∧ ((reR l).2.bad = false → (rdE l).1 = (reR l).1) := by
  obtain ⟨h1, h2⟩ := (sim_expr hE (l.length + 1)).sim _ _ (rel0 hE) (by simp)
  exact ⟨h1, fun h => (h2 h).2⟩
end Go.Pv
end

section
/- Expressions that are read are right, and no larger than their texts. -/
namespace Go.Pv
open Go

theorem argsC_err {rd : Cur → Exp × Cur} (h : ∀ c : Cur, c.err.isSome = true → (rd c).2 = c) (e : Str) (c : Cur) (he : c.err.isSome = true) : (argsC rd e c).2 = c := by
  rw [argsC, Cur.err_next he]
  show ((listC rd c).2.must e) = c
  rw [listC_err h c he, Cur.must_err he]
theorem targs_okL {q : Nat} (c : Cur) (hn : c.next [91] = true → c.adv.l.length < q) (he : (targsC (typeC q) c).2.err = none) : ∀ x ∈ (targsC (typeC q) c).1, rightT x = true := by
  unfold targsC at he ⊢
  split
  · rename_i h
    rw [if_pos h] at he
    exact listC_okL q (typeC_suf q) (fun c h => typeC_err q c h) (fun c hc he => typeC_ok q c hc he) c.adv (hn h) (Cur.must_ok he)
  · intro x hx; cases hx
theorem args_okL {q : Nat} (hx : ∀ c, c.l.length < q → (exprC q c).2.err = none → rightE (exprC q c).1 = true) (e : Str) (c : Cur) (hc : c.l.length < q) (he : (argsC (exprC q) e c).2.err = none) : ∀ x ∈ (argsC (exprC q) e c).1, rightE x = true := by
  unfold argsC at he ⊢
  split
  · intro x hx; cases hx
  · rename_i h
    rw [if_neg h] at he
    exact listC_okL q (exprC_suf q) (fun c h => exprC_err q c h) hx c hc (Cur.must_ok he)
theorem named_adv {q : Nat} {c : Cur} (hc : c.l.length < q + 1) : c.name.next [91] = true → c.name.adv.l.length < q := fun h => by
  have h1 := (Cur.name_next h).2
  have h2 := c.name.adv_suf.length_le
  omega
theorem rest_ok {q : Nat} (hx : ∀ c, c.l.length < q → (exprC q c).2.err = none → rightE (exprC q c).1 = true) (e : Exp) (c : Cur) (hr : rightE e = true) (hc : c.l.length < q) (he : (restC (typeC q) (exprC q) e c).2.err = none) : rightE (restC (typeC q) (exprC q) e c).1 = true := by
  unfold restC at he ⊢
  have hal := c.adv_suf.length_le
  have hnl := c.name_suf.length_le
  split
  · rename_i h
    rw [if_pos h] at he
    have hT := typeC_ok q c.adv (by omega) (Cur.must_ok he)
    simp [rightE_ok, rightEs, okT, bodyE, typedE, kidsE, hT, hr]
  · rename_i h
    rw [if_neg h] at he
    split
    · rename_i h2
      rw [if_pos h2] at he
      have hn := Cur.nm_ok (Cur.name_ok he).2
      simp [rightE_ok, rightEs, okT, bodyE, typedE, kidsE, hn, hr, ty0]
    · rename_i h2
      rw [if_neg h2] at he
      have h3 := isErr (rd := argsC (exprC q) [41]) (fun c h => argsC_err (fun c h => exprC_err q c h) [41] c h) he
      have h4 := Cur.must_ok h3
      have h5 := isErr (rd := targsC (typeC q)) (fun c h => targsC_err c h) h4
      have hn := Cur.nm_ok (Cur.name_ok h5).2
      have ha := targs_okL c.name (named_adv (by omega)) h4
      have hgl := (targsC_suf (typeC_suf q) c.name).length_le
      have hml := ((targsC (typeC q) c.name).2.must_suf [40]).length_le
      have hk := args_okL hx [41] ((targsC (typeC q) c.name).2.must [40]) (by omega) he
      have hks : rightEs (argsC (exprC q) [41] ((targsC (typeC q) c.name).2.must [40])).1 = true := by rw [rightEs_all, List.all_eq_true]; exact hk
      have has : (targsC (typeC q) c.name).1.all rightT = true := List.all_eq_true.2 ha
      simp [rightE_ok, rightEs, okT, bodyE, typedE, kidsE, hn, hr, ty0, hks]
      exact .inr ha
theorem dots_ok {q : Nat} (hx : ∀ c, c.l.length < q → (exprC q c).2.err = none → rightE (exprC q c).1 = true) : ∀ (m : Nat) (e : Exp) (c : Cur), (c.err = none → rightE e = true) → c.l.length ≤ q → (dotsC (restC (typeC q) (exprC q)) m e c).2.err = none → rightE (dotsC (restC (typeC q) (exprC q)) m e c).1 = true
  | 0, e, c, hr, _, he => hr he
  | m + 1, e, c, hr, hc, he => by
    rw [dotsC] at he ⊢
    split
    · rename_i h
      rw [if_pos h] at he
      have h1 := Cur.adv_len h
      have h2 := (restC_suf (typeC_suf q) (exprC_suf q) e c.adv).length_le
      have h3 := (Cur.next_cons h).1
      exact dots_ok hx m _ _ (fun h4 => rest_ok hx e c.adv (hr h3) (by omega) h4) (by omega) he
    · rename_i h
      rw [if_neg h] at he
      exact hr he
theorem base_ok {q : Nat} (hx : ∀ c, c.l.length < q → (exprC q c).2.err = none → rightE (exprC q c).1 = true) (c : Cur) (hc : c.l.length < q + 1) (he : (baseC (typeC q) (exprC q) c).2.err = none) : rightE (baseC (typeC q) (exprC q) c).1 = true := by
  unfold baseC at he ⊢
  split
  · rename_i h
    rw [if_pos h] at he
    have h3 := isErr (rd := argsC (exprC q) [125]) (fun c h => argsC_err (fun c h => exprC_err q c h) [125] c h) he
    have h4 := Cur.must_ok h3
    have h5 := isErr (rd := targsC (typeC q)) (fun c h => targsC_err c h) h4
    have hn := Cur.nm_ok (Cur.name_ok h5).2
    have ha := targs_okL c.name (named_adv (by omega)) h4
    have hgl := (targsC_suf (typeC_suf q) c.name).length_le
    have hml := ((targsC (typeC q) c.name).2.must_suf [123]).length_le
    have hnn : c.name.l.length + 1 = c.l.length := by
      rcases Bool.or_eq_true _ _ ▸ h with h | h <;> exact (Cur.name_next h).2
    have hk := args_okL hx [125] ((targsC (typeC q) c.name).2.must [123]) (by omega) he
    have hks : rightEs (argsC (exprC q) [125] ((targsC (typeC q) c.name).2.must [123])).1 = true := by rw [rightEs_all, List.all_eq_true]; exact hk
    have hT : rightT (.mk c.nm (targsC (typeC q) c.name).1 c.at_) = true := rightT_mk hn ha
    simp [rightE_ok, okT, bodyE, typedE, kidsE, hks, hT]
  · rename_i h
    rw [if_neg h] at he
    have hn := Cur.nm_ok (Cur.name_ok he).2
    simp [rightE_ok, rightEs, okT, bodyE, typedE, kidsE, hn, ty0]
theorem exprC_ok : ∀ (n : Nat) (c : Cur), c.l.length < n → (exprC n c).2.err = none → rightE (exprC n c).1 = true
  | 0, c, h, _ => by omega
  | q + 1, c, hl, he => by
    have hx := exprC_ok q
    have hb := (baseC_suf (typeC_suf q) (exprC_suf q) c).length_le
    exact dots_ok hx _ _ _ (fun h => base_ok hx c hl h) (by omega) he

theorem args_sz {rd : Cur → Exp × Cur} (h : ∀ c, wtE (rd c).1 + 2 * szC (rd c).2 ≤ 2 * szC c + 2) (e : Str) (c : Cur) : wtEs (argsC rd e c).1 + 2 * szC (argsC rd e c).2 ≤ 2 * szC c + 2 := by
  have key : ∀ (m : Nat) (c : Cur), wtEs (loopC rd m c).1 + 2 * szC (loopC rd m c).2 ≤ 2 * szC c := by
    intro m
    induction m with
    | zero => intro c; simp [loopC, wtEs]
    | succ m ih =>
      intro c
      rw [loopC]
      split
      · rename_i hn
        have h1 := szC_adv hn
        have h2 := h c.adv
        have h3 := ih (rd c.adv).2
        simp only [wtEs]
        simp only [List.length_cons, List.length_nil] at h1
        omega
      · simp [wtEs]
  unfold argsC
  split
  · have := szC_must c e
    simp only [wtEs]; omega
  · have h2 := h c
    have h3 := key (rd c).2.l.length (rd c).2
    have h4 := szC_must (listC rd c).2 e
    show wtEs (listC rd c).1 + 2 * szC ((listC rd c).2.must e) ≤ 2 * szC c + 2
    have h5 : wtEs (listC rd c).1 = wtE (rd c).1 + wtEs (loopC rd (rd c).2.l.length (rd c).2).1 := rfl
    have h6 : szC (listC rd c).2 = szC (loopC rd (rd c).2.l.length (rd c).2).2 := rfl
    omega
theorem rest_sz {q : Nat} (h : ∀ c, wtE (exprC q c).1 + 2 * szC (exprC q c).2 ≤ 2 * szC c + 2) (e : Exp) (c : Cur) : wtE (restC (typeC q) (exprC q) e c).1 + 2 * szC (restC (typeC q) (exprC q) e c).2 ≤ wtE e + 2 * szC c + 4 := by
  have hnm := szC_name c
  have hnb : c.named = false → c.nm.length = 0 := fun h => by rw [nm_bad h]; rfl
  have h0 : wt ty0 = 1 := rfl
  unfold restC
  split
  · rename_i hn
    have h1 := szC_adv hn
    have h2 := typeC_sz q c.adv
    have h3 := szC_must (typeC q c.adv).2 [41]
    show wtE (.mk 5 [] (typeC q c.adv).1 [] [e] c.first.2.2) + 2 * szC ((typeC q c.adv).2.must [41]) ≤ _
    simp only [List.length_cons, List.length_nil] at h1
    rw [wtE_mk]; simp only [wts, wtEs, List.length_nil]
    omega
  · split
    · show wtE (.mk 4 c.nm ty0 [] [e] c.at_) + 2 * szC c.name ≤ _
      rw [wtE_mk]; simp only [wts, wtEs]
      cases hd : c.named with
      | true => rw [hd] at hnm; simp only [if_true] at hnm; omega
      | false => rw [hd] at hnm; have := hnb hd; simp only [Bool.false_eq_true, if_false] at hnm; omega
    · have h1 := targsC_sz (typeC_sz q) c.name
      have h2 := szC_must (targsC (typeC q) c.name).2 [40]
      have h3 := args_sz h [41] ((targsC (typeC q) c.name).2.must [40])
      show wtE (.mk 2 c.nm ty0 (targsC (typeC q) c.name).1 (e :: (argsC (exprC q) [41] ((targsC (typeC q) c.name).2.must [40])).1) c.at_) + 2 * szC (argsC (exprC q) [41] ((targsC (typeC q) c.name).2.must [40])).2 ≤ _
      rw [wtE_mk]; simp only [wtEs]
      cases hd : c.named with
      | true => rw [hd] at hnm; simp only [if_true] at hnm; omega
      | false => rw [hd] at hnm; have := hnb hd; simp only [Bool.false_eq_true, if_false] at hnm; omega
theorem dots_sz {q : Nat} (h : ∀ c, wtE (exprC q c).1 + 2 * szC (exprC q c).2 ≤ 2 * szC c + 2) : ∀ (m : Nat) (e : Exp) (c : Cur), wtE (dotsC (restC (typeC q) (exprC q)) m e c).1 + 2 * szC (dotsC (restC (typeC q) (exprC q)) m e c).2 ≤ wtE e + 2 * szC c
  | 0, e, c => Nat.le_refl _
  | m + 1, e, c => by
    rw [dotsC]
    split
    · rename_i hn
      have h1 := szC_adv hn
      have h2 := rest_sz h e c.adv
      have h3 := dots_sz h m (restC (typeC q) (exprC q) e c.adv).1 (restC (typeC q) (exprC q) e c.adv).2
      simp only [List.length_cons, List.length_nil] at h1
      omega
    · exact Nat.le_refl _
theorem exprC_sz : ∀ (n : Nat) (c : Cur), wtE (exprC n c).1 + 2 * szC (exprC n c).2 ≤ 2 * szC c + 2
  | 0, c => by show wtE ex0 + 2 * szC c ≤ 2 * szC c + 2; have : wtE ex0 = 2 := rfl; omega
  | q + 1, c => by
    have h := exprC_sz q
    have hd := dots_sz h (baseC (typeC q) (exprC q) c).2.l.length (baseC (typeC q) (exprC q) c).1 (baseC (typeC q) (exprC q) c).2
    have hb : wtE (baseC (typeC q) (exprC q) c).1 + 2 * szC (baseC (typeC q) (exprC q) c).2 ≤ 2 * szC c + 2 := by
      have hnm := szC_name c
      have h0 : wt ty0 = 1 := rfl
      unfold baseC
      split
      · rename_i hn
        have hd : c.named = true := by
          rcases Bool.or_eq_true _ _ ▸ hn with h | h <;> exact (Cur.name_next h).1
        have h1 := targsC_sz (typeC_sz q) c.name
        have h2 := szC_must (targsC (typeC q) c.name).2 [123]
        have h3 := args_sz h [125] ((targsC (typeC q) c.name).2.must [123])
        show wtE (.mk 3 [] (.mk c.nm (targsC (typeC q) c.name).1 c.at_) [] (argsC (exprC q) [125] ((targsC (typeC q) c.name).2.must [123])).1 c.at_) + 2 * szC (argsC (exprC q) [125] ((targsC (typeC q) c.name).2.must [123])).2 ≤ _
        rw [wtE_mk]; simp only [wts, wt, List.length_nil]
        rw [hd] at hnm; simp only [if_true] at hnm
        omega
      · show wtE (.mk 1 c.nm ty0 [] [] c.at_) + 2 * szC c.name ≤ _
        rw [wtE_mk]; simp only [wts, wtEs]
        cases hd : c.named with
        | true => rw [hd] at hnm; simp only [if_true] at hnm; omega
        | false => rw [hd] at hnm; have : c.nm.length = 0 := (by rw [nm_bad hd]; rfl); simp only [Bool.false_eq_true, if_false] at hnm; omega
    exact Nat.le_trans hd hb
theorem rdE_sz {s : Str} {l : List Tk} {n : Nat} (h : lexT s = (some l, n)) : wtE (rdE l).1 ≤ 4 * s.length + 4 := by
  have h1 := exprC_sz (l.length + 1) ⟨l, none⟩
  obtain ⟨-, -, h3, -⟩ := lexT_some (lexT_bounds h).1 h
  have h4 : szC ⟨l, none⟩ = szK (l.map ktOf) := rfl
  show wtE (exprC (l.length + 1) ⟨l, none⟩).1 ≤ _
  omega
end Go.Pv
end

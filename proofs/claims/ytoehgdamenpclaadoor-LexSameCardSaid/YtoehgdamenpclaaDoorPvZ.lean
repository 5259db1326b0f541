/- The texts of right types tell them apart. -/
import Derived.Test.YtoehgdamenpclaaDoorPvY
namespace Go.Pv
open Go

theorem isName_all {s : Str} (h : isName s = true) : s.all goodB = true := by
  unfold isName at h
  split at h
  · cases h
  · simp only [Bool.and_eq_true] at h; exact h.1.2

/-- What follows a name. -/
def endB (x : Str) : Prop := x = [] ∨ ∃ c r, x = c :: r ∧ goodB c = false

theorem span_good : ∀ (n m a b : Str), n.all goodB = true → m.all goodB = true → endB a → endB b → n ++ a = m ++ b → n = m ∧ a = b
  | [], [], a, b, _, _, _, _, h => ⟨rfl, h⟩
  | [], y :: m, a, b, _, hm, ha, _, h => by
    simp only [List.all_cons, Bool.and_eq_true] at hm
    rcases ha with rfl | ⟨c, r, rfl, hc⟩
    · simp at h
    · simp only [List.nil_append, List.cons_append, List.cons.injEq] at h
      rw [h.1, hm.1] at hc; cases hc
  | x :: n, [], a, b, hn, _, _, hb, h => by
    simp only [List.all_cons, Bool.and_eq_true] at hn
    rcases hb with rfl | ⟨c, r, rfl, hc⟩
    · simp at h
    · simp only [List.nil_append, List.cons_append, List.cons.injEq] at h
      rw [← h.1, hn.1] at hc; cases hc
  | x :: n, y :: m, a, b, hn, hm, ha, hb, h => by
    simp only [List.all_cons, Bool.and_eq_true] at hn hm
    simp only [List.cons_append, List.cons.injEq] at h
    obtain ⟨h1, h2⟩ := span_good n m a b hn.2 hm.2 ha hb h.2
    exact ⟨by rw [h.1, h1], h2⟩

/-- What follows a type. -/
def endT (x : Str) : Prop := x = [] ∨ ∃ c r, x = c :: r ∧ (c = 93 ∨ c = 44)
theorem endT_B {x : Str} (h : endT x) : endB x := by
  rcases h with h | ⟨c, r, h, hc⟩
  · exact .inl h
  · refine .inr ⟨c, r, h, ?_⟩
    rcases hc with rfl | rfl <;> decide

/-- The further elements of a list. -/
def tailT (l : List Ty) : Str := Lib.joinTail [44, 32] (txts l)
theorem tailT_nil : tailT [] = [] := rfl
theorem tailT_cons (t : Ty) (l : List Ty) : tailT (t :: l) = 44 :: 32 :: (txt t ++ tailT l) := by simp [tailT, Lib.joinTail, txts]
theorem txt_nil (n : Str) (p : Int) : txt (.mk n [] p) = n := by simp [txt]
theorem txt_cons (n : Str) (t : Ty) (l : List Ty) (p : Int) : txt (.mk n (t :: l) p) = n ++ (91 :: (txt t ++ (tailT l ++ [93]))) := by
  simp [txt, txts, Lib.join_cons, tailT, List.append_assoc]
theorem right_name {n : Str} {ts : List Ty} {p : Int} (h : rightT (.mk n ts p) = true) : isName n = true ∧ ∀ t ∈ ts, rightT t = true := by
  simp only [rightT, lst, List.all_cons, Bool.and_eq_true] at h
  refine ⟨h.1, fun t ht => ?_⟩
  rw [rightT, List.all_eq_true]
  intro s hs
  exact List.all_eq_true.1 h.2 s (by rw [lsts_flat]; exact List.mem_flatten.2 ⟨lst t, List.mem_map.2 ⟨t, ht, rfl⟩, hs⟩)

theorem endT_tail (l : List Ty) (x : Str) : endT (tailT l ++ 93 :: x) := by
  cases l with
  | nil => exact .inr ⟨93, x, rfl, .inl rfl⟩
  | cons t l => rw [tailT_cons]; exact .inr ⟨44, _, rfl, .inr rfl⟩

theorem txt_inj : ∀ t u : Ty, rightT t = true → rightT u = true → ∀ x y : Str, endT x → endT y → txt t ++ x = txt u ++ y → cmpT t u = 0 ∧ x = y := by
  intro t
  induction t using Ty.ind with
  | h n ts p ih =>
    intro u ht hu x y hx hy he
    obtain ⟨m, us, q⟩ := u
    obtain ⟨hn, hts⟩ := right_name ht
    obtain ⟨hm, hus⟩ := right_name hu
    have key : ∀ l : List Ty, (∀ t ∈ l, ∀ u : Ty, rightT t = true → rightT u = true → ∀ x y : Str, endT x → endT y → txt t ++ x = txt u ++ y → cmpT t u = 0 ∧ x = y) →
        ∀ k : List Ty, (∀ t ∈ l, rightT t = true) → (∀ t ∈ k, rightT t = true) → ∀ x y : Str, tailT l ++ 93 :: x = tailT k ++ 93 :: y → cmpTs l k = 0 ∧ x = y := by
      intro l
      induction l with
      | nil =>
        intro _ k _ _ x y h
        cases k with
        | nil => simp only [tailT_nil, List.nil_append, List.cons.injEq, true_and] at h; exact ⟨rfl, h⟩
        | cons u k => simp [tailT_nil, tailT_cons] at h
      | cons t l ihl =>
        intro h k hl hk x y he
        cases k with
        | nil => simp [tailT_nil, tailT_cons] at he
        | cons u k =>
          rw [tailT_cons, tailT_cons] at he
          simp only [List.cons_append, List.cons.injEq, true_and, List.append_assoc] at he
          obtain ⟨h1, h2⟩ := h t (by simp) u (hl t (by simp)) (hk u (by simp)) _ _ (endT_tail l x) (endT_tail k y) he
          obtain ⟨h3, h4⟩ := ihl (fun z hz => h z (by simp [hz])) k (fun z hz => hl z (by simp [hz])) (fun z hz => hk z (by simp [hz])) x y h2
          rw [cmpTs_cons, if_pos h1]
          exact ⟨h3, h4⟩
    have hb : ∀ (l : List Ty) (z : Str), endB (91 :: z) := fun _ z => .inr ⟨91, z, rfl, by decide⟩
    cases ts with
    | nil =>
      rw [txt_nil] at he
      cases us with
      | nil =>
        rw [txt_nil] at he
        obtain ⟨h1, h2⟩ := span_good n m x y (isName_all hn) (isName_all hm) (endT_B hx) (endT_B hy) he
        refine ⟨?_, h2⟩
        rw [cmpT_mk, if_pos ((cmpS_eq n m).2 h1)]; rfl
      | cons u us =>
        rw [txt_cons, List.append_assoc] at he
        obtain ⟨h1, h2⟩ := span_good n m x _ (isName_all hn) (isName_all hm) (endT_B hx) (hb [] _) he
        rcases hx with rfl | ⟨c, r, rfl, hc⟩
        · simp at h2
        · simp only [List.cons_append, List.cons.injEq] at h2
          rcases hc with hc | hc <;> rw [h2.1] at hc <;> exact absurd hc (by decide)
    | cons t ts =>
      rw [txt_cons, List.append_assoc] at he
      cases us with
      | nil =>
        rw [txt_nil] at he
        obtain ⟨h1, h2⟩ := span_good n m _ y (isName_all hn) (isName_all hm) (hb [] _) (endT_B hy) he
        rcases hy with rfl | ⟨c, r, rfl, hc⟩
        · simp at h2
        · simp only [List.cons_append, List.cons.injEq] at h2
          rcases hc with hc | hc <;> rw [← h2.1] at hc <;> exact absurd hc (by decide)
      | cons u us =>
        rw [txt_cons, List.append_assoc] at he
        obtain ⟨h1, h2⟩ := span_good n m _ _ (isName_all hn) (isName_all hm) (hb [] _) (hb [] _) he
        have h2' : (txt t ++ (tailT ts ++ [93])) ++ x = (txt u ++ (tailT us ++ [93])) ++ y := (List.cons.inj h2).2
        clear h2
        have h2 : txt t ++ (tailT ts ++ 93 :: x) = txt u ++ (tailT us ++ 93 :: y) := by simpa [List.append_assoc] using h2'
        obtain ⟨h3, h4⟩ := ih t (by simp) u (hts t (by simp)) (hus u (by simp)) _ _ (endT_tail ts x) (endT_tail us y) h2
        obtain ⟨h5, h6⟩ := key ts (fun z hz => ih z (by simp [hz])) us (fun z hz => hts z (by simp [hz])) (fun z hz => hus z (by simp [hz])) x y h4
        refine ⟨?_, h6⟩
        rw [cmpT_mk, if_pos ((cmpS_eq n m).2 h1), cmpTs_cons, if_pos h3, h5]

theorem cmpT_txt : ∀ t u : Ty, cmpT t u = 0 → txt t = txt u := by
  intro t
  induction t using Ty.ind with
  | h n ts p ih =>
    intro u h
    obtain ⟨m, us, q⟩ := u
    have key : ∀ l : List Ty, (∀ t ∈ l, ∀ u : Ty, cmpT t u = 0 → txt t = txt u) → ∀ k : List Ty, cmpTs l k = 0 → txts l = txts k := by
      intro l
      induction l with
      | nil => intro _ k h; cases k with
        | nil => rfl
        | cons u k => simp [cmpTs] at h
      | cons t l ihl => intro h k hk; cases k with
        | nil => simp [cmpTs] at hk
        | cons u k =>
          rw [cmpTs_cons] at hk
          by_cases h0 : cmpT t u = 0
          · rw [if_pos h0] at hk
            rw [txts, txts, h t (by simp) u h0, ihl (fun z hz => h z (by simp [hz])) k hk]
          · rw [if_neg h0] at hk; exact absurd hk h0
    rw [cmpT_mk] at h
    by_cases h0 : cmpS n m = 0
    · rw [if_pos h0] at h
      have h1 := (cmpS_eq n m).1 h0
      have h2 := key ts ih us h
      subst h1
      rw [txt, txt, h2]
      have h3 : ts.isEmpty = us.isEmpty := by
        have := congrArg List.length h2
        rw [txts_len, txts_len] at this
        cases ts <;> cases us <;> simp_all
      rw [h3]
    · rw [if_neg h0] at h; exact absurd h h0

/-- Right types are the same exactly if their texts are. -/
theorem txt_same {t u : Ty} (ht : rightT t = true) (hu : rightT u = true) : (txt t == txt u) = (cmpT t u == 0) := by
  by_cases h : cmpT t u = 0
  · rw [cmpT_txt t u h, h]; simp
  · have : txt t ≠ txt u := fun e => h (txt_inj t u ht hu [] [] (.inl rfl) (.inl rfl) (by rw [e])).1
    rw [beq_eq_false_iff_ne.2 h, beq_eq_false_iff_ne.2 this]

end Go.Pv

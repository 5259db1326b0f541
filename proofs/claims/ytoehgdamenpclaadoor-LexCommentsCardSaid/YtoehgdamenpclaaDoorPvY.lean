/- Plain laws on types: sizes, orders. -/
import Derived.Test.YtoehgdamenpclaaDoorPvW
namespace Go.Pv
open Go

/-! ### Few parts: small -/
mutual
def csum : Ty → Nat | .mk n ts _ => 1 + n.length / 50 + csums ts
def csums : List Ty → Nat | [] => 0 | t :: r => csum t + csums r
end
theorem cnt_sum : ∀ t : Ty, ∀ k : Nat, k ≤ cnt t k ∧ (cnt t k ≤ 2000 → cnt t k = k + csum t) := by
  intro t
  induction t using Ty.ind with
  | h n ts p ih =>
    intro k
    have key : ∀ l : List Ty, (∀ t ∈ l, ∀ k : Nat, k ≤ cnt t k ∧ (cnt t k ≤ 2000 → cnt t k = k + csum t)) → ∀ k, k ≤ cnts l k ∧ (cnts l k ≤ 2000 → cnts l k = k + csums l) := by
      intro l
      induction l with
      | nil => intro _ k; simp [cnts, csums]
      | cons t l ihl =>
        intro h k
        have h1 := h t (by simp) k
        have h2 := ihl (fun x hx => h x (by simp [hx])) (cnt t k)
        rw [cnts_cons, csums]
        split
        · refine ⟨by omega, fun h3 => ?_⟩
          have h4 := h2.2 h3
          have h5 := h1.2 (by omega)
          omega
        · exact ⟨Nat.le_refl _, fun h3 => by omega⟩
    have h1 := key ts ih (k + 1 + n.length / 50)
    simp only [cnt, csum]
    exact ⟨by omega, fun h => by have := h1.2 h; omega⟩
theorem wt_sum : ∀ t : Ty, wt t ≤ 50 * csum t := by
  intro t
  induction t using Ty.ind with
  | h n ts p ih =>
    have key : ∀ l : List Ty, (∀ t ∈ l, wt t ≤ 50 * csum t) → wts l ≤ 50 * csums l := by
      intro l
      induction l with
      | nil => intro _; simp [wts, csums]
      | cons t l ihl =>
        intro h
        have h1 := h t (by simp)
        have h2 := ihl (fun x hx => h x (by simp [hx]))
        simp only [wts, csums]; omega
    have h1 := key ts ih
    simp only [wt, csum]
    omega
theorem few_wt {t : Ty} (h : cnt t 0 ≤ 200) : wt t ≤ 10000 := by
  have h1 := (cnt_sum t 0).2 (by omega)
  have h2 := wt_sum t
  omega
theorem few_sum {t : Ty} (h : cnt t 0 ≤ 200) : csum t ≤ 200 := by
  have h1 := (cnt_sum t 0).2 (by omega)
  omega
theorem cnts_sum : ∀ (l : List Ty) (k : Nat), k ≤ cnts l k ∧ (cnts l k ≤ 2000 → cnts l k = k + csums l) := by
  intro l
  induction l with
  | nil => intro k; simp [cnts, csums]
  | cons t l ihl =>
    intro k
    have h1 := cnt_sum t k
    have h2 := ihl (cnt t k)
    rw [cnts_cons, csums]
    split
    · refine ⟨by omega, fun h3 => ?_⟩
      have h4 := h2.2 h3
      have h5 := h1.2 (by omega)
      omega
    · exact ⟨Nat.le_refl _, fun h3 => by omega⟩
theorem csums_mem {l : List Ty} {t : Ty} (h : t ∈ l) : csum t ≤ csums l := by
  induction l with
  | nil => cases h
  | cons x l ih =>
    simp only [csums]
    rcases List.mem_cons.1 h with rfl | h
    · omega
    · have := ih h; omega
theorem csum_pos (t : Ty) : 1 ≤ csum t := by cases t; simp [csum]; omega
theorem csums_len (l : List Ty) : l.length ≤ csums l := by
  induction l with
  | nil => simp
  | cons t l ih => have := csum_pos t; simp only [csums, List.length_cons]; omega
theorem fewAll_wt {l : List Ty} (h : cnts l 0 ≤ 200) : l.length ≤ 200 ∧ ∀ t ∈ l, wt t ≤ 10000 := by
  have h1 := (cnts_sum l 0).2 (by omega)
  have h2 := csums_len l
  refine ⟨by omega, fun t ht => ?_⟩
  have h3 := wt_sum t
  have h4 := csums_mem ht
  omega

/-! ### The order -/
theorem cmpS_range (a b : Str) : -1 ≤ cmpS a b ∧ cmpS a b ≤ 1 := by unfold cmpS; repeat (first | omega | split)
theorem cmpT_range : ∀ t u : Ty, -1 ≤ cmpT t u ∧ cmpT t u ≤ 1 := by
  intro t
  induction t using Ty.ind with
  | h n ts p ih =>
    intro u
    have key : ∀ l : List Ty, (∀ t ∈ l, ∀ u, -1 ≤ cmpT t u ∧ cmpT t u ≤ 1) → ∀ m, -1 ≤ cmpTs l m ∧ cmpTs l m ≤ 1 := by
      intro l
      induction l with
      | nil => intro _ m; simp only [cmpTs]; split <;> omega
      | cons t l ihl =>
        intro h m
        cases m with
        | nil => simp [cmpTs]
        | cons u m =>
          rw [cmpTs_cons]
          split
          · exact ihl (fun x hx => h x (by simp [hx])) m
          · exact h t (by simp) u
    simp only [cmpT]
    split
    · exact key ts ih _
    · exact cmpS_range _ _

theorem cmpS_anti : ∀ a b : Str, cmpS b a = - cmpS a b
  | [], [] => by simp [cmpS_nil]
  | [], y :: b => by rw [cmpS_nil_cons, cmpS_cons_nil]; rfl
  | x :: a, [] => by rw [cmpS_nil_cons, cmpS_cons_nil]
  | x :: a, y :: b => by
    rw [cmpS_cons, cmpS_cons, cmpS_anti a b]
    repeat (first | omega | split)

theorem cmpT_mk (n m : Str) (ts us : List Ty) (p q : Int) : cmpT (.mk n ts p) (.mk m us q) = if cmpS n m = 0 then cmpTs ts us else cmpS n m := by rw [cmpT]; rfl

theorem cmpT_anti : ∀ t u : Ty, cmpT u t = - cmpT t u := by
  intro t
  induction t using Ty.ind with
  | h n ts p ih =>
    intro u
    obtain ⟨m, us, q⟩ := u
    have key : ∀ l : List Ty, (∀ t ∈ l, ∀ u, cmpT u t = - cmpT t u) → ∀ m, cmpTs m l = - cmpTs l m := by
      intro l
      induction l with
      | nil => intro _ m; cases m <;> simp [cmpTs]
      | cons t l ihl =>
        intro h m
        cases m with
        | nil => simp [cmpTs]
        | cons u m =>
          rw [cmpTs_cons, cmpTs_cons, h t (by simp) u, ihl (fun x hx => h x (by simp [hx])) m]
          repeat (first | omega | split)
    rw [cmpT_mk, cmpT_mk, cmpS_anti n m, key ts ih us]
    repeat (first | omega | split)

theorem cmpS_tr : ∀ a b c : Str, cmpS a b ≤ 0 → cmpS b c ≤ 0 → cmpS a c ≤ 0 ∧ (cmpS a c = 0 → cmpS a b = 0 ∧ cmpS b c = 0)
  | [], [], c, _, h2 => by
    refine ⟨h2, fun h => ⟨cmpS_nil, h⟩⟩
  | [], y :: b, [], _, h2 => by rw [cmpS_cons_nil] at h2; omega
  | [], y :: b, z :: c, _, _ => by simp [cmpS_nil_cons]
  | x :: a, [], _, h1, _ => by rw [cmpS_cons_nil] at h1; omega
  | x :: a, y :: b, [], _, h2 => by rw [cmpS_cons_nil] at h2; omega
  | x :: a, y :: b, z :: c, h1, h2 => by
    rw [cmpS_cons] at h1 h2
    have ih := cmpS_tr a b c
    rw [cmpS_cons, cmpS_cons, cmpS_cons]
    split at h1
    · split at h2
      · rw [if_pos (by omega)]; exact ⟨by omega, fun h => by omega⟩
      · split at h2
        · omega
        · rw [if_pos (by omega)]; exact ⟨by omega, fun h => by omega⟩
    · split at h1
      · omega
      · split at h2
        · rw [if_pos (by omega)]; exact ⟨by omega, fun h => by omega⟩
        · split at h2
          · omega
          · rename_i g1 g2 g3 g4
            rw [if_neg (by omega), if_neg (by omega)]
            have := ih h1 h2
            rw [if_neg g1, if_neg g2, if_neg g3, if_neg g4]
            exact this

theorem cmpT_tr : ∀ t u v : Ty, cmpT t u ≤ 0 → cmpT u v ≤ 0 → cmpT t v ≤ 0 ∧ (cmpT t v = 0 → cmpT t u = 0 ∧ cmpT u v = 0) := by
  intro t
  induction t using Ty.ind with
  | h n ts p ih =>
    intro u v
    obtain ⟨m, us, q⟩ := u
    obtain ⟨l, vs, r⟩ := v
    have key : ∀ l : List Ty, (∀ t ∈ l, ∀ u v, cmpT t u ≤ 0 → cmpT u v ≤ 0 → cmpT t v ≤ 0 ∧ (cmpT t v = 0 → cmpT t u = 0 ∧ cmpT u v = 0)) →
        ∀ m k, cmpTs l m ≤ 0 → cmpTs m k ≤ 0 → cmpTs l k ≤ 0 ∧ (cmpTs l k = 0 → cmpTs l m = 0 ∧ cmpTs m k = 0) := by
      intro l
      induction l with
      | nil =>
        intro _ m k h1 h2
        cases m with
        | nil => exact ⟨h2, fun h => ⟨rfl, h⟩⟩
        | cons u m => cases k with
          | nil => simp [cmpTs] at h2
          | cons v k => simp [cmpTs]
      | cons t l ihl =>
        intro h m k h1 h2
        cases m with
        | nil => simp [cmpTs] at h1
        | cons u m => cases k with
          | nil => simp [cmpTs] at h2
          | cons v k =>
            rw [cmpTs_cons] at h1 h2 ⊢
            rw [cmpTs_cons, cmpTs_cons]
            have ht := h t (by simp) u v
            have hl := ihl (fun x hx => h x (by simp [hx])) m k
            by_cases e1 : cmpT t u = 0
            · rw [if_pos e1] at h1 ⊢
              by_cases e2 : cmpT u v = 0
              · rw [if_pos e2] at h2 ⊢
                have g := ht (by omega) (by omega)
                by_cases e3 : cmpT t v = 0
                · rw [if_pos e3]; exact hl h1 h2
                · -- two that are equal to one are equal
                  have a1 := cmpT_anti t u
                  have a2 := cmpT_anti u v
                  have a3 := cmpT_anti t v
                  rw [if_neg e3]
                  exact ⟨g.1, fun h => absurd h e3⟩
              · rw [if_neg e2] at h2 ⊢
                have g := ht (by omega) (by omega)
                rw [if_neg (fun h => e2 (g.2 h).2)]
                exact ⟨g.1, fun h => absurd (g.2 h).2 e2⟩
            · rw [if_neg e1] at h1 ⊢
              have g := ht (by omega) (by by_cases e2 : cmpT u v = 0 <;> simp_all)
              rw [if_neg (fun h => e1 (g.2 h).1)]
              exact ⟨g.1, fun h => absurd (g.2 h).1 e1⟩
    intro h1 h2
    rw [cmpT_mk] at h1 h2 ⊢
    rw [cmpT_mk, cmpT_mk]
    have hs := cmpS_tr n m l
    have hk := key ts ih us vs
    by_cases e1 : cmpS n m = 0
    · rw [if_pos e1] at h1 ⊢
      by_cases e2 : cmpS m l = 0
      · rw [if_pos e2] at h2 ⊢
        have e3 : cmpS n l = 0 := by rw [cmpS_eq] at e1 e2 ⊢; rw [e1, e2]
        rw [if_pos e3]; exact hk h1 h2
      · rw [if_neg e2] at h2 ⊢
        have g := hs (by omega) (by omega)
        rw [if_neg (fun h => e2 (g.2 h).2)]
        exact ⟨g.1, fun h => absurd (g.2 h).2 e2⟩
    · rw [if_neg e1] at h1 ⊢
      have g := hs (by omega) (by by_cases e2 : cmpS m l = 0 <;> simp_all)
      rw [if_neg (fun h => e1 (g.2 h).1)]
      exact ⟨g.1, fun h => absurd (g.2 h).1 e1⟩

end Go.Pv
namespace Go.Pv
open Go
/-! ### Substituting -/
def idTy (n : Str) : Ty := .mk n [] 77
theorem eqT_refl : ∀ t : Ty, eqT t t = true := by
  intro t
  induction t using Ty.ind with
  | h n ts p ih =>
    have key : ∀ l : List Ty, (∀ t ∈ l, eqT t t = true) → eqTs l l = true := by
      intro l
      induction l with
      | nil => intro _; rfl
      | cons t l ihl => intro h; rw [eqTs_cons, h t (by simp), ihl (fun x hx => h x (by simp [hx]))]; rfl
    simp [eqT, key ts ih]
theorem idxF_get (l : List Str) (x : Str) : ∀ k : Nat, idxF l x k = -1 ∨ ∃ i : Nat, idxF l x k = ((k + i : Nat) : Int) ∧ l[i]? = some x := by
  induction l with
  | nil => intro k; exact .inl rfl
  | cons y r ih =>
    intro k
    rw [idxF]
    split
    · rename_i h; exact .inr ⟨0, by simp, by simp [h]⟩
    · rcases ih (k + 1) with h | ⟨i, h1, h2⟩
      · exact .inl h
      · exact .inr ⟨i + 1, by rw [h1]; congr 1; omega, by simpa using h2⟩
theorem sub_ids (L : List Str) : ∀ t : Ty, sub L (L.map idTy) t = t := by
  intro t
  induction t using Ty.ind with
  | h n ts p ih =>
    rw [sub]
    by_cases h : ts.isEmpty = true
    · rw [if_pos h]
      have : ts = [] := by simpa using h
      subst this
      rcases idxF_get L n 0 with h1 | ⟨i, h1, h2⟩
      · rw [h1, if_neg (by omega)]
      · rw [h1, if_pos (by omega)]
        simp only [Nat.zero_add, Int.toNat_natCast, List.getElem?_map, h2, Option.map_some, idTy, Ty.at_]
    · rw [if_neg h, subs_map]
      congr 1
      have key : ∀ l : List Ty, (∀ t ∈ l, sub L (L.map idTy) t = t) → l.map (sub L (L.map idTy)) = l := by
        intro l
        induction l with
        | nil => intro _; rfl
        | cons t l ihl => intro h; rw [List.map_cons, h t (by simp), ihl (fun x hx => h x (by simp [hx]))]
      exact key ts ih
theorem sub_id (t : Ty) : sub (lst t) ((lst t).map idTy) t = t := sub_ids _ t
end Go.Pv
namespace Go.Pv
open Go
theorem wt_at (p : Int) (t : Ty) : wt (t.at_ p) = wt t := by cases t; simp [Ty.at_, wt]
theorem wt_sub (ns : List Str) (as : List Ty) (M : Nat) (hM : 1 ≤ M) (h : ∀ a ∈ as, wt a ≤ M) : ∀ t : Ty, wt (sub ns as t) ≤ wt t * M := by
  intro t
  induction t using Ty.ind with
  | h n ts p ih =>
    have h1 : wt (.mk n ts p) * 1 ≤ wt (.mk n ts p) * M := Nat.mul_le_mul_left _ hM
    have h2 : 1 * M ≤ wt (.mk n ts p) * M := Nat.mul_le_mul_right _ (wt_pos _)
    rw [sub]
    split
    · rename_i he
      have : ts = [] := by simpa using he
      subst this
      split
      · split
        · rename_i a ha
          have := h a (List.mem_of_getElem? ha)
          rw [wt_at]; omega
        · simp only [wt, wts] at h1 ⊢; omega
      · simp only [wt, wts] at h1 ⊢; omega
    · rw [subs_map]
      have key : ∀ l : List Ty, (∀ t ∈ l, wt (sub ns as t) ≤ wt t * M) → wts (l.map (sub ns as)) ≤ wts l * M := by
        intro l
        induction l with
        | nil => intro _; simp [wts]
        | cons t l ihl =>
          intro h
          have a := h t (by simp)
          have b := ihl (fun x hx => h x (by simp [hx]))
          simp only [List.map_cons, wts, Nat.add_mul]; omega
      have := key ts ih
      simp only [wt, Nat.add_mul]
      have h3 : n.length * 1 ≤ n.length * M := Nat.mul_le_mul_left _ hM
      omega
end Go.Pv
namespace Go.Pv
open Go
/-! ### Stopping an iterator -/
def goM (m : Int) (s : List AV) (_ : AV) : Bool := decide ((s.length : Int) + 1 ≤ m)
def elM (L : List AV) (m : Int) (s : List AV) (x : AV) : Prop := elP L s x ∧ (s.length : Int) ≤ m
theorem elOk_M {Y : Ys} {L : List AV} {m : Int} (h : Y.el = elM L m) (hg : Y.go = goM m) : ∀ (r s : List AV), s ++ r = L → (s.length : Int) ≤ m → elOk Y s r := by
  intro r
  induction r with
  | nil => intro s _ _; trivial
  | cons x r ih =>
    intro s hs hm
    refine ⟨by rw [h]; exact ⟨⟨r, hs⟩, hm⟩, fun hgo => ih _ (by simpa using hs) ?_⟩
    rw [hg] at hgo
    simp only [goM, decide_eq_true_eq] at hgo
    simpa using hgo
theorem feedG_M (m : Int) : ∀ (r s : List AV), (feedG (goM m) s r).2 = true → (feedG (goM m) s r).1 = s ++ r ∧ (r = [] ∨ ((s ++ r).length : Int) ≤ m) := by
  intro r
  induction r with
  | nil => intro s _; simp [feedG]
  | cons x r ih =>
    intro s h
    rw [feedG] at h ⊢
    by_cases hg : goM m s x = true
    · rw [if_pos hg] at h ⊢
      obtain ⟨h1, h2⟩ := ih _ h
      refine ⟨by rw [h1]; simp, .inr ?_⟩
      rcases h2 with rfl | h2
      · simp only [goM, decide_eq_true_eq] at hg
        simpa using hg
      · simpa using h2
    · rw [if_neg hg] at h; cases h
theorem elP_get {l : List Str} {s : List AV} {x : AV} (h : elP (l.map AV.str) s x) : ∃ hl : s.length < l.length, x = .str l[s.length] := by
  obtain ⟨r, hr⟩ := h
  have h1 := congrArg List.length hr
  simp at h1
  refine ⟨by omega, ?_⟩
  have h2 : (s ++ x :: r)[s.length]? = some x := by simp
  rw [hr, List.getElem?_map, List.getElem?_eq_getElem (by omega)] at h2
  simpa using h2.symm
end Go.Pv

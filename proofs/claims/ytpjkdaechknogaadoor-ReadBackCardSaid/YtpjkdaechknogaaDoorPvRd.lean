import Derived.Test.YtpjkdaechknogaaDoorPvRb
import Derived.Test.YtpjkdaechknogaaDoorPvMe
set_option linter.all false
section
/- What is read is right, and no larger than its text; whole texts. -/
namespace Go.Pv
open Go

def szC (c : Cur) : Nat := szK (c.l.map ktOf)
def rtR (l : List Tk) : Ty × Pl := typeR l (l.length + 1) ⟨0, false⟩
def reR (l : List Tk) : Exp × Pl := exprR l (l.length + 1) ⟨0, false⟩
def wholeR {α : Type} (none_ : α) (rd : List Tk → α × Pl) (s : Str) : α × Int × Int :=
  match lexT s with
  | (none, m) => (none_, 1, m)
  | (some l, _) => if (finR l (rd l).2).1 = 0 then ((rd l).1, 0, 0) else (none_, (finR l (rd l).2).1, (finR l (rd l).2).2)

end Go.Pv
end

section
/- Texts of types and expressions, their tokens, and what is read from these. -/
namespace Go.Pv
open Go

mutual
def stT : Ty → Ty | .mk n ts _ => .mk n (stTs ts) 0
def stTs : List Ty → List Ty | [] => [] | t :: r => stT t :: stTs r
end
theorem stTs_map (l : List Ty) : stTs l = l.map stT := by
  induction l with
  | nil => rfl
  | cons t r ih => simp [stTs, ih]
theorem stT_mk (n : Str) (ts : List Ty) (p : Int) : stT (.mk n ts p) = .mk n (ts.map stT) 0 := by rw [stT, stTs_map]
theorem cmpT_st : ∀ t u : Ty, cmpT t u = 0 ↔ stT t = stT u := by
  intro t
  induction t using Ty.ind with
  | h n ts p ih =>
    intro u
    obtain ⟨m, us, q⟩ := u
    have key : ∀ l : List Ty, (∀ t ∈ l, ∀ u : Ty, cmpT t u = 0 ↔ stT t = stT u) → ∀ k : List Ty, cmpTs l k = 0 ↔ l.map stT = k.map stT := by
      intro l
      induction l with
      | nil => intro _ k; cases k <;> simp [cmpTs]
      | cons t l ihl =>
        intro h k
        cases k with
        | nil => simp [cmpTs]
        | cons u k =>
          have h1 := h t (by simp) u
          have h2 := ihl (fun z hz => h z (by simp [hz])) k
          rw [cmpTs_cons]
          split
          · rename_i h0; rw [h2]; simp [h1.1 h0]
          · rename_i h0
            constructor
            · intro h3; exact absurd h3 h0
            · intro h3; simp at h3; exact absurd (h1.2 h3.1) h0
    rw [cmpT_mk, stT_mk, stT_mk]
    split
    · rename_i h0
      have h1 := (cmpS_eq n m).1 h0
      rw [key ts ih us]; simp [h1]
    · rename_i h0
      constructor
      · intro h; exact absurd h h0
      · intro h; injection h with h1; exact absurd ((cmpS_eq n m).2 h1) h0
theorem sameTs_st : ∀ a b : List Ty, sameTs a b = true ↔ a.map stT = b.map stT
  | [], [] => by simp [sameTs]
  | [], _ :: _ => by simp [sameTs]
  | _ :: _, [] => by simp [sameTs]
  | x :: a, y :: b => by
    have h1 := cmpT_st x y
    have h2 := sameTs_st a b
    rw [sameTs_cons]
    simp [h1, h2]
mutual
def stE : Exp → Exp | .mk k n t a l _ => .mk k n (stT t) (a.map stT) (stEs l) 0
def stEs : List Exp → List Exp | [] => [] | e :: r => stE e :: stEs r
end
theorem stEs_map (l : List Exp) : stEs l = l.map stE := by
  induction l with
  | nil => rfl
  | cons t r ih => simp [stEs, ih]
theorem stE_mk (k : Int) (n : Str) (t : Ty) (a : List Ty) (l : List Exp) (p : Int) : stE (.mk k n t a l p) = .mk k n (stT t) (a.map stT) (l.map stE) 0 := by rw [stE, stEs_map]
theorem sameE_st : ∀ e f : Exp, sameE e f = true ↔ stE e = stE f := by
  intro e
  induction e using Exp.ind with
  | h k n t a l p ih =>
    intro f
    obtain ⟨k', n', t', a', l', p'⟩ := f
    have key : ∀ l : List Exp, (∀ e ∈ l, ∀ f : Exp, sameE e f = true ↔ stE e = stE f) → ∀ l' : List Exp, sameEs l l' = true ↔ l.map stE = l'.map stE := by
      intro l
      induction l with
      | nil => intro _ l'; cases l' <;> simp [sameEs]
      | cons e l ihl =>
        intro h l'
        cases l' with
        | nil => simp [sameEs]
        | cons f l' =>
          have h1 := h e (by simp) f
          have h2 := ihl (fun z hz => h z (by simp [hz])) l'
          rw [sameEs_cons]
          simp [h1, h2]
    have h1 := key l ih l'
    have h2 := sameTs_st a a'
    have h3 := cmpT_st t t'
    rw [stE_mk, stE_mk, sameE]
    simp [h1, h2, h3, and_assoc]

def sgn (c : UInt8) : Kt := (2, [c])
def tailK : List (List Kt) → List Kt
  | [] => []
  | x :: r => sgn 44 :: (x ++ tailK r)
def commaK : List (List Kt) → List Kt
  | [] => []
  | x :: r => x ++ tailK r
def brK (l : List (List Kt)) : List Kt := if l.isEmpty then [] else sgn 91 :: (commaK l ++ [sgn 93])
mutual
def toksT : Ty → List Kt | .mk n ts _ => (1, n) :: brK (toksTs ts)
def toksTs : List Ty → List (List Kt) | [] => [] | t :: r => toksT t :: toksTs r
end
theorem toksTs_map (l : List Ty) : toksTs l = l.map toksT := by
  induction l with
  | nil => rfl
  | cons t r ih => simp [toksTs, ih]
theorem toksT_mk (n : Str) (ts : List Ty) (p : Int) : toksT (.mk n ts p) = (1, n) :: brK (ts.map toksT) := by rw [toksT, toksTs_map]
mutual
def toksE : Exp → List Kt
  | .mk k n t a l _ =>
    if k = 3 then toksT t ++ sgn 123 :: (commaK (toksEs l) ++ [sgn 125])
    else match toksEs l with
      | [] => [(1, n)]
      | x :: r => if k = 2 then x ++ sgn 46 :: (1, n) :: (brK (a.map toksT) ++ sgn 40 :: (commaK r ++ [sgn 41]))
        else if k = 4 then x ++ [sgn 46, (1, n)]
        else if k = 5 then x ++ sgn 46 :: sgn 40 :: (toksT t ++ [sgn 41])
        else [(1, n)]
def toksEs : List Exp → List (List Kt) | [] => [] | e :: r => toksE e :: toksEs r
end
theorem toksEs_map (l : List Exp) : toksEs l = l.map toksE := by
  induction l with
  | nil => rfl
  | cons t r ih => simp [toksEs, ih]

theorem wc_good (c : UInt8) : wc c = goodB c := rfl
theorem wordN_end : ∀ (w t : List UInt8), w.all goodB = true → endB t → wordN (w ++ t) = w.length
  | [], t, _, h => by
    rcases h with rfl | ⟨c, r, rfl, hc⟩
    · rfl
    · rw [List.nil_append, wordN_cons, wc_good, hc]; rfl
  | c :: w, t, hw, h => by
    simp only [List.all_cons, Bool.and_eq_true] at hw
    rw [List.cons_append, wordN_cons, wc_good, if_pos hw.1, wordN_end w t hw.2 h]
    simp; omega
theorem lx_name {n x : Str} (h : isName n = true) (hx : endB x) : tkK (n ++ x) = (tkK x).map ((1, n) :: ·) := by
  have hall := isName_all h
  cases n with
  | nil => simp [isName] at h
  | cons c r =>
    have hc : clsI c.toNat = 1 := by simp only [isName, Bool.and_eq_true, beq_iff_eq] at h; exact h.1.1
    have hp : ¬ Lib.hasPrefix (c :: (r ++ x)) [47, 47] = true := fun hp => by
      have := pre_ne hp
      subst this
      revert hc; decide
    have hw := wordN_end (c :: r) x hall hx
    rw [List.cons_append] at hw
    rw [List.cons_append, tkK_cons, if_neg (by omega), if_neg hp, if_pos hc, hw]
    have e1 : (c :: (r ++ x)).drop (c :: r).length = x := by rw [← List.cons_append]; simp
    have e2 : (c :: (r ++ x)).take (c :: r).length = c :: r := by rw [← List.cons_append]; simp
    rw [e1, e2]
theorem lx_sign {c : UInt8} (h : 0 ≤ Lib.indexByte signs c) (x : Str) : tkK (c :: x) = (tkK x).map (sgn c :: ·) := by
  obtain ⟨h1, h2, h3⟩ := sign_facts c h
  rw [tkK_cons, if_neg h1, if_neg (fun hp => h2 (pre_ne hp)), if_neg h3, if_pos h]; rfl
theorem lx_blank (x : Str) : tkK (32 :: x) = tkK x := by rw [tkK_cons, if_pos (by decide)]
theorem omap {a : Option (List Kt)} (x : Kt) (l : List Kt) : ((a.map (l ++ ·)).map (x :: ·)) = a.map ((x :: l) ++ ·) := by cases a <;> rfl
theorem omap2 {a : Option (List Kt)} (k l : List Kt) : ((a.map (l ++ ·)).map (k ++ ·)) = a.map ((k ++ l) ++ ·) := by cases a <;> simp
theorem endB_c {c : UInt8} {x : Str} (h : goodB c = false) : endB (c :: x) := .inr ⟨c, x, rfl, h⟩

def LX (s : Str) (k : List Kt) : Prop := ∀ x, endB x → tkK (s ++ x) = (tkK x).map (k ++ ·)
theorem lx_tail {α : Type} (tx : α → Str) (tk : α → List Kt) : ∀ l : List α, (∀ a ∈ l, LX (tx a) (tk a)) → ∀ x, endB x → endB (Lib.joinTail [44, 32] (l.map tx) ++ x) ∧ tkK (Lib.joinTail [44, 32] (l.map tx) ++ x) = (tkK x).map (tailK (l.map tk) ++ ·)
  | [], _, x, hx => ⟨by simpa [Lib.joinTail] using hx, by simp [Lib.joinTail, tailK]⟩
  | a :: l, h, x, hx => by
    obtain ⟨h1, h2⟩ := lx_tail tx tk l (fun b hb => h b (by simp [hb])) x hx
    have e : Lib.joinTail [44, 32] ((a :: l).map tx) ++ x = 44 :: 32 :: (tx a ++ (Lib.joinTail [44, 32] (l.map tx) ++ x)) := by
      simp [Lib.joinTail, List.append_assoc]
    rw [e]
    refine ⟨endB_c (by decide), ?_⟩
    rw [lx_sign (by decide), lx_blank, h a (by simp) _ h1, h2, omap2, omap]
    simp [tailK]
theorem lx_join {α : Type} (tx : α → Str) (tk : α → List Kt) (l : List α) (h : ∀ a ∈ l, LX (tx a) (tk a)) (x : Str) (hx : endB x) : tkK (Lib.join (l.map tx) [44, 32] ++ x) = (tkK x).map (commaK (l.map tk) ++ ·) := by
  cases l with
  | nil => simp [Lib.join, commaK]
  | cons a l =>
    obtain ⟨h1, h2⟩ := lx_tail tx tk l (fun b hb => h b (by simp [hb])) x hx
    rw [List.map_cons, Lib.join_cons, List.append_assoc, h a (by simp) _ h1, h2, omap2]
    rfl
theorem txts_map' (l : List Ty) : txts l = l.map txt := by
  induction l with
  | nil => rfl
  | cons t r ih => simp [txts, ih]
theorem txt_br (n : Str) (ts : List Ty) (p : Int) : txt (.mk n ts p) = n ++ (if ts.isEmpty then [] else 91 :: (Lib.join (ts.map txt) [44, 32] ++ [93])) := by
  rw [txt, txts_map']
  split <;> simp
theorem lx_br (ts : List Ty) (h : ∀ t ∈ ts, LX (txt t) (toksT t)) (x : Str) (hx : endB x) : endB ((if ts.isEmpty then [] else 91 :: (Lib.join (ts.map txt) [44, 32] ++ [93])) ++ x) ∧ tkK ((if ts.isEmpty then [] else 91 :: (Lib.join (ts.map txt) [44, 32] ++ [93])) ++ x) = (tkK x).map (brK (ts.map toksT) ++ ·) := by
  cases ts with
  | nil => exact ⟨by simpa using hx, by simp [brK]⟩
  | cons t ts =>
    simp only [List.isEmpty_cons, Bool.false_eq_true, if_false]
    refine ⟨endB_c (by decide), ?_⟩
    rw [List.cons_append, List.append_assoc, List.singleton_append, lx_sign (by decide), lx_join txt toksT (t :: ts) h _ (endB_c (by decide)), lx_sign (by decide)]
    cases tkK x <;> simp [brK]
theorem lx_txt : ∀ t : Ty, rightT t = true → LX (txt t) (toksT t) := by
  intro t
  induction t using Ty.ind with
  | h n ts p ih =>
    intro ht x hx
    obtain ⟨hn, hts⟩ := right_name ht
    obtain ⟨h1, h2⟩ := lx_br ts (fun t h => ih t h (hts t h)) x hx
    rw [txt_br, List.append_assoc, lx_name hn h1, h2, omap, toksT_mk]

theorem right_cases {k : Int} {n : Str} {t : Ty} {a : List Ty} {l : List Exp} {p : Int} (h : rightE (.mk k n t a l p) = true) :
    (∀ e ∈ l, rightE e = true) ∧ ((k = 1 ∧ isName n = true ∧ l = [] ∧ t.name = [] ∧ t.args = [] ∧ a = []) ∨ (k = 2 ∧ isName n = true ∧ (∃ x r, l = x :: r) ∧ t.name = [] ∧ t.args = [] ∧ ∀ u ∈ a, rightT u = true) ∨ (k = 3 ∧ n = [] ∧ rightT t = true ∧ a = []) ∨
      (k = 4 ∧ isName n = true ∧ (∃ x, l = [x]) ∧ t.name = [] ∧ t.args = [] ∧ a = []) ∨ (k = 5 ∧ n = [] ∧ (∃ x, l = [x]) ∧ rightT t = true ∧ a = [])) := by
  rw [rightE_ok] at h
  simp only [Bool.and_eq_true] at h
  obtain ⟨⟨⟨h1, h2⟩, h3⟩, h4⟩ := h
  refine ⟨fun e he => by rw [rightEs_all, List.all_eq_true] at h1; exact h1 e he, ?_⟩
  unfold kidsE at h4
  unfold okT at h2
  unfold bodyE typedE at h3
  split at h4
  · rename_i hk
    simp only [beq_iff_eq] at hk; subst hk
    simp at h2 h3 h4
    exact .inl ⟨rfl, h3.2, h4, h3.1.1, h3.1.2, h2⟩
  · split at h4
    · rename_i hk
      simp only [beq_iff_eq] at hk; subst hk
      simp at h2 h3 h4
      refine .inr (.inl ⟨rfl, h3.2, ?_, h3.1.1, h3.1.2, ?_⟩)
      · cases l with
        | nil => exact absurd rfl h4
        | cons x r => exact ⟨x, r, rfl⟩
      · rcases h2 with rfl | h2
        · intro u hu; cases hu
        · exact h2
    · split at h4
      · rename_i hk
        simp only [beq_iff_eq] at hk; subst hk
        simp at h2 h3
        exact .inr (.inr (.inl ⟨rfl, h3.2, h3.1, h2⟩))
      · split at h4
        · rename_i hk
          simp only [Bool.or_eq_true, beq_iff_eq] at hk
          have hx : ∃ x, l = [x] := by
            simp at h4
            match l, h4 with
            | [x], _ => exact ⟨x, rfl⟩
          rcases hk with rfl | rfl
          · simp at h2 h3
            exact .inr (.inr (.inr (.inl ⟨rfl, h3.2, hx, h3.1.1, h3.1.2, h2⟩)))
          · simp at h2 h3
            exact .inr (.inr (.inr (.inr ⟨rfl, h3.2, hx, h3.1, h2⟩)))
        · cases h4

theorem txtE_1 {n : Str} {t : Ty} {a : List Ty} {p : Int} : txtE (.mk 1 n t a [] p) = n := by simp [txtE, txtEs]
theorem toksE_1 {n : Str} {t : Ty} {a : List Ty} {p : Int} : toksE (.mk 1 n t a [] p) = [(1, n)] := by simp [toksE, toksEs]
theorem txtE_2 {n : Str} {t : Ty} {a : List Ty} {x : Exp} {r : List Exp} {p : Int} : txtE (.mk 2 n t a (x :: r) p) = txtE x ++ 46 :: (n ++ ((if a.isEmpty then [] else 91 :: (Lib.join (a.map txt) [44, 32] ++ [93])) ++ 40 :: (Lib.join (r.map txtE) [44, 32] ++ [41]))) := by
  simp [txtE, txtEs_map, txt_br]
theorem toksE_2 {n : Str} {t : Ty} {a : List Ty} {x : Exp} {r : List Exp} {p : Int} : toksE (.mk 2 n t a (x :: r) p) = toksE x ++ sgn 46 :: (1, n) :: (brK (a.map toksT) ++ sgn 40 :: (commaK (r.map toksE) ++ [sgn 41])) := by
  simp [toksE, toksEs_map]
theorem txtE_3 {n : Str} {t : Ty} {a : List Ty} {l : List Exp} {p : Int} : txtE (.mk 3 n t a l p) = txt t ++ 123 :: (Lib.join (l.map txtE) [44, 32] ++ [125]) := by
  simp [txtE, txtEs_map]
theorem toksE_3 {n : Str} {t : Ty} {a : List Ty} {l : List Exp} {p : Int} : toksE (.mk 3 n t a l p) = toksT t ++ sgn 123 :: (commaK (l.map toksE) ++ [sgn 125]) := by
  simp [toksE, toksEs_map]
theorem txtE_4 {n : Str} {t : Ty} {a : List Ty} {x : Exp} {p : Int} : txtE (.mk 4 n t a [x] p) = txtE x ++ 46 :: n := by simp [txtE, txtEs]
theorem toksE_4 {n : Str} {t : Ty} {a : List Ty} {x : Exp} {p : Int} : toksE (.mk 4 n t a [x] p) = toksE x ++ [sgn 46, (1, n)] := by simp [toksE, toksEs]
theorem txtE_5 {n : Str} {t : Ty} {a : List Ty} {x : Exp} {p : Int} : txtE (.mk 5 n t a [x] p) = txtE x ++ 46 :: 40 :: (txt t ++ [41]) := by simp [txtE, txtEs]
theorem toksE_5 {n : Str} {t : Ty} {a : List Ty} {x : Exp} {p : Int} : toksE (.mk 5 n t a [x] p) = toksE x ++ sgn 46 :: sgn 40 :: (toksT t ++ [sgn 41]) := by simp [toksE, toksEs]

theorem lx_txtE : ∀ e : Exp, rightE e = true → LX (txtE e) (toksE e) := by
  intro e
  induction e using Exp.ind with
  | h k n t a l p ih =>
    intro he x hx
    obtain ⟨hl, hc⟩ := right_cases he
    have hd : ∀ y, endB (46 :: y) := fun y => endB_c (by decide)
    rcases hc with ⟨rfl, hn, rfl, -⟩ | ⟨rfl, hn, ⟨y, r, rfl⟩, -, -, ha⟩ | ⟨rfl, -, ht, -⟩ | ⟨rfl, hn, ⟨y, rfl⟩, -⟩ | ⟨rfl, -, ⟨y, rfl⟩, ht, -⟩
    · rw [txtE_1, toksE_1, lx_name hn hx]; rfl
    · obtain ⟨h1, h2⟩ := lx_br a (fun u hu => lx_txt u (ha u hu)) (40 :: (Lib.join (r.map txtE) [44, 32] ++ 41 :: x)) (endB_c (by decide))
      have e1 : txtE (.mk 2 n t a (y :: r) p) ++ x = txtE y ++ 46 :: (n ++ ((if a.isEmpty then [] else 91 :: (Lib.join (a.map txt) [44, 32] ++ [93])) ++ 40 :: (Lib.join (r.map txtE) [44, 32] ++ 41 :: x))) := by
        rw [txtE_2]; simp [List.append_assoc]
      rw [e1, ih y (by simp) (hl y (by simp)) _ (hd _), lx_sign (by decide), lx_name hn h1, h2, lx_sign (by decide), lx_join txtE toksE r (fun b hb => ih b (by simp [hb]) (hl b (by simp [hb]))) _ (endB_c (by decide)), lx_sign (by decide), toksE_2]
      cases tkK x <;> simp
    · have e1 : txtE (.mk 3 n t a l p) ++ x = txt t ++ 123 :: (Lib.join (l.map txtE) [44, 32] ++ 125 :: x) := by
        rw [txtE_3]; simp [List.append_assoc]
      rw [e1, lx_txt t ht _ (endB_c (by decide)), lx_sign (by decide), lx_join txtE toksE l (fun b hb => ih b hb (hl b hb)) _ (endB_c (by decide)), lx_sign (by decide), toksE_3]
      cases tkK x <;> simp
    · have e1 : txtE (.mk 4 n t a [y] p) ++ x = txtE y ++ 46 :: (n ++ x) := by rw [txtE_4]; simp [List.append_assoc]
      rw [e1, ih y (by simp) (hl y (by simp)) _ (hd _), lx_sign (by decide), lx_name hn hx, toksE_4]
      cases tkK x <;> simp
    · have e1 : txtE (.mk 5 n t a [y] p) ++ x = txtE y ++ 46 :: 40 :: (txt t ++ 41 :: x) := by rw [txtE_5]; simp [List.append_assoc]
      rw [e1, ih y (by simp) (hl y (by simp)) _ (hd _), lx_sign (by decide), lx_sign (by decide), lx_txt t ht _ (endB_c (by decide)), lx_sign (by decide), toksE_5]
      cases tkK x <;> simp
end Go.Pv
end

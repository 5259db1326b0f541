import Derived.Test.YtjkabaejabibnaaDoorPvXa
import Derived.Lib.Join
import Derived.Lib.LastIndexByte
set_option linter.all false
section
/- The lexer's laws in plain lists: the reference's scan, tokens without their places, joined texts, comments. -/
namespace Go.Pv
open Go

/-! ### The reference's scan of a comment -/
def nlN : List UInt8 → Nat
  | [] => 0
  | c :: s => if c = 10 then 0 else 1 + nlN s
theorem nlN_cons (c : UInt8) (s : List UInt8) : nlN (c :: s) = if c = 10 then 0 else 1 + nlN s := rfl
theorem nlN_le : ∀ s : List UInt8, nlN s ≤ s.length
  | [] => Nat.le_refl _
  | c :: s => by
    rw [nlN_cons]
    have := nlN_le s
    split <;> simp <;> omega
theorem indexByte_nl : ∀ s : List UInt8, Lib.indexByte s 10 = if nlN s < s.length then (nlN s : Int) else -1
  | [] => rfl
  | c :: s => by
    have ih := indexByte_nl s
    have hl := nlN_le s
    unfold Lib.indexByte
    rw [nlN_cons]
    by_cases h : c = 10
    · subst h; simp
    · have h2 : (c == 10) = false := by simpa using h
      rw [h2, ih, if_neg h]
      simp only [List.length_cons, Bool.false_eq_true, if_false]
      by_cases hn : nlN s < s.length
      · have h3 : ((nlN s : Int) == -1) = false := by simp <;> omega
        simp only [hn, if_true, if_pos (show 1 + nlN s < s.length + 1 by omega), h3, Bool.false_eq_true, if_false] <;> omega
      · simp only [hn, if_false, if_neg (show ¬ (1 + nlN s < s.length + 1) by omega)]; rfl
theorem nlN_pos {s : List UInt8} {k : Nat} (h : k < s.length) (h1 : s[k] ≠ 10) : 0 < nlN (s.drop k) := by
  rw [List.drop_eq_getElem_cons h, nlN_cons, if_neg h1]; omega
section
variable {n k : Nat} {out : List Tk} {s : List UInt8}
theorem pre_iff (h : k < s.length) : Lib.hasPrefix (s.drop k) [47, 47] = true ↔ s[k] = 47 ∧ ∃ h2 : k + 1 < s.length, s[k + 1] = 47 := by
  rw [List.drop_eq_getElem_cons h]
  by_cases h2 : k + 1 < s.length
  · rw [List.drop_eq_getElem_cons h2]
    simp only [Lib.hasPrefix, List.isPrefixOf, Bool.and_eq_true, beq_iff_eq, h2, exists_true_left, and_true]
    constructor
    · rintro ⟨a, b⟩; exact ⟨a.symm, b.symm⟩
    · rintro ⟨a, b⟩; exact ⟨a.symm, b.symm⟩
  · rw [List.drop_eq_nil_of_le (by omega)]
    simp [Lib.hasPrefix, List.isPrefixOf, h2]
theorem lxA_comR (h : k < s.length) (h1 : ¬ clsI s[k].toNat = 4) (h2 : Lib.hasPrefix (s.drop k) [47, 47] = true) (hn : 0 < n) :
    lxA (n + 1) out k (s.drop k) = lxA n out (k + nlN (s.drop k)) (s.drop (k + nlN (s.drop k))) := by
  have hi := indexByte_nl (s.drop k)
  have hl := nlN_le (s.drop k)
  have hd : (s.drop k).length = s.length - k := List.length_drop
  by_cases hc : nlN (s.drop k) < (s.drop k).length
  · rw [if_pos hc] at hi
    have := lxA_com (n := n) (out := out) h h1 h2 (by omega)
    rw [hi] at this
    simpa using this
  · rw [if_neg hc] at hi
    rw [lxA_com0 h h1 h2 (by omega)]
    obtain ⟨m, rfl⟩ : ∃ m, n = m + 1 := ⟨n - 1, by omega⟩
    rw [show k + nlN (s.drop k) = s.length by omega, lxA_end (Nat.le_refl _) (Nat.le_refl _)]
end
theorem drop_take_to (s : List UInt8) (i k : Nat) (w : Nat) (h : k = i + w) : (s.take k).drop i = (s.drop i).take w := by subst h; exact drop_take_add s i w
/-- The reference's result. -/
def lexR (x : Option (List Tk) × Nat) : AV := match x.1 with
  | some l => .agg [.slice (l.map encK), .int .i64 (-1)]
  | none => .agg [.slice [], .int .i64 x.2]

/-! ### Tokens without their places -/
abbrev Kt := Int × List UInt8
def ktOf (x : Tk) : Kt := (x.1, x.2.1)
theorem kq_iff (x y : Tk) : kq x y = true ↔ ktOf x = ktOf y := by simp [kq, ktOf, Prod.ext_iff]
theorem alk_iff : ∀ (a b : List Tk), alk a b = true ↔ a.map ktOf = b.map ktOf
  | [], [] => by simp [alk]
  | [], _ :: _ => by simp [alk]
  | _ :: _, [] => by simp [alk]
  | x :: a, y :: b => by rw [alk_cons, Bool.and_eq_true, kq_iff, alk_iff a b]; simp
def lxK : Nat → List UInt8 → Option (List Kt)
  | 0, _ => none
  | _ + 1, [] => some [(3, [])]
  | n + 1, c :: r =>
    if clsI c.toNat = 4 then lxK n r
    else if Lib.hasPrefix (c :: r) [47, 47] = true then lxK n ((c :: r).drop (nlN (c :: r)))
    else if clsI c.toNat = 1 then (lxK n ((c :: r).drop (wordN (c :: r)))).map ((1, (c :: r).take (wordN (c :: r))) :: ·)
    else if 0 ≤ Lib.indexByte signs c then (lxK n r).map ((2, [c]) :: ·)
    else none

theorem pre_ne {c : UInt8} {r : List UInt8} (h : Lib.hasPrefix (c :: r) [47, 47] = true) : c = 47 := by
  simp only [Lib.hasPrefix, List.isPrefixOf, Bool.and_eq_true, beq_iff_eq] at h
  exact h.1.symm
theorem nl_step {c : UInt8} {r : List UInt8} (h : Lib.hasPrefix (c :: r) [47, 47] = true) : nlN (c :: r) = 1 + nlN r := by
  obtain rfl := pre_ne h
  rw [nlN_cons, if_neg (by decide)]
theorem word_step {c : UInt8} {r : List UInt8} (h : clsI c.toNat = 1) : wordN (c :: r) = 1 + wordN r := by
  rw [wordN_cons, if_pos (by simp [wc, h])]

theorem lxK_fuel : ∀ (n m : Nat) (s : List UInt8), s.length < n → s.length < m → lxK n s = lxK m s
  | 0, _, _, h, _ => absurd h (Nat.not_lt_zero _)
  | _, 0, _, _, h => absurd h (Nat.not_lt_zero _)
  | n + 1, m + 1, [], _, _ => rfl
  | n + 1, m + 1, c :: r, h1, h2 => by
    simp only [List.length_cons] at h1 h2
    simp only [lxK]
    split
    · exact lxK_fuel n m r (by omega) (by omega)
    · split
      · rename_i hp
        rw [nl_step hp, Nat.add_comm 1, List.drop_succ_cons]
        exact lxK_fuel n m _ (by rw [List.length_drop]; omega) (by rw [List.length_drop]; omega)
      · split
        · rename_i hw
          rw [word_step hw, Nat.add_comm 1, List.drop_succ_cons, lxK_fuel n m _ (by rw [List.length_drop]; omega) (by rw [List.length_drop]; omega)]
        · split
          · rw [lxK_fuel n m r (by omega) (by omega)]
          · rfl
def tkK (s : List UInt8) : Option (List Kt) := lxK (s.length + 1) s
theorem tkK_nil : tkK [] = some [(3, [])] := rfl
theorem tkK_cons (c : UInt8) (r : List UInt8) : tkK (c :: r) =
    if clsI c.toNat = 4 then tkK r
    else if Lib.hasPrefix (c :: r) [47, 47] = true then tkK ((c :: r).drop (nlN (c :: r)))
    else if clsI c.toNat = 1 then (tkK ((c :: r).drop (wordN (c :: r)))).map ((1, (c :: r).take (wordN (c :: r))) :: ·)
    else if 0 ≤ Lib.indexByte signs c then (tkK r).map ((2, [c]) :: ·)
    else none := by
  unfold tkK
  rw [List.length_cons, lxK]
  split
  · rfl
  · split
    · rename_i hp
      rw [nl_step hp, Nat.add_comm 1, List.drop_succ_cons]
      exact lxK_fuel _ _ _ (by rw [List.length_drop]; omega) (by omega)
    · split
      · rename_i hw
        rw [word_step hw, Nat.add_comm 1, List.drop_succ_cons, lxK_fuel (r.length + 1) _ _ (by rw [List.length_drop]; omega) (Nat.lt_succ_self _)]
      · rfl

theorem lxA_kt : ∀ (n : Nat) (out : List Tk) (k : Nat) (s : List UInt8), s.length < n → ((lxA n out k s).1).map (·.map ktOf) = (lxK n s).map (out.map ktOf ++ ·)
  | 0, _, _, _, h => absurd h (Nat.not_lt_zero _)
  | n + 1, out, k, [], _ => by simp [lxA, lxK, ktOf]
  | n + 1, out, k, c :: r, h => by
    simp only [List.length_cons] at h
    simp only [lxA, lxK]
    split
    · exact lxA_kt n out (k + 1) r (by omega)
    · split
      · rename_i hp
        have hi := indexByte_nl (c :: r)
        have hl := nlN_le (c :: r)
        by_cases hc : nlN (c :: r) < (c :: r).length
        · rw [if_pos hc] at hi
          rw [hi, if_neg (by omega), Int.toNat_natCast, nl_step hp, Nat.add_comm 1, List.drop_succ_cons]
          exact lxA_kt n out _ _ (by rw [List.length_drop]; omega)
        · rw [if_neg hc] at hi
          rw [hi, if_pos (by omega), List.drop_eq_nil_of_le (by omega)]
          obtain ⟨m, rfl⟩ : ∃ m, n = m + 1 := ⟨n - 1, by omega⟩
          simp [lxK, ktOf]
      · split
        · rename_i hw
          rw [word_step hw, Nat.add_comm 1, List.drop_succ_cons, lxA_kt n _ _ _ (by rw [List.length_drop]; omega), Option.map_map]
          congr 1
          funext l
          simp [ktOf]
        · split
          · rw [lxA_kt n _ _ _ (by omega), Option.map_map]
            congr 1
            funext l
            simp [ktOf]
          · rfl
theorem lexT_kt {s : List UInt8} (h : s.length ≤ 65536) : ((lexT s).1).map (·.map ktOf) = tkK s := by
  unfold lexT tkK
  rw [if_pos h, lxA_kt _ _ _ _ (Nat.lt_succ_self _)]
  simp

theorem sign_iff {c : UInt8} : c ∈ signs ↔ 0 ≤ Lib.indexByte signs c := by
  constructor
  · have : ∀ x ∈ signs, 0 ≤ Lib.indexByte signs x := by decide
    exact this c
  · intro h
    by_cases hm : c ∈ signs
    · exact hm
    · exfalso
      simp only [signs, List.mem_cons, not_or, List.not_mem_nil] at hm
      obtain ⟨h1, h2, h3, h4, h5, h6, h7, h8, h9, h10, h11, -⟩ := hm
      simp [signs, Lib.indexByte, Ne.symm h1, Ne.symm h2, Ne.symm h3, Ne.symm h4, Ne.symm h5, Ne.symm h6, Ne.symm h7, Ne.symm h8, Ne.symm h9, Ne.symm h10, Ne.symm h11] at h
/-! ### A comment ahead -/
theorem nlN_app : ∀ (b r : List UInt8), 10 ∉ b → nlN (b ++ 10 :: r) = b.length
  | [], r, _ => rfl
  | c :: b, r, h => by
    simp only [List.mem_cons, not_or] at h
    rw [List.cons_append, nlN_cons, if_neg (fun e => h.1 e.symm), nlN_app b r h.2, List.length_cons]; omega
theorem tkK_comment (b s : List UInt8) (h : 10 ∉ b) : tkK (([47, 47] ++ b) ++ ([10, 9, 32] ++ s)) = tkK s := by
  have e : ([47, 47] ++ b) ++ ([10, 9, 32] ++ s) = 47 :: 47 :: (b ++ 10 :: 9 :: 32 :: s) := by simp
  rw [e, tkK_cons, if_neg (by decide), if_pos (by simp [Lib.hasPrefix, List.isPrefixOf])]
  have hn : nlN (47 :: 47 :: (b ++ 10 :: 9 :: 32 :: s)) = b.length + 2 := by
    rw [nlN_cons, if_neg (by decide), nlN_cons, if_neg (by decide), nlN_app _ _ h]; omega
  rw [hn, List.drop_succ_cons, List.drop_succ_cons, List.drop_left]
  rw [tkK_cons, if_pos (by decide), tkK_cons, if_pos (by decide), tkK_cons, if_pos (by decide)]

/-! ### Joined texts -/
def jt (l : List Kt) : List (List UInt8) := (l.filter fun x => x.1 != 3).map (·.2)
def joinK (l : List Kt) : List UInt8 := Lib.join (jt l) [32]
/-- What the lexer hands back. -/
def wordK (w : List UInt8) : Prop := ∃ c r, w = c :: r ∧ clsI c.toNat = 1 ∧ ∀ x ∈ c :: r, wc x = true
inductive TkL : List Kt → Prop
  | nil : TkL [(3, [])]
  | word (w : List UInt8) (l : List Kt) (hw : wordK w) (hl : TkL l) : TkL ((1, w) :: l)
  | sign (c : UInt8) (l : List Kt) (hc : 0 ≤ Lib.indexByte signs c) (hl : TkL l) : TkL ((2, [c]) :: l)
theorem wordN_all : ∀ (s : List UInt8), ∀ x ∈ s.take (wordN s), wc x = true
  | [], x, h => by simp [wordN] at h
  | c :: s, x, h => by
    rw [wordN_cons] at h
    split at h
    · rename_i hc
      rw [Nat.add_comm 1, List.take_succ_cons, List.mem_cons] at h
      rcases h with rfl | h
      · exact hc
      · exact wordN_all s x h
    · simp at h
theorem join_cons_le (x : List UInt8) (r : List (List UInt8)) : (Lib.join (x :: r) [32]).length ≤ x.length + 1 + (Lib.join r [32]).length := by
  cases r with
  | nil => rw [Lib.join_one]; omega
  | cons y r =>
    rw [Lib.join_length, Lib.join_length]
    simp only [Lib.lens, List.map_cons, List.sum_cons, List.length_cons, List.length_nil]
    omega
theorem tkK_TkL : ∀ (n : Nat) (s : List UInt8) (l : List Kt), s.length ≤ n → tkK s = some l → TkL l ∧ (joinK l).length ≤ 2 * s.length
  | n, [], l, _, h => by
    rw [tkK_nil] at h
    injection h with h; subst h
    exact ⟨.nil, by decide⟩
  | 0, c :: r, l, hn, _ => by simp at hn
  | n + 1, c :: r, l, hn, h => by
    simp only [List.length_cons] at hn
    rw [tkK_cons] at h
    split at h
    · obtain ⟨h1, h2⟩ := tkK_TkL n r l (by omega) h
      exact ⟨h1, by simp only [List.length_cons]; omega⟩
    · split at h
      · rename_i hp
        rw [nl_step hp, Nat.add_comm 1, List.drop_succ_cons] at h
        obtain ⟨h1, h2⟩ := tkK_TkL n _ l (by rw [List.length_drop]; omega) h
        rw [List.length_drop] at h2
        exact ⟨h1, by simp only [List.length_cons]; omega⟩
      · split at h
        · rename_i hw
          obtain ⟨l', h1, rfl⟩ := Option.map_eq_some_iff.1 h
          have hall := wordN_all (c :: r)
          have hwl := wordN_le (c :: r)
          rw [word_step hw, Nat.add_comm 1] at h1 hall hwl
          rw [List.drop_succ_cons] at h1
          obtain ⟨g1, g2⟩ := tkK_TkL n _ l' (by rw [List.length_drop]; omega) h1
          rw [List.length_drop] at g2
          rw [List.take_succ_cons] at hall
          rw [word_step hw, Nat.add_comm 1, List.take_succ_cons]
          refine ⟨.word _ _ ⟨c, _, rfl, hw, hall⟩ g1, ?_⟩
          have := join_cons_le (c :: r.take (wordN r)) (jt l')
          simp only [joinK, jt, List.filter_cons, List.length_cons, List.length_take] at *
          simp only [show ((1 : Int) != 3) = true by decide, if_true, List.map_cons]
          omega
        · split at h
          · rename_i hs
            obtain ⟨l', h1, rfl⟩ := Option.map_eq_some_iff.1 h
            obtain ⟨g1, g2⟩ := tkK_TkL n _ l' (by omega) h1
            refine ⟨.sign _ _ hs g1, ?_⟩
            have := join_cons_le [c] (jt l')
            simp only [joinK, jt, List.filter_cons, List.length_cons, List.length_nil] at *
            simp only [show ((2 : Int) != 3) = true by decide, if_true, List.map_cons]
            omega
          · cases h
theorem joinTail_cons (x : List UInt8) (r : List (List UInt8)) : Lib.joinTail [32] (x :: r) = 32 :: Lib.join (x :: r) [32] := by
  rw [Lib.join_cons]; simp [Lib.joinTail]
theorem wordN_app : ∀ (w t : List UInt8), (∀ x ∈ w, wc x = true) → (t = [] ∨ ∃ r, t = 32 :: r) → wordN (w ++ t) = w.length
  | [], t, _, h => by
    rcases h with rfl | ⟨r, rfl⟩
    · rfl
    · rw [List.nil_append, wordN_cons, if_neg (by decide)]; rfl
  | c :: w, t, hw, h => by
    rw [List.cons_append, wordN_cons, if_pos (hw c (by simp)), wordN_app w t (fun x hx => hw x (by simp [hx])) h, List.length_cons]; omega
theorem jtail_form (l : List Kt) : Lib.joinTail [32] (jt l) = [] ∨ ∃ r, Lib.joinTail [32] (jt l) = 32 :: r := by
  cases h : jt l with
  | nil => left; rfl
  | cons x r => right; exact ⟨_, joinTail_cons x r⟩
theorem sign_facts (c : UInt8) (h : 0 ≤ Lib.indexByte signs c) : ¬ clsI c.toNat = 4 ∧ c ≠ 47 ∧ ¬ clsI c.toNat = 1 := by
  have : ∀ x ∈ signs, ¬ clsI x.toNat = 4 ∧ x ≠ 47 ∧ ¬ clsI x.toNat = 1 := by decide
  exact this c (sign_iff.2 h)
theorem joinK_word (w : List UInt8) (l : List Kt) : jt ((1, w) :: l) = w :: jt l := by simp [jt]
theorem joinK_sign (c : UInt8) (l : List Kt) : jt ((2, [c]) :: l) = [c] :: jt l := by simp [jt]
theorem relex {l : List Kt} (h : TkL l) : tkK (Lib.joinTail [32] (jt l)) = some l ∧ tkK (joinK l) = some l := by
  have tail : ∀ l : List Kt, jt l ≠ [] → tkK (joinK l) = some l → tkK (Lib.joinTail [32] (jt l)) = some l := by
    intro l hne hl
    cases h : jt l with
    | nil => exact absurd h hne
    | cons x r => rw [joinTail_cons, tkK_cons, if_pos (by decide), ← h]; exact hl
  induction h with
  | nil => exact ⟨rfl, rfl⟩
  | word w l hw hl ih =>
    have key : tkK (joinK ((1, w) :: l)) = some ((1, w) :: l) := by
      obtain ⟨c, r, rfl, hc, hall⟩ := hw
      rw [joinK, joinK_word, Lib.join_cons]
      have hN := wordN_app (c :: r) _ hall (jtail_form l)
      rw [List.cons_append] at hN ⊢
      rw [tkK_cons, if_neg (by omega), if_neg (fun hp => by have := pre_ne hp; subst this; exact absurd hc (by decide)), if_pos hc, hN]
      rw [← List.cons_append, List.drop_left, List.take_left, ih.1]; rfl
    exact ⟨tail _ (by rw [joinK_word]; simp) key, key⟩
  | sign c l hc hl ih =>
    have key : tkK (joinK ((2, [c]) :: l)) = some ((2, [c]) :: l) := by
      obtain ⟨h1, h2, h3⟩ := sign_facts c hc
      rw [joinK, joinK_sign, Lib.join_cons, List.singleton_append, tkK_cons, if_neg h1, if_neg (fun hp => h2 (pre_ne hp)), if_neg h3, if_pos hc, ih.1]; rfl
    exact ⟨tail _ (by rw [joinK_sign]; simp) key, key⟩
/-- The reference's joined text. -/
def refJS (s : List UInt8) (x : Kt) : List UInt8 := if x.1 = 3 then s else (if s = [] then s else s ++ [32]) ++ x.2
def refJ (l : List Kt) : List UInt8 := l.foldl refJS []
theorem refJ_acc {l : List Kt} (h : TkL l) : ∀ s, s ≠ [] → l.foldl refJS s = s ++ Lib.joinTail [32] (jt l) := by
  induction h with
  | nil => intro s _; simp [refJS, jt, Lib.joinTail]
  | word w l hw hl ih =>
    intro s hs
    obtain ⟨c, r, rfl, -⟩ := hw
    rw [List.foldl_cons, ih _ (by simp [refJS]), joinK_word]
    simp [refJS, hs, Lib.joinTail]
  | sign c l hc hl ih =>
    intro s hs
    rw [List.foldl_cons, ih _ (by simp [refJS]), joinK_sign]
    simp [refJS, hs, Lib.joinTail]
theorem refJ_eq {l : List Kt} (h : TkL l) : refJ l = joinK l := by
  cases h with
  | nil => rfl
  | word w l hw hl =>
    obtain ⟨c, r, rfl, -⟩ := hw
    rw [refJ, List.foldl_cons, refJ_acc hl _ (by simp [refJS]), joinK, joinK_word, Lib.join_cons]
    simp [refJS]
  | sign c l hc hl =>
    rw [refJ, List.foldl_cons, refJ_acc hl _ (by simp [refJS]), joinK, joinK_sign, Lib.join_cons]
    simp [refJS]
theorem refJS_len (s : List UInt8) (x : Kt) : (refJS s x).length ≤ s.length + 1 + x.2.length := by
  unfold refJS
  split
  · omega
  · split <;> simp <;> omega
theorem refJ_take {l : List Kt} {k : Nat} (h : k < l.length) : refJ (l.take (k + 1)) = refJS (refJ (l.take k)) l[k] := by
  unfold refJ
  rw [List.take_succ_eq_append_getElem h, List.foldl_append]; rfl
def szK (l : List Kt) : Nat := (l.map fun x => x.2.length + 1).sum
theorem refJ_len : ∀ (l : List Kt) (s : List UInt8), (l.foldl refJS s).length ≤ s.length + szK l
  | [], s => by simp [szK]
  | x :: l, s => by
    rw [List.foldl_cons]
    have h1 := refJ_len l (refJS s x)
    have h2 := refJS_len s x
    simp only [szK, List.map_cons, List.sum_cons] at h1 ⊢
    omega
theorem szK_take (l : List Kt) (k : Nat) : szK (l.take k) ≤ szK l := by
  conv => rhs; rw [← List.take_append_drop k l]
  simp only [szK, List.map_append, List.sum_append]; omega
theorem szK_mem {l : List Kt} {x : Kt} (h : x ∈ l) : x.2.length + 1 ≤ szK l := by
  induction l with
  | nil => cases h
  | cons y l ih =>
    simp only [szK, List.map_cons, List.sum_cons]
    rcases List.mem_cons.1 h with rfl | h
    · omega
    · have := ih h
      unfold szK at this
      omega
theorem szK_len (l : List Kt) : l.length ≤ szK l := by
  induction l with
  | nil => simp [szK]
  | cons y l ih => simp only [szK, List.map_cons, List.sum_cons, List.length_cons] at *; omega

/-! ### What a text's tokens weigh -/
theorem tkK_sz : ∀ (n : Nat) (s : List UInt8) (l : List Kt), s.length ≤ n → tkK s = some l → szK l ≤ 2 * s.length + 1
  | n, [], l, _, h => by
    rw [tkK_nil] at h
    injection h with h; subst h
    decide
  | 0, c :: r, l, hn, _ => by simp at hn
  | n + 1, c :: r, l, hn, h => by
    simp only [List.length_cons] at hn
    rw [tkK_cons] at h
    split at h
    · have := tkK_sz n r l (by omega) h
      simp only [List.length_cons]; omega
    · split at h
      · rename_i hp
        rw [nl_step hp, Nat.add_comm 1, List.drop_succ_cons] at h
        have := tkK_sz n _ l (by rw [List.length_drop]; omega) h
        rw [List.length_drop] at this
        simp only [List.length_cons]; omega
      · split at h
        · rename_i hw
          obtain ⟨l', h1, rfl⟩ := Option.map_eq_some_iff.1 h
          have hwl := wordN_le (c :: r)
          rw [word_step hw, Nat.add_comm 1] at h1 hwl
          rw [List.drop_succ_cons] at h1
          have g2 := tkK_sz n _ l' (by rw [List.length_drop]; omega) h1
          rw [List.length_drop] at g2
          rw [word_step hw, Nat.add_comm 1, List.take_succ_cons]
          simp only [szK, List.map_cons, List.sum_cons, List.length_cons, List.length_take] at *
          omega
        · split at h
          · obtain ⟨l', h1, rfl⟩ := Option.map_eq_some_iff.1 h
            have g2 := tkK_sz n _ l' (by omega) h1
            simp only [szK, List.map_cons, List.sum_cons, List.length_cons, List.length_nil] at *
            omega
          · cases h

/-! ### Lines -/
def lastI : List UInt8 → Int
  | [] => -1
  | c :: s => if 0 ≤ lastI s then lastI s + 1 else if c = 10 then 0 else -1
theorem lastI_ge : ∀ s, -1 ≤ lastI s
  | [] => by decide
  | c :: s => by
    have := lastI_ge s
    unfold lastI
    split
    · omega
    · split <;> omega
theorem lastI_app (s : List UInt8) (c : UInt8) : lastI (s ++ [c]) = if c = 10 then (s.length : Int) else lastI s := by
  induction s with
  | nil => by_cases h : c = 10 <;> simp [lastI, h]
  | cons d s ih =>
    have hg := lastI_ge s
    rw [List.cons_append, lastI, ih]
    by_cases h : c = 10
    · rw [if_pos h, if_pos h, if_pos (by omega), List.length_cons]; omega
    · rw [if_neg h, if_neg h]; rfl
theorem lnR_law (s : List UInt8) : ((lnR s).1 : Int) = s.count 10 + 1 ∧ ((lnR s).2 : Int) = s.length - lastI s := by
  rw [← List.reverse_reverse s]
  generalize s.reverse = r
  induction r with
  | nil => exact ⟨rfl, rfl⟩
  | cons c r ih =>
    rw [List.reverse_cons]
    have e : lnR (r.reverse ++ [c]) = lnS (lnR r.reverse) c := by unfold lnR; rw [List.foldl_append]; rfl
    rw [e, lastI_app, List.count_append, List.length_append]
    obtain ⟨h1, h2⟩ := ih
    have hg := lastI_ge r.reverse
    by_cases h : c = 10
    · subst h
      simp only [lnS, if_true, List.length_singleton]
      refine ⟨?_, ?_⟩
      · rw [show List.count (10 : UInt8) [10] = 1 by decide]; omega
      · omega
    · simp only [lnS, if_neg h, List.length_singleton]
      have h0 : List.count (10 : UInt8) [c] = 0 := List.count_eq_zero.2 (by simpa using fun e => h e.symm)
      rw [h0]
      exact ⟨by omega, by omega⟩

theorem jt_take {a : List Tk} {k : Nat} (h : k < a.length) : jt ((a.take (k + 1)).map ktOf) = jt ((a.take k).map ktOf) ++ (if a[k].1 = 3 then [] else [a[k].2.1]) := by
  rw [List.take_succ_eq_append_getElem h, List.map_append]
  simp only [jt, List.filter_append, List.map_append, List.map_cons, List.map_nil, ktOf]
  by_cases h3 : a[k].1 = 3
  · simp [h3]
  · simp [h3]
theorem jt_len (l : List Kt) : (jt l).length ≤ l.length := by
  simp only [jt, List.length_map]; exact List.length_filter_le _ _
theorem joinK_sz (l : List Kt) : (joinK l).length ≤ szK l := by
  induction l with
  | nil => simp [joinK, jt, szK, Lib.join_nil]
  | cons x l ih =>
    simp only [joinK, jt, szK, List.map_cons, List.sum_cons, List.filter_cons] at ih ⊢
    split
    · have := join_cons_le x.2 (((l.filter fun x => x.1 != 3).map (·.2)))
      simp only [List.map_cons]; omega
    · omega
theorem szK_kt_take (a : List Tk) (k : Nat) : szK ((a.take k).map ktOf) ≤ szK (a.map ktOf) := by rw [List.map_take]; exact szK_take _ _
theorem szK_kt_get {a : List Tk} {k : Nat} (h : k < a.length) : a[k].2.1.length + 1 ≤ szK (a.map ktOf) := szK_mem (x := ktOf a[k]) (List.mem_map_of_mem (by simp))
theorem refJ_kt {a : List Tk} {k : Nat} (h : k < a.length) : refJ ((a.take (k + 1)).map ktOf) = refJS (refJ ((a.take k).map ktOf)) (ktOf a[k]) := by
  have h2 : k < (a.map ktOf).length := by simpa using h
  have := refJ_take h2
  simpa [List.map_take] using this
theorem refJ_sz (l : List Kt) : (refJ l).length ≤ szK l := by have := refJ_len l []; simpa [refJ] using this

theorem jt_take2 {a : List Tk} {k : Nat} (h : k < a.length) : jt ((a.map ktOf).take (k + 1)) = jt ((a.map ktOf).take k) ++ (if a[k].1 = 3 then [] else [a[k].2.1]) := by
  have := jt_take h
  rwa [List.map_take, List.map_take] at this
theorem refJ_kt2 {a : List Tk} {k : Nat} (h : k < a.length) : refJ ((a.map ktOf).take (k + 1)) = refJS (refJ ((a.map ktOf).take k)) (ktOf a[k]) := by
  have := refJ_kt h
  rwa [List.map_take, List.map_take] at this
theorem take_kt {a : List Tk} {k : Nat} (h : a.length ≤ k) : (a.map ktOf).take k = a.map ktOf := List.take_of_length_le (by rw [List.length_map]; exact h)
theorem take_all_encK {a : List Tk} {k : Nat} (h : a.length ≤ k) : (a.take k).map encK = a.map encK := by rw [List.take_of_length_le h]
theorem take_all_encK2 {a : List Tk} {k : Nat} (h : a.length ≤ k) : (a.map encK).take k = a.map encK := List.take_of_length_le (by rw [List.length_map]; exact h)
/-- Where an offset lies in a text. -/
def clampN (i : Int) (n : Nat) : Nat := min i.toNat n
theorem clampN_if (i : Int) (n : Nat) : (if (n : Int) < (if i < 0 then 0 else i) then (n : Int) else (if i < 0 then 0 else i)) = (clampN i n : Int) := by
  unfold clampN
  split <;> split <;> omega
theorem clampN_le (i : Int) (n : Nat) : clampN i n ≤ n := Nat.min_le_right _ _
theorem lastI_lib (s : List UInt8) : Lib.lastIndexByte ⟨s.toArray⟩ 10 = lastI s := by
  have key : ∀ s : List UInt8, (lastI s = -1 ∧ ∀ (j : Nat) (h : j < s.length), s[j] ≠ 10) ∨ ∃ i, ∃ h : i < s.length, lastI s = i ∧ s[i] = 10 ∧ ∀ (j : Nat) (h : j < s.length), i < j → s[j] ≠ 10 := by
    intro s
    induction s with
    | nil => left; exact ⟨rfl, fun j h => by cases h⟩
    | cons c s ih =>
      rcases ih with ⟨h1, h2⟩ | ⟨i, hi, h1, h2, h3⟩
      · by_cases hc : c = 10
        · right
          refine ⟨0, by simp, by simp [lastI, h1, hc], hc, fun j h hj => ?_⟩
          obtain ⟨j, rfl⟩ : ∃ m, j = m + 1 := ⟨j - 1, by omega⟩
          simpa using h2 j (by simpa using h)
        · left
          refine ⟨by simp [lastI, h1, hc], fun j h => ?_⟩
          cases j with
          | zero => exact hc
          | succ j => simpa using h2 j (by simpa using h)
      · right
        refine ⟨i + 1, by simpa using hi, by simp [lastI, h1], by simpa using h2, fun j h hj => ?_⟩
        obtain ⟨j, rfl⟩ : ∃ m, j = m + 1 := ⟨j - 1, by omega⟩
        simpa using h3 j (by simpa using h) (by omega)
  have hget : ∀ (j : Nat) (h : j < s.length), ((⟨s.toArray⟩ : ByteArray).data[j]!) = s[j] := fun j h => by simp [h]
  have hsz : (⟨s.toArray⟩ : ByteArray).size = s.length := by simp [ByteArray.size]
  rcases Lib.lastIndexByte_spec ⟨s.toArray⟩ 10 with ⟨g1, g2⟩ | ⟨i, gi, g1, g2, g3⟩ <;> rcases key s with ⟨h1, h2⟩ | ⟨k, hk, h1, h2, h3⟩
  · rw [g1, h1]
  · exfalso
    have := g2 k (by omega)
    rw [hget k hk, h2] at this
    exact this rfl
  · exfalso
    rw [hsz] at gi
    rw [hget i gi] at g2
    exact h2 i gi (UInt8.toNat_inj.1 (by have : (10 : UInt8).toNat = 10 := rfl; omega))
  · rw [hsz] at gi
    rw [g1, h1]
    rw [hget i gi] at g2
    have e : s[i] = 10 := UInt8.toNat_inj.1 (by have : (10 : UInt8).toNat = 10 := rfl; omega)
    rcases Nat.lt_trichotomy i k with h | h | h
    · exfalso
      have := g3 k h (by omega)
      rw [hget k hk, h2] at this
      exact this rfl
    · rw [h]
    · exact absurd e (h3 i gi h)

/-! ### The laws -/
theorem lexT_some {s : List UInt8} {l : List Tk} {n : Nat} (hs : s.length ≤ 65536) (h : lexT s = (some l, n)) : tkK s = some (l.map ktOf) ∧ TkL (l.map ktOf) ∧ szK (l.map ktOf) ≤ 2 * s.length + 1 ∧ (joinK (l.map ktOf)).length ≤ 2 * s.length ∧ l.length ≤ 2 * s.length + 1 := by
  have h1 := lexT_kt hs
  rw [h] at h1
  have h2 : tkK s = some (l.map ktOf) := h1.symm
  have h3 := tkK_TkL s.length s _ (Nat.le_refl _) h2
  have h4 := tkK_sz s.length s _ (Nat.le_refl _) h2
  have h5 := szK_len (l.map ktOf)
  rw [List.length_map] at h5
  exact ⟨h2, h3.1, h4, h3.2, by omega⟩
theorem lexT_of {s : List UInt8} {l : List Kt} (hs : s.length ≤ 65536) (h : tkK s = some l) : ∃ m n, lexT s = (some m, n) ∧ m.map ktOf = l := by
  have h1 := lexT_kt hs
  rw [h] at h1
  rcases hx : lexT s with ⟨_ | m, n⟩
  · rw [hx] at h1; cases h1
  · rw [hx] at h1
    exact ⟨m, n, rfl, by simpa using h1⟩
theorem relexT {s : List UInt8} {l : List Tk} {n : Nat} (hs : s.length ≤ 3000) (h : lexT s = (some l, n)) : ∃ m k, lexT (joinK (l.map ktOf)) = (some m, k) ∧ alk l m = true ∧ alk m l = true ∧ refJ (l.map ktOf) = joinK (l.map ktOf) ∧ m.length ≤ 20000 := by
  obtain ⟨h1, h2, h3, h4, h5⟩ := lexT_some (by omega) h
  obtain ⟨m, k, h6, h7⟩ := lexT_of (by omega) (relex h2).2
  have h8 := lexT_some (by omega) h6
  exact ⟨m, k, h6, (alk_iff _ _).2 h7.symm, (alk_iff _ _).2 h7, refJ_eq h2, by omega⟩
theorem commentT {s c : List UInt8} {l : List Tk} {n : Nat} (hs : s.length ≤ 1000) (hc : c.length ≤ 1000) (hn : 10 ∉ c) (h : lexT s = (some l, n)) : ∃ m k, lexT (47 :: 47 :: (c ++ 10 :: 9 :: 32 :: s)) = (some m, k) ∧ alk m l = true ∧ m.length ≤ 20000 ∧ l.length ≤ 20000 := by
  obtain ⟨h1, h2, h3, h4, h5⟩ := lexT_some (by omega) h
  have h6 := tkK_comment c s hn
  rw [h1] at h6
  have e : ([47, 47] ++ c) ++ ([10, 9, 32] ++ s) = 47 :: 47 :: (c ++ 10 :: 9 :: 32 :: s) := by simp
  rw [e] at h6
  have hl : (47 :: 47 :: (c ++ 10 :: 9 :: 32 :: s)).length ≤ 5000 := by simp only [List.length_cons, List.length_append]; omega
  obtain ⟨m, k, h7, h8⟩ := lexT_of (by omega) h6
  have h9 := lexT_some (by omega) h7
  exact ⟨m, k, h7, (alk_iff _ _).2 h8, by omega, by omega⟩
def encB (x : UInt8) : List AV := [.int .u8 x.toNat]
theorem encB_cells (x : UInt8) : (encB x).length = 1 ∧ (encB x).all AV.one = true := ⟨rfl, rfl⟩
theorem rowNums_encB : ∀ l : List UInt8, rowNums (l.map encB) = some (l.map fun x => (x.toNat : Int))
  | [] => rfl
  | x :: l => by simp [rowNums, encB, rowNums_encB l]
theorem ofNum_encB (l : List UInt8) : (l.map fun x => (x.toNat : Int)).map (fun n => UInt8.ofNat n.toNat) = l := by simp [Function.comp_def]
theorem ofNum_encB2 (l : List UInt8) : l.map ((fun n : Int => UInt8.ofNat n.toNat) ∘ fun x : UInt8 => (x.toNat : Int)) = l := by simp [Function.comp_def]
def noNl (c : List UInt8) : List UInt8 := c.filter (· != 10)
theorem noNl_not (c : List UInt8) : 10 ∉ noNl c := by simp [noNl]
theorem noNl_le (c : List UInt8) : (noNl c).length ≤ c.length := List.length_filter_le _ _
theorem noNl_take {c : List UInt8} {k : Nat} (h : k < c.length) : noNl (c.take (k + 1)) = noNl (c.take k) ++ (if c[k] = 10 then [] else [c[k]]) := by
  rw [List.take_succ_eq_append_getElem h]
  simp only [noNl, List.filter_append]
  by_cases h1 : c[k] = 10
  · simp [h1]
  · simp [h1]
end Go.Pv
end

section
/- Short words for the walks. -/
namespace Go.Pv
open Go

theorem sg {a b : Prop} (h : b) (ha : a := by first | omega | (simp at *; omega)) : a ∧ b := ⟨ha, h⟩
theorem sgD {a b : Prop} (h : b) (ha : a := by first | omega | assumption | trivial | (simp at *; omega)) : a ∧ b := ⟨ha, h⟩
theorem sgX {a b : Prop} (h : b) (ha : a := by first | omega | assumption | exact Rows_map _ _ encK_cells _ | (simp at *; omega)) : a ∧ b := ⟨ha, h⟩
theorem sgK {a b : Prop} (h : b) (ha : a := by first | omega | assumption | exact Rows_map _ _ encK_cells _ | exact ⟨by omega, Rows_map _ _ encK_cells _⟩ | (simp at *; omega)) : a ∧ b := ⟨ha, h⟩
theorem sgM {a b : Prop} (h : b) (ha : a := by first | omega | (simp only [List.length_take, List.length_map]; omega) | (simp at *; omega)) : a ∧ b := ⟨ha, h⟩
theorem sgL {a b : Prop} (h : b) (ha : a := by first | omega | (simp only [List.length_take, List.length_map, List.length_append, List.length_cons, List.length_nil]; omega) | (simp at *; omega)) : a ∧ b := ⟨ha, h⟩

theorem nrm {n : AS → Prop} {Q : Exit → AS → Prop} {s : AS} :
    (thenA n Q .normal s = n s ∧ (∀ i, thenA n Q (.exit i) s = Q (.exit i) s) ∧ (∀ i, thenA n Q (.goto i) s = Q (.goto i) s) ∧ thenA n Q .ret s = Q .ret s ∧ (∀ i, thenA n Q (.panic i) s = Q (.panic i) s) ∧ thenA n Q .outgrown s = Q .outgrown s) ∧
    (∀ i, inBlockA i Q .normal s = Q .normal s) ∧ (∀ i j, inBlockA i Q (.exit j) s = if j = i then Q .normal s else Q (.exit j) s) ∧ (∀ i, inBlockA i Q .ret s = Q .ret s) ∧
    noGotoA Q .normal s = Q .normal s ∧ noGotoA Q .ret s = Q .ret s ∧ (∀ i, noGotoA Q (.exit i) s = Q (.exit i) s) := by
  refine ⟨⟨rfl, fun _ => rfl, fun _ => rfl, rfl, fun _ => rfl, rfl⟩, fun _ => rfl, fun i j => ?_, fun _ => rfl, rfl, rfl, fun _ => rfl⟩
  rfl
@[simp] theorem row_zero (x : List AV) (l : List (List AV)) : row (x :: l) 0 = x := rfl
end Go.Pv
end

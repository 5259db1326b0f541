import Derived.Test.YtpjkdaechknogaaDoorPvXa
import Derived.Lib.Join
import Derived.Lib.LastIndexByte
import Derived.Test.YtpjkdaechknogaaDoorPvMc
set_option linter.all false
section
/- The lexer's laws in plain lists: the reference's scan, tokens without their places, joined texts, comments. -/
namespace Go.Pv
open Go

/-! ### The reference's scan of a comment -/
def nlN : List UInt8 → Nat
  | [] => 0
  | c :: s => if c = 10 then 0 else 1 + nlN s
theorem nlN_cons (c : UInt8) (s : List UInt8) : nlN (c :: s) = if c = 10 then 0 else 1 + nlN s := rfl
theorem nlN_le : ∀ s : List UInt8, nlN s ≤ s.length
  | [] => Nat.le_refl _
  | c :: s => by
    rw [nlN_cons]
    have := nlN_le s
    split <;> simp <;> omega
theorem indexByte_nl : ∀ s : List UInt8, Lib.indexByte s 10 = if nlN s < s.length then (nlN s : Int) else -1
  | [] => rfl
  | c :: s => by
    have ih := indexByte_nl s
    have hl := nlN_le s
    unfold Lib.indexByte
    rw [nlN_cons]
    by_cases h : c = 10
    · subst h; simp
    · have h2 : (c == 10) = false := by simpa using h
      rw [h2, ih, if_neg h]
      simp only [List.length_cons, Bool.false_eq_true, if_false]
      by_cases hn : nlN s < s.length
      · have h3 : ((nlN s : Int) == -1) = false := by simp <;> omega
        simp only [hn, if_true, if_pos (show 1 + nlN s < s.length + 1 by omega), h3, Bool.false_eq_true, if_false] <;> omega
      · simp only [hn, if_false, if_neg (show ¬ (1 + nlN s < s.length + 1) by omega)]; rfl
theorem nlN_pos {s : List UInt8} {k : Nat} (h : k < s.length) (h1 : s[k] ≠ 10) : 0 < nlN (s.drop k) := by
  rw [List.drop_eq_getElem_cons h, nlN_cons, if_neg h1]; omega
section
variable {n k : Nat} {out : List Tk} {s : List UInt8}
theorem pre_iff (h : k < s.length) : Lib.hasPrefix (s.drop k) [47, 47] = true ↔ s[k] = 47 ∧ ∃ h2 : k + 1 < s.length, s[k + 1] = 47 := by
  rw [List.drop_eq_getElem_cons h]
  by_cases h2 : k + 1 < s.length
  · rw [List.drop_eq_getElem_cons h2]
    simp only [Lib.hasPrefix, List.isPrefixOf, Bool.and_eq_true, beq_iff_eq, h2, exists_true_left, and_true]
    constructor
    · rintro ⟨a, b⟩; exact ⟨a.symm, b.symm⟩
    · rintro ⟨a, b⟩; exact ⟨a.symm, b.symm⟩
  · rw [List.drop_eq_nil_of_le (by omega)]
    simp [Lib.hasPrefix, List.isPrefixOf, h2]
theorem lxA_comR (h : k < s.length) (h1 : ¬ clsI s[k].toNat = 4) (h2 : Lib.hasPrefix (s.drop k) [47, 47] = true) (hn : 0 < n) :
    lxA (n + 1) out k (s.drop k) = lxA n out (k + nlN (s.drop k)) (s.drop (k + nlN (s.drop k))) := by
  have hi := indexByte_nl (s.drop k)
  have hl := nlN_le (s.drop k)
  have hd : (s.drop k).length = s.length - k := List.length_drop
  by_cases hc : nlN (s.drop k) < (s.drop k).length
  · rw [if_pos hc] at hi
    have := lxA_com (n := n) (out := out) h h1 h2 (by omega)
    rw [hi] at this
    simpa using this
  · rw [if_neg hc] at hi
    rw [lxA_com0 h h1 h2 (by omega)]
    obtain ⟨m, rfl⟩ : ∃ m, n = m + 1 := ⟨n - 1, by omega⟩
    rw [show k + nlN (s.drop k) = s.length by omega, lxA_end (Nat.le_refl _) (Nat.le_refl _)]
end
theorem drop_take_to (s : List UInt8) (i k : Nat) (w : Nat) (h : k = i + w) : (s.take k).drop i = (s.drop i).take w := by subst h; exact drop_take_add s i w
/-- The reference's result. -/
def lexR (x : Option (List Tk) × Nat) : AV := match x.1 with
  | some l => .agg [.slice (l.map encK), .int .i64 (-1)]
  | none => .agg [.slice [], .int .i64 x.2]

/-! ### Tokens without their places -/
abbrev Kt := Int × List UInt8
def ktOf (x : Tk) : Kt := (x.1, x.2.1)
theorem kq_iff (x y : Tk) : kq x y = true ↔ ktOf x = ktOf y := by simp [kq, ktOf, Prod.ext_iff]
theorem alk_iff : ∀ (a b : List Tk), alk a b = true ↔ a.map ktOf = b.map ktOf
  | [], [] => by simp [alk]
  | [], _ :: _ => by simp [alk]
  | _ :: _, [] => by simp [alk]
  | x :: a, y :: b => by rw [alk_cons, Bool.and_eq_true, kq_iff, alk_iff a b]; simp
def lxK : Nat → List UInt8 → Option (List Kt)
  | 0, _ => none
  | _ + 1, [] => some [(3, [])]
  | n + 1, c :: r =>
    if clsI c.toNat = 4 then lxK n r
    else if Lib.hasPrefix (c :: r) [47, 47] = true then lxK n ((c :: r).drop (nlN (c :: r)))
    else if clsI c.toNat = 1 then (lxK n ((c :: r).drop (wordN (c :: r)))).map ((1, (c :: r).take (wordN (c :: r))) :: ·)
    else if 0 ≤ Lib.indexByte signs c then (lxK n r).map ((2, [c]) :: ·)
    else none

theorem pre_ne {c : UInt8} {r : List UInt8} (h : Lib.hasPrefix (c :: r) [47, 47] = true) : c = 47 := by
  simp only [Lib.hasPrefix, List.isPrefixOf, Bool.and_eq_true, beq_iff_eq] at h
  exact h.1.symm
theorem nl_step {c : UInt8} {r : List UInt8} (h : Lib.hasPrefix (c :: r) [47, 47] = true) : nlN (c :: r) = 1 + nlN r := by
  obtain rfl := pre_ne h
  rw [nlN_cons, if_neg (by decide)]
theorem word_step {c : UInt8} {r : List UInt8} (h : clsI c.toNat = 1) : wordN (c :: r) = 1 + wordN r := by
  rw [wordN_cons, if_pos (by simp [wc, h])]

theorem lxK_fuel : ∀ (n m : Nat) (s : List UInt8), s.length < n → s.length < m → lxK n s = lxK m s
  | 0, _, _, h, _ => absurd h (Nat.not_lt_zero _)
  | _, 0, _, _, h => absurd h (Nat.not_lt_zero _)
  | n + 1, m + 1, [], _, _ => rfl
  | n + 1, m + 1, c :: r, h1, h2 => by
    simp only [List.length_cons] at h1 h2
    simp only [lxK]
    split
    · exact lxK_fuel n m r (by omega) (by omega)
    · split
      · rename_i hp
        rw [nl_step hp, Nat.add_comm 1, List.drop_succ_cons]
        exact lxK_fuel n m _ (by rw [List.length_drop]; omega) (by rw [List.length_drop]; omega)
      · split
        · rename_i hw
          rw [word_step hw, Nat.add_comm 1, List.drop_succ_cons, lxK_fuel n m _ (by rw [List.length_drop]; omega) (by rw [List.length_drop]; omega)]
        · split
          · rw [lxK_fuel n m r (by omega) (by omega)]
          · rfl
def tkK (s : List UInt8) : Option (List Kt) := lxK (s.length + 1) s
theorem tkK_nil : tkK [] = some [(3, [])] := rfl
theorem tkK_cons (c : UInt8) (r : List UInt8) : tkK (c :: r) =
    if clsI c.toNat = 4 then tkK r
    else if Lib.hasPrefix (c :: r) [47, 47] = true then tkK ((c :: r).drop (nlN (c :: r)))
    else if clsI c.toNat = 1 then (tkK ((c :: r).drop (wordN (c :: r)))).map ((1, (c :: r).take (wordN (c :: r))) :: ·)
    else if 0 ≤ Lib.indexByte signs c then (tkK r).map ((2, [c]) :: ·)
    else none := by
  unfold tkK
  rw [List.length_cons, lxK]
  split
  · rfl
  · split
    · rename_i hp
      rw [nl_step hp, Nat.add_comm 1, List.drop_succ_cons]
      exact lxK_fuel _ _ _ (by rw [List.length_drop]; omega) (by omega)
    · split
      · rename_i hw
        rw [word_step hw, Nat.add_comm 1, List.drop_succ_cons, lxK_fuel (r.length + 1) _ _ (by rw [List.length_drop]; omega) (Nat.lt_succ_self _)]
      · rfl

theorem lxA_kt : ∀ (n : Nat) (out : List Tk) (k : Nat) (s : List UInt8), s.length < n → ((lxA n out k s).1).map (·.map ktOf) = (lxK n s).map (out.map ktOf ++ ·)
  | 0, _, _, _, h => absurd h (Nat.not_lt_zero _)
  | n + 1, out, k, [], _ => by simp [lxA, lxK, ktOf]
  | n + 1, out, k, c :: r, h => by
    simp only [List.length_cons] at h
    simp only [lxA, lxK]
    split
    · exact lxA_kt n out (k + 1) r (by omega)
    · split
      · rename_i hp
        have hi := indexByte_nl (c :: r)
        have hl := nlN_le (c :: r)
        by_cases hc : nlN (c :: r) < (c :: r).length
        · rw [if_pos hc] at hi
          rw [hi, if_neg (by omega), Int.toNat_natCast, nl_step hp, Nat.add_comm 1, List.drop_succ_cons]
          exact lxA_kt n out _ _ (by rw [List.length_drop]; omega)
        · rw [if_neg hc] at hi
          rw [hi, if_pos (by omega), List.drop_eq_nil_of_le (by omega)]
          obtain ⟨m, rfl⟩ : ∃ m, n = m + 1 := ⟨n - 1, by omega⟩
          simp [lxK, ktOf]
      · split
        · rename_i hw
          rw [word_step hw, Nat.add_comm 1, List.drop_succ_cons, lxA_kt n _ _ _ (by rw [List.length_drop]; omega), Option.map_map]
          congr 1
          funext l
          simp [ktOf]
        · split
          · rw [lxA_kt n _ _ _ (by omega), Option.map_map]
            congr 1
            funext l
            simp [ktOf]
          · rfl
theorem lexT_kt {s : List UInt8} (h : s.length ≤ 65536) : ((lexT s).1).map (·.map ktOf) = tkK s := by
  unfold lexT tkK
  rw [if_pos h, lxA_kt _ _ _ _ (Nat.lt_succ_self _)]
  simp

theorem sign_iff {c : UInt8} : c ∈ signs ↔ 0 ≤ Lib.indexByte signs c := by
  constructor
  · have : ∀ x ∈ signs, 0 ≤ Lib.indexByte signs x := by decide
    exact this c
  · intro h
    by_cases hm : c ∈ signs
    · exact hm
    · exfalso
      simp only [signs, List.mem_cons, not_or, List.not_mem_nil] at hm
      obtain ⟨h1, h2, h3, h4, h5, h6, h7, h8, h9, h10, h11, -⟩ := hm
      simp [signs, Lib.indexByte, Ne.symm h1, Ne.symm h2, Ne.symm h3, Ne.symm h4, Ne.symm h5, Ne.symm h6, Ne.symm h7, Ne.symm h8, Ne.symm h9, Ne.symm h10, Ne.symm h11] at h
/-! ### A comment ahead -/
theorem nlN_app : ∀ (b r : List UInt8), 10 ∉ b → nlN (b ++ 10 :: r) = b.length
  | [], r, _ => rfl
  | c :: b, r, h => by
    simp only [List.mem_cons, not_or] at h
    rw [List.cons_append, nlN_cons, if_neg (fun e => h.1 e.symm), nlN_app b r h.2, List.length_cons]; omega
theorem tkK_comment (b s : List UInt8) (h : 10 ∉ b) : tkK (([47, 47] ++ b) ++ ([10, 9, 32] ++ s)) = tkK s := by
  have e : ([47, 47] ++ b) ++ ([10, 9, 32] ++ s) = 47 :: 47 :: (b ++ 10 :: 9 :: 32 :: s) := by simp
  rw [e, tkK_cons, if_neg (by decide), if_pos (by simp [Lib.hasPrefix, List.isPrefixOf])]
  have hn : nlN (47 :: 47 :: (b ++ 10 :: 9 :: 32 :: s)) = b.length + 2 := by
    rw [nlN_cons, if_neg (by decide), nlN_cons, if_neg (by decide), nlN_app _ _ h]; omega
  rw [hn, List.drop_succ_cons, List.drop_succ_cons, List.drop_left]
  rw [tkK_cons, if_pos (by decide), tkK_cons, if_pos (by decide), tkK_cons, if_pos (by decide)]

/-! ### Joined texts -/
def jt (l : List Kt) : List (List UInt8) := (l.filter fun x => x.1 != 3).map (·.2)
def joinK (l : List Kt) : List UInt8 := Lib.join (jt l) [32]
/-- What the lexer hands back. -/
def wordK (w : List UInt8) : Prop := ∃ c r, w = c :: r ∧ clsI c.toNat = 1 ∧ ∀ x ∈ c :: r, wc x = true
inductive TkL : List Kt → Prop
  | nil : TkL [(3, [])]
  | word (w : List UInt8) (l : List Kt) (hw : wordK w) (hl : TkL l) : TkL ((1, w) :: l)
  | sign (c : UInt8) (l : List Kt) (hc : 0 ≤ Lib.indexByte signs c) (hl : TkL l) : TkL ((2, [c]) :: l)
theorem wordN_all : ∀ (s : List UInt8), ∀ x ∈ s.take (wordN s), wc x = true
  | [], x, h => by simp [wordN] at h
  | c :: s, x, h => by
    rw [wordN_cons] at h
    split at h
    · rename_i hc
      rw [Nat.add_comm 1, List.take_succ_cons, List.mem_cons] at h
      rcases h with rfl | h
      · exact hc
      · exact wordN_all s x h
    · simp at h
theorem join_cons_le (x : List UInt8) (r : List (List UInt8)) : (Lib.join (x :: r) [32]).length ≤ x.length + 1 + (Lib.join r [32]).length := by
  cases r with
  | nil => rw [Lib.join_one]; omega
  | cons y r =>
    rw [Lib.join_length, Lib.join_length]
    simp only [Lib.lens, List.map_cons, List.sum_cons, List.length_cons, List.length_nil]
    omega
theorem tkK_TkL : ∀ (n : Nat) (s : List UInt8) (l : List Kt), s.length ≤ n → tkK s = some l → TkL l ∧ (joinK l).length ≤ 2 * s.length
  | n, [], l, _, h => by
    rw [tkK_nil] at h
    injection h with h; subst h
    exact ⟨.nil, by decide⟩
  | 0, c :: r, l, hn, _ => by simp at hn
  | n + 1, c :: r, l, hn, h => by
    simp only [List.length_cons] at hn
    rw [tkK_cons] at h
    split at h
    · obtain ⟨h1, h2⟩ := tkK_TkL n r l (by omega) h
      exact ⟨h1, by simp only [List.length_cons]; omega⟩
    · split at h
      · rename_i hp
        rw [nl_step hp, Nat.add_comm 1, List.drop_succ_cons] at h
        obtain ⟨h1, h2⟩ := tkK_TkL n _ l (by rw [List.length_drop]; omega) h
        rw [List.length_drop] at h2
        exact ⟨h1, by simp only [List.length_cons]; omega⟩
      · split at h
        · rename_i hw
          obtain ⟨l', h1, rfl⟩ := Option.map_eq_some_iff.1 h
          have hall := wordN_all (c :: r)
          have hwl := wordN_le (c :: r)
          rw [word_step hw, Nat.add_comm 1] at h1 hall hwl
          rw [List.drop_succ_cons] at h1
          obtain ⟨g1, g2⟩ := tkK_TkL n _ l' (by rw [List.length_drop]; omega) h1
          rw [List.length_drop] at g2
          rw [List.take_succ_cons] at hall
          rw [word_step hw, Nat.add_comm 1, List.take_succ_cons]
          refine ⟨.word _ _ ⟨c, _, rfl, hw, hall⟩ g1, ?_⟩
          have := join_cons_le (c :: r.take (wordN r)) (jt l')
          simp only [joinK, jt, List.filter_cons, List.length_cons, List.length_take] at *
          simp only [show ((1 : Int) != 3) = true by decide, if_true, List.map_cons]
          omega
        · split at h
          · rename_i hs
            obtain ⟨l', h1, rfl⟩ := Option.map_eq_some_iff.1 h
            obtain ⟨g1, g2⟩ := tkK_TkL n _ l' (by omega) h1
            refine ⟨.sign _ _ hs g1, ?_⟩
            have := join_cons_le [c] (jt l')
            simp only [joinK, jt, List.filter_cons, List.length_cons, List.length_nil] at *
            simp only [show ((2 : Int) != 3) = true by decide, if_true, List.map_cons]
            omega
          · cases h
theorem joinTail_cons (x : List UInt8) (r : List (List UInt8)) : Lib.joinTail [32] (x :: r) = 32 :: Lib.join (x :: r) [32] := by
  rw [Lib.join_cons]; simp [Lib.joinTail]
theorem wordN_app : ∀ (w t : List UInt8), (∀ x ∈ w, wc x = true) → (t = [] ∨ ∃ r, t = 32 :: r) → wordN (w ++ t) = w.length
  | [], t, _, h => by
    rcases h with rfl | ⟨r, rfl⟩
    · rfl
    · rw [List.nil_append, wordN_cons, if_neg (by decide)]; rfl
  | c :: w, t, hw, h => by
    rw [List.cons_append, wordN_cons, if_pos (hw c (by simp)), wordN_app w t (fun x hx => hw x (by simp [hx])) h, List.length_cons]; omega
theorem jtail_form (l : List Kt) : Lib.joinTail [32] (jt l) = [] ∨ ∃ r, Lib.joinTail [32] (jt l) = 32 :: r := by
  cases h : jt l with
  | nil => left; rfl
  | cons x r => right; exact ⟨_, joinTail_cons x r⟩
theorem sign_facts (c : UInt8) (h : 0 ≤ Lib.indexByte signs c) : ¬ clsI c.toNat = 4 ∧ c ≠ 47 ∧ ¬ clsI c.toNat = 1 := by
  have : ∀ x ∈ signs, ¬ clsI x.toNat = 4 ∧ x ≠ 47 ∧ ¬ clsI x.toNat = 1 := by decide
  exact this c (sign_iff.2 h)
theorem joinK_word (w : List UInt8) (l : List Kt) : jt ((1, w) :: l) = w :: jt l := by simp [jt]
theorem joinK_sign (c : UInt8) (l : List Kt) : jt ((2, [c]) :: l) = [c] :: jt l := by simp [jt]
theorem relex {l : List Kt} (h : TkL l) : tkK (Lib.joinTail [32] (jt l)) = some l ∧ tkK (joinK l) = some l := by
  have tail : ∀ l : List Kt, jt l ≠ [] → tkK (joinK l) = some l → tkK (Lib.joinTail [32] (jt l)) = some l := by
    intro l hne hl
    cases h : jt l with
    | nil => exact absurd h hne
    | cons x r => rw [joinTail_cons, tkK_cons, if_pos (by decide), ← h]; exact hl
  induction h with
  | nil => exact ⟨rfl, rfl⟩
  | word w l hw hl ih =>
    have key : tkK (joinK ((1, w) :: l)) = some ((1, w) :: l) := by
      obtain ⟨c, r, rfl, hc, hall⟩ := hw
      rw [joinK, joinK_word, Lib.join_cons]
      have hN := wordN_app (c :: r) _ hall (jtail_form l)
      rw [List.cons_append] at hN ⊢
      rw [tkK_cons, if_neg (by omega), if_neg (fun hp => by have := pre_ne hp; subst this; exact absurd hc (by decide)), if_pos hc, hN]
      rw [← List.cons_append, List.drop_left, List.take_left, ih.1]; rfl
    exact ⟨tail _ (by rw [joinK_word]; simp) key, key⟩
  | sign c l hc hl ih =>
    have key : tkK (joinK ((2, [c]) :: l)) = some ((2, [c]) :: l) := by
      obtain ⟨h1, h2, h3⟩ := sign_facts c hc
      rw [joinK, joinK_sign, Lib.join_cons, List.singleton_append, tkK_cons, if_neg h1, if_neg (fun hp => h2 (pre_ne hp)), if_neg h3, if_pos hc, ih.1]; rfl
    exact ⟨tail _ (by rw [joinK_sign]; simp) key, key⟩
/-- The reference's joined text. -/
def refJS (s : List UInt8) (x : Kt) : List UInt8 := if x.1 = 3 then s else (if s = [] then s else s ++ [32]) ++ x.2
def refJ (l : List Kt) : List UInt8 := l.foldl refJS []
theorem refJ_acc {l : List Kt} (h : TkL l) : ∀ s, s ≠ [] → l.foldl refJS s = s ++ Lib.joinTail [32] (jt l) := by
  induction h with
  | nil => intro s _; simp [refJS, jt, Lib.joinTail]
  | word w l hw hl ih =>
    intro s hs
    obtain ⟨c, r, rfl, -⟩ := hw
    rw [List.foldl_cons, ih _ (by simp [refJS]), joinK_word]
    simp [refJS, hs, Lib.joinTail]
  | sign c l hc hl ih =>
    intro s hs
    rw [List.foldl_cons, ih _ (by simp [refJS]), joinK_sign]
    simp [refJS, hs, Lib.joinTail]
theorem refJ_eq {l : List Kt} (h : TkL l) : refJ l = joinK l := by
  cases h with
  | nil => rfl
  | word w l hw hl =>
    obtain ⟨c, r, rfl, -⟩ := hw
    rw [refJ, List.foldl_cons, refJ_acc hl _ (by simp [refJS]), joinK, joinK_word, Lib.join_cons]
    simp [refJS]
  | sign c l hc hl =>
    rw [refJ, List.foldl_cons, refJ_acc hl _ (by simp [refJS]), joinK, joinK_sign, Lib.join_cons]
    simp [refJS]
theorem refJS_len (s : List UInt8) (x : Kt) : (refJS s x).length ≤ s.length + 1 + x.2.length := by
  unfold refJS
  split
  · omega
  · split <;> simp <;> omega
theorem refJ_take {l : List Kt} {k : Nat} (h : k < l.length) : refJ (l.take (k + 1)) = refJS (refJ (l.take k)) l[k] := by
  unfold refJ
  rw [List.take_succ_eq_append_getElem h, List.foldl_append]; rfl
def szK (l : List Kt) : Nat := (l.map fun x => x.2.length + 1).sum
theorem refJ_len : ∀ (l : List Kt) (s : List UInt8), (l.foldl refJS s).length ≤ s.length + szK l
  | [], s => by simp [szK]
  | x :: l, s => by
    rw [List.foldl_cons]
    have h1 := refJ_len l (refJS s x)
    have h2 := refJS_len s x
    simp only [szK, List.map_cons, List.sum_cons] at h1 ⊢
    omega
theorem szK_take (l : List Kt) (k : Nat) : szK (l.take k) ≤ szK l := by
  conv => rhs; rw [← List.take_append_drop k l]
  simp only [szK, List.map_append, List.sum_append]; omega
theorem szK_mem {l : List Kt} {x : Kt} (h : x ∈ l) : x.2.length + 1 ≤ szK l := by
  induction l with
  | nil => cases h
  | cons y l ih =>
    simp only [szK, List.map_cons, List.sum_cons]
    rcases List.mem_cons.1 h with rfl | h
    · omega
    · have := ih h
      unfold szK at this
      omega
theorem szK_len (l : List Kt) : l.length ≤ szK l := by
  induction l with
  | nil => simp [szK]
  | cons y l ih => simp only [szK, List.map_cons, List.sum_cons, List.length_cons] at *; omega

/-! ### What a text's tokens weigh -/
theorem tkK_sz : ∀ (n : Nat) (s : List UInt8) (l : List Kt), s.length ≤ n → tkK s = some l → szK l ≤ 2 * s.length + 1
  | n, [], l, _, h => by
    rw [tkK_nil] at h
    injection h with h; subst h
    decide
  | 0, c :: r, l, hn, _ => by simp at hn
  | n + 1, c :: r, l, hn, h => by
    simp only [List.length_cons] at hn
    rw [tkK_cons] at h
    split at h
    · have := tkK_sz n r l (by omega) h
      simp only [List.length_cons]; omega
    · split at h
      · rename_i hp
        rw [nl_step hp, Nat.add_comm 1, List.drop_succ_cons] at h
        have := tkK_sz n _ l (by rw [List.length_drop]; omega) h
        rw [List.length_drop] at this
        simp only [List.length_cons]; omega
      · split at h
        · rename_i hw
          obtain ⟨l', h1, rfl⟩ := Option.map_eq_some_iff.1 h
          have hwl := wordN_le (c :: r)
          rw [word_step hw, Nat.add_comm 1] at h1 hwl
          rw [List.drop_succ_cons] at h1
          have g2 := tkK_sz n _ l' (by rw [List.length_drop]; omega) h1
          rw [List.length_drop] at g2
          rw [word_step hw, Nat.add_comm 1, List.take_succ_cons]
          simp only [szK, List.map_cons, List.sum_cons, List.length_cons, List.length_take] at *
          omega
        · split at h
          · obtain ⟨l', h1, rfl⟩ := Option.map_eq_some_iff.1 h
            have g2 := tkK_sz n _ l' (by omega) h1
            simp only [szK, List.map_cons, List.sum_cons, List.length_cons, List.length_nil] at *
            omega
          · cases h

/-! ### Lines -/
def lastI : List UInt8 → Int
  | [] => -1
  | c :: s => if 0 ≤ lastI s then lastI s + 1 else if c = 10 then 0 else -1
theorem lastI_ge : ∀ s, -1 ≤ lastI s
  | [] => by decide
  | c :: s => by
    have := lastI_ge s
    unfold lastI
    split
    · omega
    · split <;> omega
theorem lastI_app (s : List UInt8) (c : UInt8) : lastI (s ++ [c]) = if c = 10 then (s.length : Int) else lastI s := by
  induction s with
  | nil => by_cases h : c = 10 <;> simp [lastI, h]
  | cons d s ih =>
    have hg := lastI_ge s
    rw [List.cons_append, lastI, ih]
    by_cases h : c = 10
    · rw [if_pos h, if_pos h, if_pos (by omega), List.length_cons]; omega
    · rw [if_neg h, if_neg h]; rfl
theorem lnR_law (s : List UInt8) : ((lnR s).1 : Int) = s.count 10 + 1 ∧ ((lnR s).2 : Int) = s.length - lastI s := by
  rw [← List.reverse_reverse s]
  generalize s.reverse = r
  induction r with
  | nil => exact ⟨rfl, rfl⟩
  | cons c r ih =>
    rw [List.reverse_cons]
    have e : lnR (r.reverse ++ [c]) = lnS (lnR r.reverse) c := by unfold lnR; rw [List.foldl_append]; rfl
    rw [e, lastI_app, List.count_append, List.length_append]
    obtain ⟨h1, h2⟩ := ih
    have hg := lastI_ge r.reverse
    by_cases h : c = 10
    · subst h
      simp only [lnS, if_true, List.length_singleton]
      refine ⟨?_, ?_⟩
      · rw [show List.count (10 : UInt8) [10] = 1 by decide]; omega
      · omega
    · simp only [lnS, if_neg h, List.length_singleton]
      have h0 : List.count (10 : UInt8) [c] = 0 := List.count_eq_zero.2 (by simpa using fun e => h e.symm)
      rw [h0]
      exact ⟨by omega, by omega⟩

theorem jt_take {a : List Tk} {k : Nat} (h : k < a.length) : jt ((a.take (k + 1)).map ktOf) = jt ((a.take k).map ktOf) ++ (if a[k].1 = 3 then [] else [a[k].2.1]) := by
  rw [List.take_succ_eq_append_getElem h, List.map_append]
  simp only [jt, List.filter_append, List.map_append, List.map_cons, List.map_nil, ktOf]
  by_cases h3 : a[k].1 = 3
  · simp [h3]
  · simp [h3]
theorem jt_len (l : List Kt) : (jt l).length ≤ l.length := by
  simp only [jt, List.length_map]; exact List.length_filter_le _ _
theorem joinK_sz (l : List Kt) : (joinK l).length ≤ szK l := by
  induction l with
  | nil => simp [joinK, jt, szK, Lib.join_nil]
  | cons x l ih =>
    simp only [joinK, jt, szK, List.map_cons, List.sum_cons, List.filter_cons] at ih ⊢
    split
    · have := join_cons_le x.2 (((l.filter fun x => x.1 != 3).map (·.2)))
      simp only [List.map_cons]; omega
    · omega
theorem szK_kt_take (a : List Tk) (k : Nat) : szK ((a.take k).map ktOf) ≤ szK (a.map ktOf) := by rw [List.map_take]; exact szK_take _ _
theorem szK_kt_get {a : List Tk} {k : Nat} (h : k < a.length) : a[k].2.1.length + 1 ≤ szK (a.map ktOf) := szK_mem (x := ktOf a[k]) (List.mem_map_of_mem (by simp))
theorem refJ_kt {a : List Tk} {k : Nat} (h : k < a.length) : refJ ((a.take (k + 1)).map ktOf) = refJS (refJ ((a.take k).map ktOf)) (ktOf a[k]) := by
  have h2 : k < (a.map ktOf).length := by simpa using h
  have := refJ_take h2
  simpa [List.map_take] using this
theorem refJ_sz (l : List Kt) : (refJ l).length ≤ szK l := by have := refJ_len l []; simpa [refJ] using this

theorem jt_take2 {a : List Tk} {k : Nat} (h : k < a.length) : jt ((a.map ktOf).take (k + 1)) = jt ((a.map ktOf).take k) ++ (if a[k].1 = 3 then [] else [a[k].2.1]) := by
  have := jt_take h
  rwa [List.map_take, List.map_take] at this
theorem refJ_kt2 {a : List Tk} {k : Nat} (h : k < a.length) : refJ ((a.map ktOf).take (k + 1)) = refJS (refJ ((a.map ktOf).take k)) (ktOf a[k]) := by
  have := refJ_kt h
  rwa [List.map_take, List.map_take] at this
theorem take_kt {a : List Tk} {k : Nat} (h : a.length ≤ k) : (a.map ktOf).take k = a.map ktOf := List.take_of_length_le (by rw [List.length_map]; exact h)
theorem take_all_encK {a : List Tk} {k : Nat} (h : a.length ≤ k) : (a.take k).map encK = a.map encK := by rw [List.take_of_length_le h]
theorem take_all_encK2 {a : List Tk} {k : Nat} (h : a.length ≤ k) : (a.map encK).take k = a.map encK := List.take_of_length_le (by rw [List.length_map]; exact h)
/-- Where an offset lies in a text. -/
def clampN (i : Int) (n : Nat) : Nat := min i.toNat n
theorem clampN_if (i : Int) (n : Nat) : (if (n : Int) < (if i < 0 then 0 else i) then (n : Int) else (if i < 0 then 0 else i)) = (clampN i n : Int) := by
  unfold clampN
  split <;> split <;> omega
theorem clampN_le (i : Int) (n : Nat) : clampN i n ≤ n := Nat.min_le_right _ _
theorem lastI_lib (s : List UInt8) : Lib.lastIndexByte ⟨s.toArray⟩ 10 = lastI s := by
  have key : ∀ s : List UInt8, (lastI s = -1 ∧ ∀ (j : Nat) (h : j < s.length), s[j] ≠ 10) ∨ ∃ i, ∃ h : i < s.length, lastI s = i ∧ s[i] = 10 ∧ ∀ (j : Nat) (h : j < s.length), i < j → s[j] ≠ 10 := by
    intro s
    induction s with
    | nil => left; exact ⟨rfl, fun j h => by cases h⟩
    | cons c s ih =>
      rcases ih with ⟨h1, h2⟩ | ⟨i, hi, h1, h2, h3⟩
      · by_cases hc : c = 10
        · right
          refine ⟨0, by simp, by simp [lastI, h1, hc], hc, fun j h hj => ?_⟩
          obtain ⟨j, rfl⟩ : ∃ m, j = m + 1 := ⟨j - 1, by omega⟩
          simpa using h2 j (by simpa using h)
        · left
          refine ⟨by simp [lastI, h1, hc], fun j h => ?_⟩
          cases j with
          | zero => exact hc
          | succ j => simpa using h2 j (by simpa using h)
      · right
        refine ⟨i + 1, by simpa using hi, by simp [lastI, h1], by simpa using h2, fun j h hj => ?_⟩
        obtain ⟨j, rfl⟩ : ∃ m, j = m + 1 := ⟨j - 1, by omega⟩
        simpa using h3 j (by simpa using h) (by omega)
  have hget : ∀ (j : Nat) (h : j < s.length), ((⟨s.toArray⟩ : ByteArray).data[j]!) = s[j] := fun j h => by simp [h]
  have hsz : (⟨s.toArray⟩ : ByteArray).size = s.length := by simp [ByteArray.size]
  rcases Lib.lastIndexByte_spec ⟨s.toArray⟩ 10 with ⟨g1, g2⟩ | ⟨i, gi, g1, g2, g3⟩ <;> rcases key s with ⟨h1, h2⟩ | ⟨k, hk, h1, h2, h3⟩
  · rw [g1, h1]
  · exfalso
    have := g2 k (by omega)
    rw [hget k hk, h2] at this
    exact this rfl
  · exfalso
    rw [hsz] at gi
    rw [hget i gi] at g2
    exact h2 i gi (UInt8.toNat_inj.1 (by have : (10 : UInt8).toNat = 10 := rfl; omega))
  · rw [hsz] at gi
    rw [g1, h1]
    rw [hget i gi] at g2
    have e : s[i] = 10 := UInt8.toNat_inj.1 (by have : (10 : UInt8).toNat = 10 := rfl; omega)
    rcases Nat.lt_trichotomy i k with h | h | h
    · exfalso
      have := g3 k h (by omega)
      rw [hget k hk, h2] at this
      exact this rfl
    · rw [h]
    · exact absurd e (h3 i gi h)

/-! ### The laws -/
theorem lexT_some {s : List UInt8} {l : List Tk} {n : Nat} (hs : s.length ≤ 65536) (h : lexT s = (some l, n)) : tkK s = some (l.map ktOf) ∧ TkL (l.map ktOf) ∧ szK (l.map ktOf) ≤ 2 * s.length + 1 ∧ (joinK (l.map ktOf)).length ≤ 2 * s.length ∧ l.length ≤ 2 * s.length + 1 := by
  have h1 := lexT_kt hs
  rw [h] at h1
  have h2 : tkK s = some (l.map ktOf) := h1.symm
  have h3 := tkK_TkL s.length s _ (Nat.le_refl _) h2
  have h4 := tkK_sz s.length s _ (Nat.le_refl _) h2
  have h5 := szK_len (l.map ktOf)
  rw [List.length_map] at h5
  exact ⟨h2, h3.1, h4, h3.2, by omega⟩
theorem lexT_of {s : List UInt8} {l : List Kt} (hs : s.length ≤ 65536) (h : tkK s = some l) : ∃ m n, lexT s = (some m, n) ∧ m.map ktOf = l := by
  have h1 := lexT_kt hs
  rw [h] at h1
  rcases hx : lexT s with ⟨_ | m, n⟩
  · rw [hx] at h1; cases h1
  · rw [hx] at h1
    exact ⟨m, n, rfl, by simpa using h1⟩
theorem relexT {s : List UInt8} {l : List Tk} {n : Nat} (hs : s.length ≤ 3000) (h : lexT s = (some l, n)) : ∃ m k, lexT (joinK (l.map ktOf)) = (some m, k) ∧ alk l m = true ∧ alk m l = true ∧ refJ (l.map ktOf) = joinK (l.map ktOf) ∧ m.length ≤ 20000 := by
  obtain ⟨h1, h2, h3, h4, h5⟩ := lexT_some (by omega) h
  obtain ⟨m, k, h6, h7⟩ := lexT_of (by omega) (relex h2).2
  have h8 := lexT_some (by omega) h6
  exact ⟨m, k, h6, (alk_iff _ _).2 h7.symm, (alk_iff _ _).2 h7, refJ_eq h2, by omega⟩
theorem commentT {s c : List UInt8} {l : List Tk} {n : Nat} (hs : s.length ≤ 1000) (hc : c.length ≤ 1000) (hn : 10 ∉ c) (h : lexT s = (some l, n)) : ∃ m k, lexT (47 :: 47 :: (c ++ 10 :: 9 :: 32 :: s)) = (some m, k) ∧ alk m l = true ∧ m.length ≤ 20000 ∧ l.length ≤ 20000 := by
  obtain ⟨h1, h2, h3, h4, h5⟩ := lexT_some (by omega) h
  have h6 := tkK_comment c s hn
  rw [h1] at h6
  have e : ([47, 47] ++ c) ++ ([10, 9, 32] ++ s) = 47 :: 47 :: (c ++ 10 :: 9 :: 32 :: s) := by simp
  rw [e] at h6
  have hl : (47 :: 47 :: (c ++ 10 :: 9 :: 32 :: s)).length ≤ 5000 := by simp only [List.length_cons, List.length_append]; omega
  obtain ⟨m, k, h7, h8⟩ := lexT_of (by omega) h6
  have h9 := lexT_some (by omega) h7
  exact ⟨m, k, h7, (alk_iff _ _).2 h8, by omega, by omega⟩
def encB (x : UInt8) : List AV := [.int .u8 x.toNat]
theorem encB_cells (x : UInt8) : (encB x).length = 1 ∧ (encB x).all AV.one = true := ⟨rfl, rfl⟩
theorem rowNums_encB : ∀ l : List UInt8, rowNums (l.map encB) = some (l.map fun x => (x.toNat : Int))
  | [] => rfl
  | x :: l => by simp [rowNums, encB, rowNums_encB l]
theorem ofNum_encB (l : List UInt8) : (l.map fun x => (x.toNat : Int)).map (fun n => UInt8.ofNat n.toNat) = l := by simp [Function.comp_def]
theorem ofNum_encB2 (l : List UInt8) : l.map ((fun n : Int => UInt8.ofNat n.toNat) ∘ fun x : UInt8 => (x.toNat : Int)) = l := by simp [Function.comp_def]
def noNl (c : List UInt8) : List UInt8 := c.filter (· != 10)
theorem noNl_not (c : List UInt8) : 10 ∉ noNl c := by simp [noNl]
theorem noNl_le (c : List UInt8) : (noNl c).length ≤ c.length := List.length_filter_le _ _
theorem noNl_take {c : List UInt8} {k : Nat} (h : k < c.length) : noNl (c.take (k + 1)) = noNl (c.take k) ++ (if c[k] = 10 then [] else [c[k]]) := by
  rw [List.take_succ_eq_append_getElem h]
  simp only [noNl, List.filter_append]
  by_cases h1 : c[k] = 10
  · simp [h1]
  · simp [h1]
end Go.Pv
end

section
/- Short words for the walks. -/
namespace Go.Pv
open Go

theorem sg {a b : Prop} (h : b) (ha : a := by first | omega | (simp at *; omega)) : a ∧ b := ⟨ha, h⟩
theorem sgD {a b : Prop} (h : b) (ha : a := by first | omega | assumption | trivial | (simp at *; omega)) : a ∧ b := ⟨ha, h⟩
theorem sgX {a b : Prop} (h : b) (ha : a := by first | omega | assumption | exact Rows_map _ _ encK_cells _ | (simp at *; omega)) : a ∧ b := ⟨ha, h⟩
theorem sgK {a b : Prop} (h : b) (ha : a := by first | omega | assumption | exact Rows_map _ _ encK_cells _ | exact ⟨by omega, Rows_map _ _ encK_cells _⟩ | (simp at *; omega)) : a ∧ b := ⟨ha, h⟩
theorem sgM {a b : Prop} (h : b) (ha : a := by first | omega | (simp only [List.length_take, List.length_map]; omega) | (simp at *; omega)) : a ∧ b := ⟨ha, h⟩
theorem sgL {a b : Prop} (h : b) (ha : a := by first | omega | (simp only [List.length_take, List.length_map, List.length_append, List.length_cons, List.length_nil]; omega) | (simp at *; omega)) : a ∧ b := ⟨ha, h⟩

theorem nrm {n : AS → Prop} {Q : Exit → AS → Prop} {s : AS} :
    (thenA n Q .normal s = n s ∧ (∀ i, thenA n Q (.exit i) s = Q (.exit i) s) ∧ (∀ i, thenA n Q (.goto i) s = Q (.goto i) s) ∧ thenA n Q .ret s = Q .ret s ∧ (∀ i, thenA n Q (.panic i) s = Q (.panic i) s) ∧ thenA n Q .outgrown s = Q .outgrown s) ∧
    (∀ i, inBlockA i Q .normal s = Q .normal s) ∧ (∀ i j, inBlockA i Q (.exit j) s = if j = i then Q .normal s else Q (.exit j) s) ∧ (∀ i, inBlockA i Q .ret s = Q .ret s) ∧
    noGotoA Q .normal s = Q .normal s ∧ noGotoA Q .ret s = Q .ret s ∧ (∀ i, noGotoA Q (.exit i) s = Q (.exit i) s) := by
  refine ⟨⟨rfl, fun _ => rfl, fun _ => rfl, rfl, fun _ => rfl, rfl⟩, fun _ => rfl, fun i j => ?_, fun _ => rfl, rfl, rfl, fun _ => rfl⟩
  rfl
@[simp] theorem row_fst (x : List AV) (l : List (List AV)) : row (x :: l) 0 = x := rfl
end Go.Pv
end

section
/- Reading types and expressions: what a cursor does (read), and what the reference does with a place (castingsref07). -/
namespace Go.Pv
open Go

/-! ### The cursor -/
structure Cur where
  l : List Tk
  err : Option Int

def tk0 : Tk := (3, [], 0)
def Cur.first (c : Cur) : Tk := if c.err.isSome then tk0 else c.l.headD tk0
def Cur.fail (c : Cur) : Cur := if c.err.isSome then c else { c with err := some c.first.2.2 }
def Cur.next (c : Cur) (s : Str) : Bool := c.first.1 != 3 && c.first.2.1 == s
def Cur.adv (c : Cur) : Cur := { c with l := c.l.tail }
def Cur.take (c : Cur) (s : Str) : Cur := if c.next s then c.adv else c
def Cur.must (c : Cur) (s : Str) : Cur := if c.next s then c.adv else c.fail
def Cur.named (c : Cur) : Bool := c.first.1 == 1 && isName c.first.2.1
def Cur.name (c : Cur) : Cur := if c.named then c.adv else c.fail
def Cur.nm (c : Cur) : Str := if c.named then c.first.2.1 else []
def Cur.at_ (c : Cur) : Int := if c.named then c.first.2.2 else 0

/-- The further items of a list. -/
def loopC {α : Type} (rd : Cur → α × Cur) : Nat → Cur → List α × Cur
  | 0, c => ([], c)
  | m + 1, c => if c.next [44] then ((rd c.adv).1 :: (loopC rd m (rd c.adv).2).1, (loopC rd m (rd c.adv).2).2) else ([], c)
def listC {α : Type} (rd : Cur → α × Cur) (c : Cur) : List α × Cur :=
  ((rd c).1 :: (loopC rd (rd c).2.l.length (rd c).2).1, (loopC rd (rd c).2.l.length (rd c).2).2)
def targsC (rd : Cur → Ty × Cur) (c : Cur) : List Ty × Cur :=
  if c.next [91] then ((listC rd c.adv).1, (listC rd c.adv).2.must [93]) else ([], c)
def typeC : Nat → Cur → Ty × Cur
  | 0, c => (ty0, c)
  | n + 1, c => (.mk c.nm (targsC (typeC n) c.name).1 c.at_, (targsC (typeC n) c.name).2)
def argsC (rd : Cur → Exp × Cur) (e : Str) (c : Cur) : List Exp × Cur :=
  if c.next e then ([], c.must e) else ((listC rd c).1, (listC rd c).2.must e)
def restC (ty : Cur → Ty × Cur) (ex : Cur → Exp × Cur) (e : Exp) (c : Cur) : Exp × Cur :=
  if c.next [40] then (.mk 5 [] (ty c.adv).1 [] [e] c.first.2.2, (ty c.adv).2.must [41])
  else if !c.name.next [91] && !c.name.next [40] then (.mk 4 c.nm ty0 [] [e] c.at_, c.name)
  else (.mk 2 c.nm ty0 (targsC ty c.name).1 (e :: (argsC ex [41] ((targsC ty c.name).2.must [40])).1) c.at_, (argsC ex [41] ((targsC ty c.name).2.must [40])).2)
def dotsC (rs : Exp → Cur → Exp × Cur) : Nat → Exp → Cur → Exp × Cur
  | 0, e, c => (e, c)
  | m + 1, e, c => if c.next [46] then dotsC rs m (rs e c.adv).1 (rs e c.adv).2 else (e, c)
def baseC (ty : Cur → Ty × Cur) (ex : Cur → Exp × Cur) (c : Cur) : Exp × Cur :=
  if c.name.next [91] || c.name.next [123] then
    (.mk 3 [] (.mk c.nm (targsC ty c.name).1 c.at_) [] (argsC ex [125] ((targsC ty c.name).2.must [123])).1 c.at_, (argsC ex [125] ((targsC ty c.name).2.must [123])).2)
  else (.mk 1 c.nm ty0 [] [] c.at_, c.name)
def exprC : Nat → Cur → Exp × Cur
  | 0, c => (ex0, c)
  | n + 1, c => dotsC (restC (typeC n) (exprC n)) (baseC (typeC n) (exprC n) c).2.l.length (baseC (typeC n) (exprC n) c).1 (baseC (typeC n) (exprC n) c).2
def endC (c : Cur) : Cur := if c.first.1 != 3 then c.fail else c

/-- A cursor's cells. -/
def errA (ft : Nat) : Option Int → AV
  | none => .nilIface
  | some a => .iface ft (.agg [.int .i64 2, .int .i64 a])
def encC (ft : Nat) (c : Cur) : List AV := [.slice (c.l.map encK), errA ft c.err]

theorem Cur.err_first {c : Cur} (h : c.err.isSome = true) : c.first = tk0 := by simp [Cur.first, h]
theorem Cur.err_next {c : Cur} (h : c.err.isSome = true) (s : Str) : c.next s = false := by rw [Cur.next, c.err_first h]; rfl
theorem Cur.next_cons {c : Cur} {s : Str} (h : c.next s = true) : c.err = none ∧ ∃ t r, c.l = t :: r ∧ t.1 ≠ 3 ∧ t.2.1 = s := by
  cases he : c.err with
  | some a => rw [c.err_next (by rw [he]; rfl)] at h; cases h
  | none =>
    refine ⟨rfl, ?_⟩
    cases hl : c.l with
    | nil => simp [Cur.next, Cur.first, he, hl, tk0] at h
    | cons t r => simp [Cur.next, Cur.first, he, hl] at h; exact ⟨t, r, rfl, h.1, h.2⟩
theorem Cur.named_cons {c : Cur} (h : c.named = true) : c.err = none ∧ ∃ t r, c.l = t :: r ∧ t.1 = 1 ∧ isName t.2.1 = true := by
  cases he : c.err with
  | some a => simp [Cur.named, c.err_first (show c.err.isSome = true by rw [he]; rfl), tk0] at h
  | none =>
    refine ⟨rfl, ?_⟩
    cases hl : c.l with
    | nil => simp [Cur.named, Cur.first, he, hl, tk0] at h
    | cons t r => simp [Cur.named, Cur.first, he, hl] at h; exact ⟨t, r, rfl, h.1, h.2⟩
theorem Cur.adv_len {c : Cur} {s : Str} (h : c.next s = true) : c.adv.l.length + 1 = c.l.length := by
  obtain ⟨-, t, r, hl, -, -⟩ := Cur.next_cons h
  simp [Cur.adv, hl]
theorem Cur.fail_l (c : Cur) : c.fail.l = c.l := by unfold Cur.fail; split <;> rfl
theorem Cur.must_len (c : Cur) (s : Str) : (c.must s).l.length ≤ c.l.length := by
  unfold Cur.must
  split
  · rename_i h; have := Cur.adv_len h; omega
  · rw [Cur.fail_l]; exact Nat.le_refl _
theorem Cur.name_len (c : Cur) : c.name.l.length ≤ c.l.length := by
  unfold Cur.name
  split
  · rename_i h
    obtain ⟨-, t, r, hl, -, -⟩ := Cur.named_cons h
    simp [Cur.adv, hl]
  · rw [Cur.fail_l]; exact Nat.le_refl _
theorem Cur.name_next {c : Cur} {s : Str} (h : c.name.next s = true) : c.named = true ∧ c.name.l.length + 1 = c.l.length := by
  cases hn : c.named with
  | false =>
    exfalso
    have he : c.name.err.isSome = true := by
      simp only [Cur.name, hn, Bool.false_eq_true, if_false, Cur.fail]
      split
      · assumption
      · rfl
    rw [Cur.err_next he] at h; cases h
  | true =>
    obtain ⟨-, t, r, hl, -, -⟩ := Cur.named_cons hn
    exact ⟨rfl, by simp [Cur.name, hn, Cur.adv, hl]⟩

section
variable {α : Type} {rd : Cur → α × Cur}
theorem loopC_len (h : ∀ c, (rd c).2.l.length ≤ c.l.length) : ∀ (m : Nat) (c : Cur), (loopC rd m c).2.l.length ≤ c.l.length
  | 0, c => Nat.le_refl _
  | m + 1, c => by
    rw [loopC]
    split
    · rename_i hn
      have h1 := h c.adv
      have h2 := loopC_len h m (rd c.adv).2
      have h3 := Cur.adv_len hn
      show (loopC rd m (rd c.adv).2).2.l.length ≤ _
      omega
    · exact Nat.le_refl _
theorem listC_len (h : ∀ c, (rd c).2.l.length ≤ c.l.length) (c : Cur) : (listC rd c).2.l.length ≤ c.l.length := Nat.le_trans (loopC_len h _ _) (h c)
/-- As many items as there are tokens. -/
theorem loopC_count (h : ∀ c, (rd c).2.l.length ≤ c.l.length) : ∀ (m : Nat) (c : Cur), (loopC rd m c).1.length + (loopC rd m c).2.l.length ≤ c.l.length
  | 0, c => by simp [loopC]
  | m + 1, c => by
    rw [loopC]
    split
    · rename_i hn
      have h1 := h c.adv
      have h2 := loopC_count h m (rd c.adv).2
      have h3 := Cur.adv_len hn
      simp only [List.length_cons]
      omega
    · simp
theorem targsC_len {rd : Cur → Ty × Cur} (h : ∀ c, (rd c).2.l.length ≤ c.l.length) (c : Cur) : (targsC rd c).2.l.length ≤ c.l.length := by
  unfold targsC
  split
  · rename_i hn
    have h1 := listC_len h c.adv
    have h2 := (listC rd c.adv).2.must_len [93]
    have h3 := Cur.adv_len hn
    show ((listC rd c.adv).2.must [93]).l.length ≤ _
    omega
  · exact Nat.le_refl _
theorem typeC_len : ∀ (n : Nat) (c : Cur), (typeC n c).2.l.length ≤ c.l.length
  | 0, c => Nat.le_refl _
  | n + 1, c => Nat.le_trans (targsC_len (typeC_len n) _) c.name_len
theorem argsC_len {rd : Cur → Exp × Cur} (h : ∀ c, (rd c).2.l.length ≤ c.l.length) (s : Str) (c : Cur) : (argsC rd s c).2.l.length ≤ c.l.length := by
  unfold argsC
  split
  · exact c.must_len s
  · exact Nat.le_trans ((listC rd c).2.must_len s) (listC_len h c)
theorem restC_len {ty : Cur → Ty × Cur} {ex : Cur → Exp × Cur} (h1 : ∀ c, (ty c).2.l.length ≤ c.l.length) (h2 : ∀ c, (ex c).2.l.length ≤ c.l.length) (e : Exp) (c : Cur) : (restC ty ex e c).2.l.length ≤ c.l.length := by
  unfold restC
  split
  · rename_i hn
    have h3 := Cur.adv_len hn
    have h4 := h1 c.adv
    have h5 := (ty c.adv).2.must_len [41]
    show ((ty c.adv).2.must [41]).l.length ≤ _
    omega
  · split
    · exact c.name_len
    · have h3 := c.name_len
      have h4 := targsC_len h1 c.name
      have h5 := (targsC ty c.name).2.must_len [40]
      have h6 := argsC_len h2 [41] ((targsC ty c.name).2.must [40])
      show (argsC ex [41] ((targsC ty c.name).2.must [40])).2.l.length ≤ _
      omega
theorem dotsC_len {rs : Exp → Cur → Exp × Cur} (h : ∀ e c, (rs e c).2.l.length ≤ c.l.length) : ∀ (m : Nat) (e : Exp) (c : Cur), (dotsC rs m e c).2.l.length ≤ c.l.length
  | 0, _, _ => Nat.le_refl _
  | m + 1, e, c => by
    rw [dotsC]
    split
    · rename_i hn
      have h1 := h e c.adv
      have h2 := dotsC_len h m (rs e c.adv).1 (rs e c.adv).2
      have h3 := Cur.adv_len hn
      omega
    · exact Nat.le_refl _
theorem baseC_len {ty : Cur → Ty × Cur} {ex : Cur → Exp × Cur} (h1 : ∀ c, (ty c).2.l.length ≤ c.l.length) (h2 : ∀ c, (ex c).2.l.length ≤ c.l.length) (c : Cur) : (baseC ty ex c).2.l.length ≤ c.l.length := by
  unfold baseC
  split
  · have h3 := c.name_len
    have h4 := targsC_len h1 c.name
    have h5 := (targsC ty c.name).2.must_len [123]
    have h6 := argsC_len h2 [125] ((targsC ty c.name).2.must [123])
    show (argsC ex [125] ((targsC ty c.name).2.must [123])).2.l.length ≤ _
    omega
  · exact c.name_len
theorem exprC_len : ∀ (n : Nat) (c : Cur), (exprC n c).2.l.length ≤ c.l.length
  | 0, c => Nat.le_refl _
  | n + 1, c => Nat.le_trans (dotsC_len (restC_len (typeC_len n) (exprC_len n)) _ _ _) (baseC_len (typeC_len n) (exprC_len n) c)
end

/-! ### What is left is the end of what was there -/
theorem Cur.adv_suf (c : Cur) : c.adv.l <:+ c.l := List.tail_suffix _
theorem Cur.fail_suf (c : Cur) : c.fail.l <:+ c.l := by rw [Cur.fail_l]; exact List.suffix_refl _
theorem Cur.take_suf (c : Cur) (s : Str) : (c.take s).l <:+ c.l := by unfold Cur.take; split; exact c.adv_suf; exact List.suffix_refl _
theorem Cur.must_suf (c : Cur) (s : Str) : (c.must s).l <:+ c.l := by unfold Cur.must; split; exact c.adv_suf; exact c.fail_suf
theorem Cur.name_suf (c : Cur) : c.name.l <:+ c.l := by unfold Cur.name; split; exact c.adv_suf; exact c.fail_suf
section
variable {α : Type} {rd : Cur → α × Cur}
theorem loopC_suf (h : ∀ c, (rd c).2.l <:+ c.l) : ∀ (m : Nat) (c : Cur), (loopC rd m c).2.l <:+ c.l
  | 0, c => List.suffix_refl _
  | m + 1, c => by
    rw [loopC]
    split
    · exact (loopC_suf h m (rd c.adv).2).trans ((h _).trans c.adv_suf)
    · exact List.suffix_refl _
theorem listC_suf (h : ∀ c, (rd c).2.l <:+ c.l) (c : Cur) : (listC rd c).2.l <:+ c.l := (loopC_suf h _ _).trans (h c)
theorem targsC_suf {rd : Cur → Ty × Cur} (h : ∀ c, (rd c).2.l <:+ c.l) (c : Cur) : (targsC rd c).2.l <:+ c.l := by
  unfold targsC
  split
  · exact (Cur.must_suf _ _).trans ((listC_suf h _).trans c.adv_suf)
  · exact List.suffix_refl _
theorem typeC_suf : ∀ (n : Nat) (c : Cur), (typeC n c).2.l <:+ c.l
  | 0, c => List.suffix_refl _
  | n + 1, c => (targsC_suf (typeC_suf n) _).trans c.name_suf
theorem argsC_suf {rd : Cur → Exp × Cur} (h : ∀ c, (rd c).2.l <:+ c.l) (s : Str) (c : Cur) : (argsC rd s c).2.l <:+ c.l := by
  unfold argsC
  split
  · exact c.must_suf s
  · exact (Cur.must_suf _ _).trans (listC_suf h c)
theorem restC_suf {ty : Cur → Ty × Cur} {ex : Cur → Exp × Cur} (h1 : ∀ c, (ty c).2.l <:+ c.l) (h2 : ∀ c, (ex c).2.l <:+ c.l) (e : Exp) (c : Cur) : (restC ty ex e c).2.l <:+ c.l := by
  unfold restC
  split
  · exact (Cur.must_suf _ _).trans ((h1 _).trans c.adv_suf)
  · split
    · exact c.name_suf
    · exact (argsC_suf h2 _ _).trans ((Cur.must_suf _ _).trans ((targsC_suf h1 _).trans c.name_suf))
theorem dotsC_suf {rs : Exp → Cur → Exp × Cur} (h : ∀ e c, (rs e c).2.l <:+ c.l) : ∀ (m : Nat) (e : Exp) (c : Cur), (dotsC rs m e c).2.l <:+ c.l
  | 0, _, _ => List.suffix_refl _
  | m + 1, e, c => by
    rw [dotsC]
    split
    · exact (dotsC_suf h m _ _).trans ((h _ _).trans c.adv_suf)
    · exact List.suffix_refl _
theorem baseC_suf {ty : Cur → Ty × Cur} {ex : Cur → Exp × Cur} (h1 : ∀ c, (ty c).2.l <:+ c.l) (h2 : ∀ c, (ex c).2.l <:+ c.l) (c : Cur) : (baseC ty ex c).2.l <:+ c.l := by
  unfold baseC
  split
  · exact (argsC_suf h2 _ _).trans ((Cur.must_suf _ _).trans ((targsC_suf h1 _).trans c.name_suf))
  · exact c.name_suf
theorem exprC_suf : ∀ (n : Nat) (c : Cur), (exprC n c).2.l <:+ c.l
  | 0, c => List.suffix_refl _
  | n + 1, c => (dotsC_suf (restC_suf (typeC_suf n) (exprC_suf n)) _ _ _).trans (baseC_suf (typeC_suf n) (exprC_suf n) c)
end

theorem listC_count {α : Type} {rd : Cur → α × Cur} (h : ∀ c, (rd c).2.l <:+ c.l) (c : Cur) : (listC rd c).1.length ≤ c.l.length + 1 := by
  have h1 := loopC_count (fun c => (h c).length_le) (rd c).2.l.length (rd c).2
  have h2 := (h c).length_le
  simp only [listC, List.length_cons]
  omega
theorem argsC_count {rd : Cur → Exp × Cur} (h : ∀ c, (rd c).2.l <:+ c.l) (s : Str) (c : Cur) : (argsC rd s c).1.length ≤ c.l.length + 1 := by
  unfold argsC
  split
  · simp
  · exact listC_count h c
/-- More rounds than tokens change nothing. -/
theorem loopC_more {α : Type} {rd : Cur → α × Cur} (h : ∀ c, (rd c).2.l.length ≤ c.l.length) : ∀ (m : Nat) (c : Cur), c.l.length ≤ m → loopC rd m c = loopC rd c.l.length c
  | 0, c, hm => by rw [Nat.le_zero.1 hm]
  | m + 1, c, hm => by
    cases hl : c.l.length with
    | zero =>
      have hn : c.next [44] = false := by
        cases hn : c.next [44] with
        | false => rfl
        | true => have := Cur.adv_len hn; omega
      rw [loopC, loopC]; simp [hn]
    | succ k =>
      rw [loopC, loopC]
      cases hn : c.next [44] with
      | false => rfl
      | true =>
        have h1 := Cur.adv_len hn
        have h2 := h c.adv
        rw [loopC_more h m (rd c.adv).2 (by omega), loopC_more h k (rd c.adv).2 (by omega)]
theorem dotsC_more {rs : Exp → Cur → Exp × Cur} (h : ∀ e c, (rs e c).2.l.length ≤ c.l.length) : ∀ (m : Nat) (e : Exp) (c : Cur), c.l.length ≤ m → dotsC rs m e c = dotsC rs c.l.length e c
  | 0, e, c, hm => by rw [Nat.le_zero.1 hm]
  | m + 1, e, c, hm => by
    cases hl : c.l.length with
    | zero =>
      have hn : c.next [46] = false := by
        cases hn : c.next [46] with
        | false => rfl
        | true => have := Cur.adv_len hn; omega
      rw [dotsC, dotsC]; simp [hn]
    | succ k =>
      rw [dotsC, dotsC]
      cases hn : c.next [46] with
      | false => rfl
      | true =>
        have h1 := Cur.adv_len hn
        have h2 := h e c.adv
        simp only [if_true]
        rw [dotsC_more h m _ (rs e c.adv).2 (by omega), dotsC_more h k _ (rs e c.adv).2 (by omega)]
theorem loopC_at {α : Type} {rd : Cur → α × Cur} (h : ∀ c, (rd c).2.l.length ≤ c.l.length) (c : Cur) : loopC rd c.l.length c = if c.next [44] then ((rd c.adv).1 :: (loopC rd (rd c.adv).2.l.length (rd c.adv).2).1, (loopC rd (rd c.adv).2.l.length (rd c.adv).2).2) else ([], c) := by
  rw [← loopC_more h (c.l.length + 1) c (by omega), loopC]
  split
  · rename_i hn
    have h1 := Cur.adv_len hn
    have h2 := h c.adv
    rw [loopC_more h c.l.length (rd c.adv).2 (by omega)]
  · rfl
theorem dotsC_at {rs : Exp → Cur → Exp × Cur} (h : ∀ e c, (rs e c).2.l.length ≤ c.l.length) (e : Exp) (c : Cur) : dotsC rs c.l.length e c = if c.next [46] then dotsC rs (rs e c.adv).2.l.length (rs e c.adv).1 (rs e c.adv).2 else (e, c) := by
  rw [← dotsC_more h (c.l.length + 1) e c (by omega), dotsC]
  split
  · rename_i hn
    have h1 := Cur.adv_len hn
    have h2 := h e c.adv
    rw [dotsC_more h c.l.length _ (rs e c.adv).2 (by omega)]
  · rfl
/-! ### A text as a whole -/
def rdT (l : List Tk) : Ty × Cur := typeC (l.length + 1) ⟨l, none⟩
def rdE (l : List Tk) : Exp × Cur := exprC (l.length + 1) ⟨l, none⟩
def wholeC {α : Type} (ft : Nat) (none_ : α) (rd : List Tk → α × Cur) (s : Str) : α × AV :=
  match lexT s with
  | (none, m) => (none_, .iface ft (.agg [.int .i64 1, .int .i64 m]))
  | (some l, _) => if (endC (rd l).2).err.isSome then (none_, errA ft (endC (rd l).2).err) else ((rd l).1, .nilIface)
theorem lexT_bounds {s : Str} {l : List Tk} {n : Nat} (h : lexT s = (some l, n)) : s.length ≤ 65536 ∧ l.length ≤ 140000 ∧ ∀ t ∈ l, t.2.1.length ≤ 140000 := by
  have hs : s.length ≤ 65536 := by
    rcases Nat.lt_or_ge 65536 s.length with h1 | h1
    · unfold lexT at h
      rw [if_neg (by omega)] at h
      simp at h
    · exact h1
  obtain ⟨-, -, h3, -⟩ := lexT_some hs h
  refine ⟨hs, ?_, fun t ht => ?_⟩
  · have := szK_len (l.map ktOf)
    rw [List.length_map] at this
    omega
  · have := szK_mem (x := ktOf t) (List.mem_map_of_mem (f := ktOf) ht)
    have e : (ktOf t).2.length = t.2.1.length := rfl
    omega
end Go.Pv
end

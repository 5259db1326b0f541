import Derived.Test.YtocmdbojefgpbaaGreatDoorPvLb
import Derived.Lib.Join
import Derived.Lib.LastIndexByte
import Derived.Lib.Replace
import Derived.Lib.SlTrimSet
set_option linter.all false
section
/- The lexer's laws in plain lists: the reference's scan, tokens without their places, joined texts, comments. -/
namespace Go.Pv
open Go

def nlN : List UInt8 → Nat
  | [] => 0
  | c :: s => if c = 10 then 0 else 1 + nlN s
section
variable {n k : Nat} {out : List Tk} {s : List UInt8}
end
def lexR (x : Option (List Tk) × Nat) : AV := match x.1 with
  | some l => .agg [.slice (l.map encK), .int .i64 (-1)]
  | none => .agg [.slice [], .int .i64 x.2]

abbrev Kt := Int × List UInt8
def ktOf (x : Tk) : Kt := (x.1, x.2.1)
def lxK : Nat → List UInt8 → Option (List Kt)
  | 0, _ => none
  | _ + 1, [] => some [(3, [])]
  | n + 1, c :: r =>
    if clsI c.toNat = 4 then lxK n r
    else if Lib.hasPrefix (c :: r) [47, 47] = true then lxK n ((c :: r).drop (nlN (c :: r)))
    else if clsI c.toNat = 1 then (lxK n ((c :: r).drop (wordN (c :: r)))).map ((1, (c :: r).take (wordN (c :: r))) :: ·)
    else if 0 ≤ Lib.indexByte signs c then (lxK n r).map ((2, [c]) :: ·)
    else none

def tkK (s : List UInt8) : Option (List Kt) := lxK (s.length + 1) s
def jt (l : List Kt) : List (List UInt8) := (l.filter fun x => x.1 != 3).map (·.2)
def joinK (l : List Kt) : List UInt8 := Lib.join (jt l) [32]
def wordK (w : List UInt8) : Prop := ∃ c r, w = c :: r ∧ clsI c.toNat = 1 ∧ ∀ x ∈ c :: r, wc x = true
inductive TkL : List Kt → Prop
  | nil : TkL [(3, [])]
  | word (w : List UInt8) (l : List Kt) (hw : wordK w) (hl : TkL l) : TkL ((1, w) :: l)
  | sign (c : UInt8) (l : List Kt) (hc : 0 ≤ Lib.indexByte signs c) (hl : TkL l) : TkL ((2, [c]) :: l)
def refJS (s : List UInt8) (x : Kt) : List UInt8 := if x.1 = 3 then s else (if s = [] then s else s ++ [32]) ++ x.2
def refJ (l : List Kt) : List UInt8 := l.foldl refJS []
def szK (l : List Kt) : Nat := (l.map fun x => x.2.length + 1).sum
def lastI : List UInt8 → Int
  | [] => -1
  | c :: s => if 0 ≤ lastI s then lastI s + 1 else if c = 10 then 0 else -1
def clampN (i : Int) (n : Nat) : Nat := min i.toNat n
def encB (x : UInt8) : List AV := [.int .u8 x.toNat]
def noNl (c : List UInt8) : List UInt8 := c.filter (· != 10)
end Go.Pv
end

section
/- Names of instances: what the package mangle makes and reads. -/
namespace Go.Pv
open Go

def escS : Str → Str
  | [] => []
  | c :: r => if c = 95 then 95 :: 95 :: escS r else c :: escS r
theorem escS_len (a : Str) : (escS a).length ≤ 2 * a.length := by
  induction a with
  | nil => simp [escS]
  | cons c r ih => simp only [escS]; split <;> simp <;> omega
def brM (l : List Str) : Str := if l.isEmpty then [] else 95 :: 76 :: (Lib.join l [95, 67] ++ [95, 82])
mutual
def mgT : Ty → Str | .mk n ts _ => if (locOf n).isSome && ts.isEmpty then 95 :: 86 :: decD ((locOf n).getD 0) else escS n ++ brM (mgs ts)
def mgs : List Ty → List Str | [] => [] | t :: r => mgT t :: mgs r
end
theorem mgs_map (l : List Ty) : mgs l = l.map mgT := by
  induction l with
  | nil => rfl
  | cons t r ih => simp [mgs, ih]
theorem mgT_mk (n : Str) (ts : List Ty) (p : Int) : mgT (.mk n ts p) = if (locOf n).isSome && ts.isEmpty then 95 :: 86 :: decD ((locOf n).getD 0) else escS n ++ brM (ts.map mgT) := by rw [mgT, mgs_map]
def mgM (m : Str) (l : List Ty) : Str := escS m ++ brM (l.map mgT)
mutual
def r20 : Ty → Bool | .mk n ts _ => if (locOf n).isSome then ts.isEmpty else r20s ts && isName n
def r20s : List Ty → Bool | [] => true | t :: r => r20 t && r20s r
end
theorem r20s_all (l : List Ty) : r20s l = l.all r20 := by
  induction l with
  | nil => rfl
  | cons t r ih => simp [r20s, ih]
theorem r20_mk (n : Str) (ts : List Ty) (p : Int) : r20 (.mk n ts p) = if (locOf n).isSome then ts.isEmpty else ts.all r20 && isName n := by rw [r20, r20s_all]

theorem name_head {s : Str} (h : isName s = true) : ∃ c r, s = c :: r ∧ c ≠ 36 ∧ c ≠ 95 := by
  unfold isName at h
  cases s with
  | nil => cases h
  | cons c r =>
    refine ⟨c, r, rfl, ?_, ?_⟩
    all_goals
      rintro rfl
      simp [clsI] at h
theorem name_noloc {s : Str} (h : isName s = true) : locOf s = none := by
  obtain ⟨c, r, rfl, h1, -⟩ := name_head h
  exact locOf_none_head h1
theorem mgM_mk {m : Str} (h : isName m = true) (l : List Ty) (p : Int) : mgT (.mk m l p) = mgM m l := by
  rw [mgT_mk, name_noloc h]; rfl

def wordM : Str → Str × Str
  | [] => ([], [])
  | [c] => if c = 95 then ([], [c]) else ([c], [])
  | c :: d :: q => if c = 95 then (if d = 95 then (95 :: (wordM q).1, (wordM q).2) else ([], c :: d :: q)) else (c :: (wordM (d :: q)).1, (wordM (d :: q)).2)
def digsM (s : Str) : Str := s.takeWhile digB
def argsM (rd : Str → (Ty × Bool) × Str) (w : Str) : Nat → List Ty → Str → (Ty × Bool) × Str
  | 0, acc, s => ((.mk w acc 0, false), s)
  | k + 1, acc, s =>
    if (rd s).1.2 = false then ((.mk [] [] 0, false), (rd s).2)
    else if Lib.hasPrefix (rd s).2 [95, 67] then argsM rd w k (acc ++ [(rd s).1.1]) (Lib.trimPrefix (rd s).2 [95, 67])
    else ((.mk w (acc ++ [(rd s).1.1]) 0, Lib.hasPrefix (rd s).2 [95, 82]), Lib.trimPrefix (rd s).2 [95, 82])
def readM : Nat → Str → (Ty × Bool) × Str
  | 0, s => ((.mk [] [] 0, false), s)
  | n + 1, s =>
    if Lib.hasPrefix s [95, 86] then ((.mk (36 :: digsM (s.drop 2)) [] 0, (locOf (36 :: digsM (s.drop 2))).isSome), (s.drop 2).drop (digsM (s.drop 2)).length)
    else if isName (wordM s).1 = false then ((.mk [] [] 0, false), (wordM s).2)
    else if Lib.hasPrefix (wordM s).2 [95, 76] = false then ((.mk (wordM s).1 [] 0, true), (wordM s).2)
    else argsM (readM n) (wordM s).1 n [] (Lib.trimPrefix (wordM s).2 [95, 76])
def parseM (s : Str) : Ty × Bool := if (readM (s.length + 1) s).1.2 = false ∨ (readM (s.length + 1) s).2 ≠ [] then (.mk [] [] 0, false) else ((readM (s.length + 1) s).1.1, true)

theorem word_len : ∀ s : Str, (wordM s).1.length + (wordM s).2.length ≤ s.length
  | [] => by simp [wordM]
  | [c] => by unfold wordM; split <;> simp
  | c :: d :: q => by
    have h1 := word_len q
    have h2 := word_len (d :: q)
    unfold wordM
    split
    · split <;> simp at * <;> omega
    · simp at *; omega
theorem trim_len (s p : Str) : (Lib.trimPrefix s p).length ≤ s.length := by unfold Lib.trimPrefix; split <;> simp
theorem trim_hit {s p : Str} (h : Lib.hasPrefix s p = true) : (Lib.trimPrefix s p).length + p.length = s.length := by
  unfold Lib.trimPrefix
  rw [if_pos h]
  have := (List.isPrefixOf_iff_prefix.1 (show p.isPrefixOf s = true from h)).length_le
  simp; omega
theorem digs_len (s : Str) : (digsM s).length ≤ s.length := (List.takeWhile_prefix digB).length_le
theorem args_len {rd : Str → (Ty × Bool) × Str} (h : ∀ s, (rd s).2.length ≤ s.length) (w : Str) : ∀ (k : Nat) (acc : List Ty) (s : Str), (argsM rd w k acc s).2.length ≤ s.length
  | 0, _, _ => Nat.le_refl _
  | k + 1, acc, s => by
    have h1 := h s
    unfold argsM
    split
    · exact h1
    · split
      · exact Nat.le_trans (args_len h w k _ _) (Nat.le_trans (trim_len _ _) h1)
      · exact Nat.le_trans (trim_len _ _) h1
theorem read_len : ∀ (n : Nat) (s : Str), (readM n s).2.length ≤ s.length
  | 0, _ => Nat.le_refl _
  | n + 1, s => by
    have h1 := word_len s
    unfold readM
    split
    · simp
    · split
      · show (wordM s).2.length ≤ _; omega
      · split
        · show (wordM s).2.length ≤ _; omega
        · have h2 := args_len (read_len n) (wordM s).1 n [] (Lib.trimPrefix (wordM s).2 [95, 76])
          have h3 := trim_len (wordM s).2 [95, 76]
          omega

mutual
def z0 : Ty → Ty | .mk n ts _ => .mk n (z0s ts) 0
def z0s : List Ty → List Ty | [] => [] | t :: r => z0 t :: z0s r
end
theorem z0s_map (l : List Ty) : z0s l = l.map z0 := by
  induction l with
  | nil => rfl
  | cons t r ih => simp [z0s, ih]
theorem z0_mk (n : Str) (ts : List Ty) (p : Int) : z0 (.mk n ts p) = .mk n (ts.map z0) 0 := by rw [z0, z0s_map]
def okM (x : Str) : Prop := x = [] ∨ ∃ d q, x = 95 :: d :: q ∧ d ≠ 95 ∧ d ≠ 76
def okW (x : Str) : Prop := x = [] ∨ ∃ d q, x = 95 :: d :: q ∧ d ≠ 95
theorem okM.w {x : Str} (h : okM x) : okW x := by
  rcases h with h | ⟨d, q, h, h1, -⟩
  · exact .inl h
  · exact .inr ⟨d, q, h, h1⟩
theorem word_esc {x : Str} (hx : okW x) : ∀ n : Str, wordM (escS n ++ x) = (n, x)
  | [] => by
    rcases hx with rfl | ⟨d, q, rfl, h⟩
    · rfl
    · simp [escS, wordM, h]
  | c :: r => by
    have ih := word_esc hx r
    by_cases hc : c = 95
    · subst hc; simp [escS, wordM, ih]
    · simp only [escS, if_neg hc, List.cons_append]
      cases h : escS r ++ x with
      | nil => rw [h] at ih; simp [wordM, hc] at ih ⊢; exact ⟨ih.1, ih.2⟩
      | cons d q => rw [h] at ih; simp [wordM, hc, ih]
theorem digs_dec {x : Str} (hx : okM x) (k : Nat) : digsM (decD k ++ x) = decD k := by
  have h1 := (decD_spec k).2.1
  unfold digsM
  rw [List.takeWhile_append_of_pos (by simpa using h1)]
  rcases hx with rfl | ⟨d, q, rfl, -, -⟩
  · simp
  · simp [digB]
theorem okM_C (r : Str) : okM (95 :: 67 :: r) := .inr ⟨67, r, rfl, by decide, by decide⟩
theorem okM_R (r : Str) : okM (95 :: 82 :: r) := .inr ⟨82, r, rfl, by decide, by decide⟩
theorem hpC (a : UInt8) (r : Str) (b : UInt8) : Lib.hasPrefix (95 :: a :: r) [95, b] = (b == a) := by
  show (([95, b] : Str).isPrefixOf (95 :: a :: r)) = _
  simp only [List.isPrefixOf, beq_self_eq_true, Bool.true_and, Bool.and_true]
theorem okM.noL {x : Str} (hx : okM x) : Lib.hasPrefix x [95, 76] = false := by
  rcases hx with rfl | ⟨d, q, rfl, -, h⟩
  · rfl
  · rw [hpC]; simpa using fun h' : 76 = d => h h'.symm
theorem tpC (a : UInt8) (r : Str) : Lib.trimPrefix (95 :: a :: r) [95, a] = r := by simp [Lib.trimPrefix, Lib.hasPrefix]

theorem args_back {n : Nat} {w : Str} (x : Str) : ∀ (ts : List Ty), ts ≠ [] →
    (∀ t ∈ ts, ∀ x, okM x → (mgT t ++ x).length < n → readM n (mgT t ++ x) = ((z0 t, true), x)) →
    ∀ (k : Nat) (acc : List Ty), ts.length ≤ k → (Lib.join (ts.map mgT) [95, 67] ++ 95 :: 82 :: x).length < n → argsM (readM n) w k acc (Lib.join (ts.map mgT) [95, 67] ++ 95 :: 82 :: x) = ((.mk w (acc ++ ts.map z0) 0, true), x)
  | [], h, _, _, _, _, _ => absurd rfl h
  | t :: r, _, ih, 0, acc, hk, _ => by simp at hk
  | [t], _, ih, k + 1, acc, hk, hl => by
    simp only [List.map_cons, List.map_nil, Lib.join_one] at hl ⊢
    have h1 := ih t (by simp) _ (okM_R x) hl
    unfold argsM
    simp [h1, hpC, tpC]
  | t :: u :: r, _, ih, k + 1, acc, hk, hl => by
    have hj : Lib.join ((t :: u :: r).map mgT) [95, 67] ++ 95 :: 82 :: x = mgT t ++ 95 :: 67 :: (Lib.join ((u :: r).map mgT) [95, 67] ++ 95 :: 82 :: x) := by
      simp [Lib.join_cons, Lib.joinTail]
    rw [hj] at hl ⊢
    have h1 := ih t (by simp) _ (okM_C _) hl
    have h2 := args_back (w := w) x (u :: r) (by simp) (fun t ht => ih t (by simp only [List.mem_cons] at ht ⊢; exact .inr ht)) k (acc ++ [z0 t]) (by simp at hk ⊢; omega) (by simp at hl ⊢; omega)
    unfold argsM
    simp only [h1, hpC, tpC, h2]
    simp
theorem mgT_back (t : Ty) : r20 t = true → ∀ (n : Nat) (x : Str), okM x → (mgT t ++ x).length < n → readM n (mgT t ++ x) = ((z0 t, true), x) := by
  induction t using Ty.ind with
  | h m ts p ih =>
    intro hr n x hx hl
    rw [r20_mk] at hr
    obtain ⟨n, rfl⟩ : ∃ k, n = k + 1 := ⟨n - 1, by omega⟩
    cases hlo : locOf m with
    | some k =>
      rw [hlo] at hr
      simp at hr
      subst hr
      obtain ⟨h1, h2⟩ := locOf_some hlo
      rw [mgT_mk, hlo]
      simp only [Option.isSome_some, List.isEmpty_nil, Bool.and_self, if_true, Option.getD_some, List.cons_append]
      unfold readM
      simp only [hpC, beq_self_eq_true, if_true, List.drop_succ_cons, List.drop_zero, digs_dec hx]
      rw [← h1, hlo, z0_mk]
      simp
    | none =>
      rw [hlo] at hr
      simp at hr
      obtain ⟨h1, h2⟩ := hr
      obtain ⟨c, r, hm, -, hc⟩ := name_head h2
      have hpre : ∀ y : Str, Lib.hasPrefix (escS m ++ y) [95, 86] = false := fun y => by
        rw [hm]; simp only [escS, if_neg hc, List.cons_append, Lib.hasPrefix, List.isPrefixOf]; simp; exact fun h => absurd h.symm hc
      have hln : 0 < (escS m).length := by rw [hm]; simp [escS, hc]
      rw [mgT_mk, hlo] at hl ⊢
      simp only [Option.isSome_none, Bool.false_and, Bool.false_eq_true, if_false, List.append_assoc] at hl ⊢
      unfold readM
      rw [hpre]
      cases ts with
      | nil =>
        simp only [List.map_nil, brM, List.isEmpty_nil, if_true, List.nil_append]
        rw [word_esc hx.w]
        simp [h2, hx.noL, z0_mk]
      | cons t r =>
        have hb : brM ((t :: r).map mgT) ++ x = 95 :: 76 :: (Lib.join ((t :: r).map mgT) [95, 67] ++ 95 :: 82 :: x) := by simp [brM]
        rw [hb] at hl ⊢
        rw [word_esc (.inr ⟨76, _, rfl, by decide⟩)]
        have hj : (t :: r).length ≤ (Lib.join ((t :: r).map mgT) [95, 67] ++ 95 :: 82 :: x).length := by
          have : ∀ l : List Ty, l.length ≤ (Lib.join (l.map mgT) [95, 67]).length + 1 := by
            intro l
            cases l with
            | nil => simp
            | cons u l =>
              rw [List.map_cons, Lib.join_cons]
              simp only [Lib.joinTail, List.length_append, List.length_cons, List.length_flatten, List.map_map]
              have : ∀ q : List Ty, q.length ≤ ((q.map (fun z => ([95, 67] ++ mgT z : Str).length))).sum := by
                intro q
                induction q with
                | nil => simp
                | cons z q ihq => simp only [List.map_cons, List.sum_cons, List.length_cons, List.length_append, List.length_nil] at ihq ⊢; omega
              have := this l
              simp only [Function.comp_def] at this ⊢
              omega
          have := this (t :: r)
          simp at this ⊢; omega
        have h3 := args_back (n := n) (w := m) x (t :: r) (by simp) (fun u hu y hy hly => ih u hu (h1 u hu) n y hy hly) n [] (by simp at hl hj ⊢; omega) (by simp at hl ⊢; omega)
        simp only [h2, hpC, tpC, h3, z0_mk]
        simp
theorem parse_back {t : Ty} (h : r20 t = true) : parseM (mgT t) = (z0 t, true) := by
  have h1 := mgT_back t h ((mgT t).length + 1) [] (.inl rfl) (by simp)
  rw [List.append_nil] at h1
  unfold parseM
  rw [h1]
  simp
theorem mgs_sum (l : List Ty) (h : ∀ t ∈ l, (mgT t).length + 2 ≤ 6 * wt t) : ((l.map mgT).map fun s => s.length + ([95, 67] : Str).length).sum ≤ 6 * wts l := by
  induction l with
  | nil => simp [wts]
  | cons t r ih => have a := h t (by simp); have b := ih fun x hx => h x (by simp [hx]); simp only [List.map_cons, List.sum_cons, wts, List.length_cons, List.length_nil] at b ⊢; omega
theorem mgT_len (t : Ty) : (mgT t).length + 2 ≤ 6 * wt t := by
  induction t using Ty.ind with
  | h n ts p ih =>
    rw [mgT_mk]
    split
    · rename_i h
      simp only [Bool.and_eq_true] at h
      obtain ⟨k, hk⟩ := Option.isSome_iff_exists.1 h.1
      obtain ⟨h1, -⟩ := locOf_some hk
      have h2 := congrArg List.length h1
      rw [hk]
      simp [wt] at h2 ⊢; omega
    · have h1 := escS_len n
      unfold brM
      split
      · simp [wt]; omega
      · have h2 := join_len (ts.map mgT) [95, 67]
        have h3 := mgs_sum ts ih
        simp only [wt, List.length_append, List.length_cons, List.length_nil]; omega
theorem mgs_len (ts : List Ty) : (Lib.join (ts.map mgT) [95, 67]).length ≤ 6 * wts ts := Nat.le_trans (join_len _ _) (mgs_sum ts fun t _ => mgT_len t)
theorem mgM_len (m : Str) (ts : List Ty) : (mgM m ts).length ≤ 2 * m.length + 6 * wts ts + 4 := by
  have h1 := escS_len m
  have h2 := mgs_len ts
  unfold mgM brM
  split <;> simp <;> omega
def mgK (ts : List Ty) (k : Nat) : Str := if k = 0 then [] else [95, 76] ++ Lib.join ((ts.take k).map mgT) [95, 67]
end Go.Pv
end

section
/- Doubled signs as the library's replacement; leading digits. -/
namespace Go.Pv
open Go

theorem esc_index (s : Str) : (Lib.index s [95] = -1 ∧ escS s = s) ∨ ∃ i : Nat, Lib.index s [95] = i ∧ i < s.length ∧ escS s = s.take i ++ [95, 95] ++ escS (s.drop (i + 1)) := by
  induction s with
  | nil => exact .inl ⟨rfl, rfl⟩
  | cons b l ih =>
    by_cases hb : b = 95
    · subst hb
      refine .inr ⟨0, ?_, by simp, by simp [escS]⟩
      unfold Lib.index
      simp
    · have hp : ([95] : Str).isPrefixOf (b :: l) = false := by
        simp only [List.isPrefixOf, Bool.and_true]
        simpa using fun h : 95 = b => hb h.symm
      rcases ih with ⟨h1, h2⟩ | ⟨i, h1, h2, h3⟩
      · refine .inl ⟨?_, by simp [escS, hb, h2]⟩
        unfold Lib.index
        rw [hp, h1]; rfl
      · refine .inr ⟨i + 1, ?_, by simpa using h2, by simp [escS, hb, h3]⟩
        unfold Lib.index
        rw [hp, h1]
        have : ((i : Int) == -1) = false := by rw [beq_eq_false_iff_ne]; omega
        simp [this]
theorem esc_replaceK : ∀ (fuel : Nat) (s : Str), s.length < fuel → Lib.replaceK [95] [95, 95] (Lib.countFrom [95] fuel s) s = escS s
  | 0, s, h => by omega
  | fuel + 1, s, h => by
    rcases esc_index s with ⟨h1, h2⟩ | ⟨i, h1, h2, h3⟩
    · have : Lib.countFrom [95] (fuel + 1) s = 0 := by unfold Lib.countFrom; rw [h1]; rfl
      rw [this, h2]; rfl
    · have hm : ((i : Int) == -1) = false := by rw [beq_eq_false_iff_ne]; omega
      have : Lib.countFrom [95] (fuel + 1) s = Lib.countFrom [95] fuel (s.drop (i + 1)) + 1 := by
        rw [Lib.countFrom, h1, hm]
        simp [Nat.add_comm]
      rw [this, Lib.replaceK_hit [95] [95, 95] _ s i h1]
      have ih := esc_replaceK fuel (s.drop (i + 1)) (by simp; omega)
      rw [show i + ([95] : Str).length = i + 1 from rfl, ih, h3]
theorem esc_replaceAll (s : Str) : Lib.replaceAll s [95] [95, 95] = escS s := by
  unfold Lib.replaceAll Lib.replace Lib.replaceNum
  rw [if_neg (by decide), if_pos (.inl (by decide))]
  exact esc_replaceK _ s (Nat.lt_succ_self _)
theorem count_le : ∀ (fuel : Nat) (s : Str), Lib.countFrom [95] fuel s ≤ fuel
  | 0, _ => Nat.le_refl _
  | fuel + 1, s => by
    unfold Lib.countFrom
    split
    · omega
    · have := count_le fuel (s.drop ((Lib.index s [95]).toNat + ([95] : Str).length)); omega

def digitsL : Str := [48, 49, 50, 51, 52, 53, 54, 55, 56, 57]
theorem digits_dig (c : UInt8) : digitsL.contains c = digB c := by
  have h : ∀ n : Fin 256, digitsL.contains (UInt8.ofNat n.val) = digB (UInt8.ofNat n.val) := by decide +kernel
  have := h ⟨c.toNat, c.toNat_lt⟩
  simpa using this
theorem trim_digits (s : Str) : Lib.trimLeftS s digitsL = s.drop (digsM s).length := by
  unfold Lib.trimLeftS digsM
  rw [show (fun c => digitsL.contains c) = digB from funext digits_dig]
  induction s with
  | nil => rfl
  | cons c r ih => simp only [List.dropWhile_cons, List.takeWhile_cons]; split <;> simp [ih]
theorem take_digits (s : Str) : s.take (digsM s).length = digsM s := by
  unfold digsM
  induction s with
  | nil => rfl
  | cons c r ih => simp only [List.takeWhile_cons]; split <;> simp [ih]

theorem brM_len (ts : List Ty) : (brM (ts.map mgT)).length ≤ 6 * wts ts + 4 := by
  have h2 := mgs_len ts
  unfold brM
  split <;> simp <;> omega
theorem locR_of {s : Str} {k : Nat} (h : locOf s = some k) : locR s = k := by unfold locR; rw [h]
theorem locR_none {s : Str} (h : locOf s = none) : locR s = -1 := by unfold locR; rw [h]
theorem locI_of {s : Str} {k : Nat} (h : locOf s = some k) : locI s = k := by unfold locI; rw [h]
def encU (x : UInt8) : List AV := [.int .u8 x.toNat]
theorem encU_cells (x : UInt8) : (encU x).length = 1 ∧ (encU x).all AV.one = true := ⟨rfl, rfl⟩
theorem rowNums_encU : ∀ l : List UInt8, rowNums (l.map encU) = some (l.map fun x => (x.toNat : Int))
  | [] => rfl
  | x :: l => by simp [rowNums, encU, rowNums_encU l]
theorem ofNum_encU (l : List UInt8) : (l.map fun x => (x.toNat : Int)).map (fun n => UInt8.ofNat n.toNat) = l := by simp [Function.comp_def]
theorem ofNum_encU2 (l : List UInt8) : l.map ((fun n : Int => UInt8.ofNat n.toNat) ∘ fun x : UInt8 => (x.toNat : Int)) = l := by simp [Function.comp_def]
theorem wordM_ne {c : UInt8} (h : c ≠ 95) (r : Str) : wordM (c :: r) = (c :: (wordM r).1, (wordM r).2) := by
  cases r with
  | nil => simp [wordM, h]
  | cons d q => simp [wordM, h]
theorem hp_ne {c : UInt8} (h : c ≠ 95) (r : Str) (b : UInt8) : Lib.hasPrefix (c :: r) [95, b] = false := by
  show ([95, b] : Str).isPrefixOf (c :: r) = false
  simp only [List.isPrefixOf, Bool.and_eq_false_iff]
  exact .inl (by simpa using fun h2 : 95 = c => h h2.symm)
end Go.Pv
end

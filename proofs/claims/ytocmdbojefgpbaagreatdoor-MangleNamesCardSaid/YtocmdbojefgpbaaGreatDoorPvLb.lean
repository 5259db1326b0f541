import Derived.Test.YtocmdbojefgpbaaGreatDoorPvY
import Derived.Lib.AtoiAll
import Derived.Lib.AtoiAllCases
import Derived.Lib.ItoaNum
import Derived.Below
import Derived.Lib.Bytealg
set_option linter.all false
section
/- The texts of right types tell them apart. -/
namespace Go.Pv
open Go

def endB (x : Str) : Prop := x = [] ∨ ∃ c r, x = c :: r ∧ goodB c = false

def endT (x : Str) : Prop := x = [] ∨ ∃ c r, x = c :: r ∧ (c = 93 ∨ c = 44)
def tailT (l : List Ty) : Str := Lib.joinTail [44, 32] (txts l)
theorem right_name {n : Str} {ts : List Ty} {p : Int} (h : rightT (.mk n ts p) = true) : isName n = true ∧ ∀ t ∈ ts, rightT t = true := by
  simp only [rightT, lst, List.all_cons, Bool.and_eq_true] at h
  refine ⟨h.1, fun t ht => ?_⟩
  rw [rightT, List.all_eq_true]
  intro s hs
  exact List.all_eq_true.1 h.2 s (by rw [lsts_flat]; exact List.mem_flatten.2 ⟨lst t, List.mem_map.2 ⟨t, ht, rfl⟩, hs⟩)

end Go.Pv
end

section
/- Local names and their indexes. -/
namespace Go.Pv
open Go

def digB (c : UInt8) : Bool := decide (48 ≤ c.toNat) && decide (c.toNat ≤ 57)
def dg (c : UInt8) : Nat := c.toNat % 48
theorem dg_of {c : UInt8} {d : Nat} (h : c.toNat = 48 + d) (hd : d < 10) : dg c = d := by
  unfold dg
  rw [h, Nat.add_mod_left, Nat.mod_eq_of_lt (by omega)]
theorem dg_sub {c : UInt8} (h1 : 48 ≤ c.toNat) (h2 : c.toNat ≤ 57) : c.toNat - 48 = dg c := by
  obtain ⟨d, hd⟩ := Nat.le.dest h1
  rw [dg_of hd.symm (by omega), ← hd, Nat.add_sub_cancel_left]
def stepD (a : Nat) (c : UInt8) : Nat := a * 10 + dg c
def valD (a : Nat) (l : Str) : Nat := l.foldl stepD a
theorem valD_nil (a : Nat) : valD a [] = a := rfl
theorem valD_cons (a : Nat) (c : UInt8) (r : Str) : valD a (c :: r) = valD (stepD a c) r := rfl
theorem stepD_eq (a : Nat) (c : UInt8) : stepD a c = a * 10 + dg c := rfl
theorem stepD_of {a : Nat} {c : UInt8} {d : Nat} (h : c.toNat = 48 + d) (hd : d < 10) : stepD a c = a * 10 + d := by rw [stepD_eq, dg_of h hd]
abbrev decD : Nat → Str := Lib.decDigits
def locS (n : Int) : Str := if n < 0 then [] else 36 :: decD n.toNat
def locOf (s : Str) : Option Nat :=
  match s with
  | [] => none
  | c :: r => if c = 36 ∧ r ≠ [] ∧ r.all digB = true ∧ valD 0 r ≤ 2147483647 ∧ decD (valD 0 r) = r then some (valD 0 r) else none
def locI (s : Str) : Int := match locOf s with | some n => n | none => 0
def locR (s : Str) : Int := match locOf s with | some n => n | none => -1

theorem decD_small {n : Nat} (h : n < 10) : decD n = [UInt8.ofNat (48 + n)] := by unfold decD; rw [Lib.decDigits, dif_pos h]
theorem decD_big {n : Nat} (h : ¬ n < 10) : decD n = decD (n / 10) ++ [UInt8.ofNat (48 + n % 10)] := by unfold decD; rw [Lib.decDigits, dif_neg h]

theorem valD_app (a : Nat) (l m : Str) : valD a (l ++ m) = valD (valD a l) m := List.foldl_append
theorem ofNat_dig {d : Nat} (h : d < 10) : (UInt8.ofNat (48 + d)).toNat = 48 + d := by
  rw [UInt8.toNat_ofNat', Nat.mod_eq_of_lt (by omega)]
theorem decD_spec (n : Nat) : decD n ≠ [] ∧ (decD n).all digB = true ∧ valD 0 (decD n) = n := by
  induction n using Nat.strongRecOn with
  | _ n ih =>
    by_cases h : n < 10
    · rw [decD_small h]
      have hb := ofNat_dig h
      generalize UInt8.ofNat (48 + n) = b at hb ⊢
      refine ⟨by simp, ?_, ?_⟩
      · simp only [List.all_cons, List.all_nil, digB, hb, Bool.and_true, Bool.and_eq_true, decide_eq_true_eq]; omega
      · rw [valD_cons, valD_nil, stepD_of hb h, Nat.zero_mul, Nat.zero_add]
    · rw [decD_big h]
      obtain ⟨-, h2, h3⟩ := ih (n / 10) (by omega)
      have hb := ofNat_dig (show n % 10 < 10 by omega)
      generalize UInt8.ofNat (48 + n % 10) = b at hb ⊢
      generalize decD (n / 10) = l at h2 h3 ⊢
      refine ⟨by simp, ?_, ?_⟩
      · rw [List.all_append, h2]
        simp only [List.all_cons, List.all_nil, digB, hb, Bool.and_true, Bool.true_and, Bool.and_eq_true, decide_eq_true_eq]; omega
      · rw [valD_app, h3, valD_cons, valD_nil, stepD_of hb (Nat.mod_lt n (by decide))]
        exact Nat.div_add_mod' n 10
theorem decD_len : ∀ (k n : Nat), n < 10 ^ (k + 1) → (decD n).length ≤ k + 1
  | 0, n, h => by rw [decD_small (by simpa using h)]; simp
  | k + 1, n, h => by
    by_cases h1 : n < 10
    · rw [decD_small h1]; simp
    · rw [decD_big h1]
      have := decD_len k (n / 10) (Nat.div_lt_of_lt_mul (by rw [Nat.pow_succ] at h; omega))
      simp; omega

theorem locOf_dec {n : Nat} (h : n ≤ 2147483647) : locOf (36 :: decD n) = some n := by
  obtain ⟨h1, h2, h3⟩ := decD_spec n
  simp only [locOf, h1, h2, h3, ne_eq, not_false_eq_true, true_and, h, and_self, if_true]
theorem locOf_some {s : Str} {n : Nat} (h : locOf s = some n) : s = 36 :: decD n ∧ n ≤ 2147483647 := by
  cases s with
  | nil => cases h
  | cons c r =>
    simp only [locOf] at h
    split at h
    · rename_i hc
      injection h with h
      subst h
      exact ⟨by rw [hc.1, hc.2.2.2.2], hc.2.2.2.1⟩
    · cases h
theorem locS_nat (n : Nat) : locS n = 36 :: decD n := by unfold locS; rw [if_neg (by omega)]; rfl
theorem locOf_locS {s : Str} {n : Int} (h : locS n = s) (hs : s ≠ []) (hn : n ≤ 2147483647) : locOf s = some n.toNat ∧ 0 ≤ n := by
  unfold locS at h
  split at h
  · exact absurd h.symm hs
  · rw [← h]; exact ⟨locOf_dec (by omega), by omega⟩

theorem stepD_le (a : Nat) (c : UInt8) : a ≤ stepD a c := by
  rw [stepD_eq]; exact Nat.le_trans (Nat.le_mul_of_pos_right a (by decide)) (Nat.le_add_right _ _)
theorem valD_le (a : Nat) (l : Str) : a ≤ valD a l := by
  induction l generalizing a with
  | nil => exact Nat.le_refl _
  | cons c l ih => rw [valD_cons]; exact Nat.le_trans (stepD_le a c) (ih _)
theorem parse_val (l : Str) : ∀ a : Nat, l.all digB = true → valD a l < 9223372036854775808 → Lib.parseUint10 a l = .ok (valD a l) := by
  induction l with
  | nil => intro a _ _; rfl
  | cons c l ih =>
    intro a h hv
    simp only [List.all_cons, Bool.and_eq_true, digB, decide_eq_true_eq] at h
    rw [valD_cons] at hv ⊢
    have h1 := valD_le (stepD a c) l
    have h3 : a * 10 ≤ stepD a c := Nat.le_add_right _ _
    rw [Lib.parseUint10, if_pos h.1, dg_sub h.1.1 h.1.2, ← stepD_eq]
    generalize stepD a c = z at *
    rw [if_neg (by omega), if_neg (by omega)]
    exact ih _ h.2 hv
theorem atoi_plain {l : Str} {n : Nat} (h1 : l ≠ []) (h2 : l.all digB = true) (h3 : valD 0 l = n) (h : n ≤ 2147483647) : Lib.atoiAll l = .ok (n : Int) := by
  have hp : Lib.parseMag l = .ok n := by
    unfold Lib.parseMag
    rw [if_neg h1, parse_val l 0 h2 (by rw [h3]; omega), h3]
  cases l with
  | nil => exact absurd rfl h1
  | cons c r =>
    have hc : digB c = true := by simp only [List.all_cons, Bool.and_eq_true] at h2; exact h2.1
    simp only [digB, Bool.and_eq_true, decide_eq_true_eq] at hc
    obtain ⟨g1, g2⟩ := hc
    clear h2 h3
    have e1 : c.toNat ≠ 43 := by omega
    have e2 : c.toNat ≠ 45 := by omega
    rw [Lib.atoiAll_plain c r e1 e2, hp]
    have e3 : ¬ 9223372036854775808 ≤ n := by omega
    simp only [Lib.signless]
    rw [if_neg e3]
theorem atoi_dec {n : Nat} (h : n ≤ 2147483647) : Lib.atoiAll (decD n) = .ok (n : Int) :=
  let ⟨h1, h2, h3⟩ := decD_spec n
  atoi_plain h1 h2 h3 h

def atoiAV (T : Nat) (l : Str) : AV :=
  match Lib.atoiAll l with
  | .ok v => .tup [.int .i64 v, .nilIface]
  | .range => .tup [.int .i64 (Lib.atoiSat l), .iface T (.ro [])]
  | _ => .tup [.int .i64 0, .iface T (.ro [])]
theorem atoiAV_cases (T : Nat) (l : Str) : (∃ v, Lib.atoiAll l = .ok v ∧ atoiAV T l = .tup [.int .i64 v, .nilIface] ∧ -9223372036854775808 ≤ v ∧ v ≤ 9223372036854775807) ∨ ((∀ v, Lib.atoiAll l ≠ .ok v) ∧ ∃ v, atoiAV T l = .tup [.int .i64 v, .iface T (.ro [])]) := by
  unfold atoiAV
  cases h : Lib.atoiAll l with
  | ok v => exact .inl ⟨v, rfl, rfl, Lib.atoiAll_bounds h⟩
  | range => exact .inr ⟨fun v hv => (by cases hv), _, rfl⟩
  | _ => exact .inr ⟨fun v hv => (by cases hv), _, rfl⟩

theorem locOf_none_head {c : UInt8} {r : Str} (h : c ≠ 36) : locOf (c :: r) = none := by simp [locOf, h]
theorem locOf_none_atoi {r : Str} (h : ∀ v, Lib.atoiAll r ≠ .ok v) : locOf (36 :: r) = none := by
  cases hl : locOf (36 :: r) with
  | none => rfl
  | some n =>
    obtain ⟨h1, h2⟩ := locOf_some hl
    injection h1 with _ h1
    exact absurd (by rw [h1]; exact atoi_dec h2) (h n)
theorem locOf_none_val {r : Str} {v : Int} (hv : Lib.atoiAll r = .ok v) (h : ¬ (v ≤ 2147483647 ∧ locS v = 36 :: r)) : locOf (36 :: r) = none := by
  cases hl : locOf (36 :: r) with
  | none => rfl
  | some n =>
    obtain ⟨h1, h2⟩ := locOf_some hl
    injection h1 with _ h1
    have h3 := atoi_dec h2
    rw [← h1, hv] at h3
    injection h3 with h3
    subst h3
    exact absurd ⟨by omega, by rw [locS_nat, ← h1]⟩ h
theorem clsI_dig (b : UInt8) : (clsI (b.toNat : Int) = 2) ↔ digB b = true := by
  simp only [digB, Bool.and_eq_true, decide_eq_true_eq]
  unfold clsI
  repeat (first | omega | split)
theorem itoa_decD {n : Int} (h : 0 ≤ n) : Lib.itoa n = decD n.toNat := by unfold Lib.itoa; rw [if_neg (by omega)]
theorem pow19 {n : Nat} (h : n ≤ 9223372036854775807) : n < 10 ^ (18 + 1) := by
  have e : (10 : Nat) ^ (18 + 1) = 10000000000000000000 := by decide
  rw [e]; omega
theorem itoa_len {n : Int} (h0 : 0 ≤ n) (h1 : n ≤ 9223372036854775807) : (Lib.itoa n).length ≤ 19 := by
  rw [itoa_decD h0]
  have e : (10 : Nat) ^ (18 + 1) = 10000000000000000000 := by decide
  exact decD_len 18 n.toNat (by rw [e]; omega)
theorem hasPrefix_not {c : UInt8} {r : Str} (h : c ≠ 36) : Lib.hasPrefix (c :: r) [36] = false := by
  have h1 : ((36 : UInt8) == c) = false := by simpa using Ne.symm h
  simp [Lib.hasPrefix, List.isPrefixOf, h1]
theorem locR_short {s : Str} (h : s.length < 2) : locR s = -1 := by
  unfold locR
  cases hl : locOf s with
  | none => rfl
  | some n =>
    obtain ⟨h1, -⟩ := locOf_some hl
    obtain ⟨h2, -, -⟩ := decD_spec n
    have h3 := congrArg List.length h1
    have h4 := List.length_pos_iff.2 h2
    simp only [List.length_cons] at h3
    omega
theorem locR_long {s : Str} (h : 11 < s.length) : locR s = -1 := by
  unfold locR
  cases hl : locOf s with
  | none => rfl
  | some n =>
    obtain ⟨h1, h2⟩ := locOf_some hl
    have e : (10 : Nat) ^ (9 + 1) = 10000000000 := by decide
    have h4 := decD_len 9 n (by rw [e]; omega)
    have h3 := congrArg List.length h1
    simp only [List.length_cons] at h3
    omega
theorem locR_bad {r : Str} (h : r.all digB = false) : locR (36 :: r) = -1 := by
  unfold locR
  cases hl : locOf (36 :: r) with
  | none => rfl
  | some n =>
    obtain ⟨h1, -⟩ := locOf_some hl
    injection h1 with _ h1
    rw [h1, (decD_spec n).2.1] at h; cases h
theorem locR_val {r : Str} (h : ¬ valD 0 r ≤ 2147483647) : locR (36 :: r) = -1 := by
  unfold locR
  cases hl : locOf (36 :: r) with
  | none => rfl
  | some n =>
    obtain ⟨h1, h2⟩ := locOf_some hl
    injection h1 with _ h1
    rw [h1, (decD_spec n).2.2] at h
    exact absurd h2 h
theorem locR_no {r : Str} (h : locS (valD 0 r : Nat) ≠ 36 :: r) : locR (36 :: r) = -1 := by
  unfold locR
  cases hl : locOf (36 :: r) with
  | none => rfl
  | some n =>
    obtain ⟨h1, h2⟩ := locOf_some hl
    injection h1 with _ h1
    rw [h1, (decD_spec n).2.2, locS_nat] at h
    exact absurd rfl h
theorem stepD_int {c : UInt8} (m : Nat) (h1 : 48 ≤ c.toNat) (h2 : c.toNat ≤ 57) : (10 : Int) * m + ((c.toNat : Int) - 48) = (stepD m c : Nat) := by
  obtain ⟨d, hd⟩ := Nat.le.dest h1
  rw [stepD_of hd.symm (by omega), ← hd]
  omega
theorem step_lt {c : UInt8} {m k : Nat} (h1 : 48 ≤ c.toNat) (h2 : c.toNat ≤ 57) (hm : m < 10 ^ k) : stepD m c < 10 ^ (k + 1) := by
  obtain ⟨d, hd⟩ := Nat.le.dest h1
  rw [stepD_of hd.symm (by omega), Nat.pow_succ]
  generalize 10 ^ k = z at *
  omega
theorem decD_small2 {n : Nat} (h : n < 10) : decD n = [48 + UInt8.ofNat n] := by rw [decD_small h]; simp
theorem decD_big2 {n : Nat} (h : ¬ n < 10) : decD n = decD (n / 10) ++ [48 + UInt8.ofNat (n % 10)] := by rw [decD_big h]; simp
theorem locS_len {n : Int} (h : n ≤ 9223372036854775807) : (locS n).length ≤ 20 := by
  unfold locS
  split
  · simp
  · have := decD_len 18 n.toNat (pow19 (by omega))
    simp only [List.length_cons]; omega
def pow10A : List AV := Lib.pow10Tab.map (AV.int .u64)

end Go.Pv
end

section
/- Tokens: their cells; which are alike. -/
namespace Go.Pv
open Go

abbrev Tk := Int × List UInt8 × Int
def encK (x : Tk) : List AV := [.int .i64 x.1, .str x.2.1, .int .i64 x.2.2]
def kq (x y : Tk) : Bool := x.1 == y.1 && x.2.1 == y.2.1
def alk : List Tk → List Tk → Bool
  | [], [] => true
  | x :: a, y :: b => kq x y && alk a b
  | _, _ => false

def wc (c : UInt8) : Bool := decide (1 ≤ clsI c.toNat) && decide (clsI c.toNat ≤ 3)
def wordN : List UInt8 → Nat
  | [] => 0
  | c :: s => if wc c then 1 + wordN s else 0
def signs : List UInt8 := [40, 41, 91, 93, 123, 125, 46, 44, 59, 61, 95]
def lxA : Nat → List Tk → Nat → List UInt8 → Option (List Tk) × Nat
  | 0, _, k, _ => (none, k)
  | _ + 1, out, k, [] => (some (out ++ [(3, [], (k : Int))]), 0)
  | n + 1, out, k, c :: r =>
    if clsI c.toNat = 4 then lxA n out (k + 1) r
    else if Lib.hasPrefix (c :: r) [47, 47] = true then
      if Lib.indexByte (c :: r) 10 < 0 then (some (out ++ [(3, [], ((k + (r.length + 1) : Nat) : Int))]), 0)
      else lxA n out (k + (Lib.indexByte (c :: r) 10).toNat) ((c :: r).drop (Lib.indexByte (c :: r) 10).toNat)
    else if clsI c.toNat = 1 then lxA n (out ++ [(1, (c :: r).take (wordN (c :: r)), (k : Int))]) (k + wordN (c :: r)) ((c :: r).drop (wordN (c :: r)))
    else if 0 ≤ Lib.indexByte signs c then lxA n (out ++ [(2, [c], (k : Int))]) (k + 1) r
    else (none, k)
def lexT (s : List UInt8) : Option (List Tk) × Nat := if s.length ≤ 65536 then lxA (s.length + 1) [] 0 s else (none, 65536)
def lexV (ft : Nat) (x : Option (List Tk) × Nat) : AV := match x.1 with
  | some l => .tup [.slice (l.map encK), .nilIface]
  | none => .tup [.slice [], .iface ft (.agg [.int .i64 1, .int .i64 x.2])]

section
variable {n k : Nat} {out : List Tk} {s : List UInt8}
end

def lnS (p : Nat × Nat) (c : UInt8) : Nat × Nat := if c = 10 then (p.1 + 1, 1) else (p.1, p.2 + 1)
def lnR (l : List UInt8) : Nat × Nat := l.foldl lnS (1, 1)
end Go.Pv
end

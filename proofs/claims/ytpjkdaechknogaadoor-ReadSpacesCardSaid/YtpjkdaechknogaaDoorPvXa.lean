import Derived.Test.YtpjkdaechknogaaDoorPvZ
import Derived.Lib.AtoiAll
import Derived.Lib.AtoiAllCases
import Derived.Lib.ItoaNum
import Derived.Below
import Derived.Lib.Bytealg
set_option linter.all false
section
/- Local names and their indexes. -/
namespace Go.Pv
open Go

def digB (c : UInt8) : Bool := decide (48 ≤ c.toNat) && decide (c.toNat ≤ 57)
def dg (c : UInt8) : Nat := c.toNat % 48
theorem dg_of {c : UInt8} {d : Nat} (h : c.toNat = 48 + d) (hd : d < 10) : dg c = d := by
  unfold dg
  rw [h, Nat.add_mod_left, Nat.mod_eq_of_lt (by omega)]
theorem dg_sub {c : UInt8} (h1 : 48 ≤ c.toNat) (h2 : c.toNat ≤ 57) : c.toNat - 48 = dg c := by
  obtain ⟨d, hd⟩ := Nat.le.dest h1
  rw [dg_of hd.symm (by omega), ← hd, Nat.add_sub_cancel_left]
def stepD (a : Nat) (c : UInt8) : Nat := a * 10 + dg c
def valD (a : Nat) (l : Str) : Nat := l.foldl stepD a
theorem valD_nil (a : Nat) : valD a [] = a := rfl
theorem valD_cons (a : Nat) (c : UInt8) (r : Str) : valD a (c :: r) = valD (stepD a c) r := rfl
theorem stepD_eq (a : Nat) (c : UInt8) : stepD a c = a * 10 + dg c := rfl
theorem stepD_of {a : Nat} {c : UInt8} {d : Nat} (h : c.toNat = 48 + d) (hd : d < 10) : stepD a c = a * 10 + d := by rw [stepD_eq, dg_of h hd]
abbrev decD : Nat → Str := Lib.decDigits
def locS (n : Int) : Str := if n < 0 then [] else 36 :: decD n.toNat
def locOf (s : Str) : Option Nat :=
  match s with
  | [] => none
  | c :: r => if c = 36 ∧ r ≠ [] ∧ r.all digB = true ∧ valD 0 r ≤ 2147483647 ∧ decD (valD 0 r) = r then some (valD 0 r) else none
def locI (s : Str) : Int := match locOf s with | some n => n | none => 0
def locR (s : Str) : Int := match locOf s with | some n => n | none => -1

theorem decD_small {n : Nat} (h : n < 10) : decD n = [UInt8.ofNat (48 + n)] := by unfold decD; rw [Lib.decDigits, dif_pos h]
theorem decD_big {n : Nat} (h : ¬ n < 10) : decD n = decD (n / 10) ++ [UInt8.ofNat (48 + n % 10)] := by unfold decD; rw [Lib.decDigits, dif_neg h]

theorem valD_app (a : Nat) (l m : Str) : valD a (l ++ m) = valD (valD a l) m := List.foldl_append
theorem ofNat_dig {d : Nat} (h : d < 10) : (UInt8.ofNat (48 + d)).toNat = 48 + d := by
  rw [UInt8.toNat_ofNat', Nat.mod_eq_of_lt (by omega)]
theorem decD_spec (n : Nat) : decD n ≠ [] ∧ (decD n).all digB = true ∧ valD 0 (decD n) = n := by
  induction n using Nat.strongRecOn with
  | _ n ih =>
    by_cases h : n < 10
    · rw [decD_small h]
      have hb := ofNat_dig h
      generalize UInt8.ofNat (48 + n) = b at hb ⊢
      refine ⟨by simp, ?_, ?_⟩
      · simp only [List.all_cons, List.all_nil, digB, hb, Bool.and_true, Bool.and_eq_true, decide_eq_true_eq]; omega
      · rw [valD_cons, valD_nil, stepD_of hb h, Nat.zero_mul, Nat.zero_add]
    · rw [decD_big h]
      obtain ⟨-, h2, h3⟩ := ih (n / 10) (by omega)
      have hb := ofNat_dig (show n % 10 < 10 by omega)
      generalize UInt8.ofNat (48 + n % 10) = b at hb ⊢
      generalize decD (n / 10) = l at h2 h3 ⊢
      refine ⟨by simp, ?_, ?_⟩
      · rw [List.all_append, h2]
        simp only [List.all_cons, List.all_nil, digB, hb, Bool.and_true, Bool.true_and, Bool.and_eq_true, decide_eq_true_eq]; omega
      · rw [valD_app, h3, valD_cons, valD_nil, stepD_of hb (Nat.mod_lt n (by decide))]
        exact Nat.div_add_mod' n 10
theorem decD_len : ∀ (k n : Nat), n < 10 ^ (k + 1) → (decD n).length ≤ k + 1
  | 0, n, h => by rw [decD_small (by simpa using h)]; simp
  | k + 1, n, h => by
    by_cases h1 : n < 10
    · rw [decD_small h1]; simp
    · rw [decD_big h1]
      have := decD_len k (n / 10) (Nat.div_lt_of_lt_mul (by rw [Nat.pow_succ] at h; omega))
      simp; omega

theorem locOf_dec {n : Nat} (h : n ≤ 2147483647) : locOf (36 :: decD n) = some n := by
  obtain ⟨h1, h2, h3⟩ := decD_spec n
  simp only [locOf, h1, h2, h3, ne_eq, not_false_eq_true, true_and, h, and_self, if_true]
theorem locOf_some {s : Str} {n : Nat} (h : locOf s = some n) : s = 36 :: decD n ∧ n ≤ 2147483647 := by
  cases s with
  | nil => cases h
  | cons c r =>
    simp only [locOf] at h
    split at h
    · rename_i hc
      injection h with h
      subst h
      exact ⟨by rw [hc.1, hc.2.2.2.2], hc.2.2.2.1⟩
    · cases h
theorem locS_nat (n : Nat) : locS n = 36 :: decD n := by unfold locS; rw [if_neg (by omega)]; rfl
theorem locOf_locS {s : Str} {n : Int} (h : locS n = s) (hs : s ≠ []) (hn : n ≤ 2147483647) : locOf s = some n.toNat ∧ 0 ≤ n := by
  unfold locS at h
  split at h
  · exact absurd h.symm hs
  · rw [← h]; exact ⟨locOf_dec (by omega), by omega⟩

theorem stepD_le (a : Nat) (c : UInt8) : a ≤ stepD a c := by
  rw [stepD_eq]; exact Nat.le_trans (Nat.le_mul_of_pos_right a (by decide)) (Nat.le_add_right _ _)
theorem valD_le (a : Nat) (l : Str) : a ≤ valD a l := by
  induction l generalizing a with
  | nil => exact Nat.le_refl _
  | cons c l ih => rw [valD_cons]; exact Nat.le_trans (stepD_le a c) (ih _)
theorem parse_val (l : Str) : ∀ a : Nat, l.all digB = true → valD a l < 9223372036854775808 → Lib.parseUint10 a l = .ok (valD a l) := by
  induction l with
  | nil => intro a _ _; rfl
  | cons c l ih =>
    intro a h hv
    simp only [List.all_cons, Bool.and_eq_true, digB, decide_eq_true_eq] at h
    rw [valD_cons] at hv ⊢
    have h1 := valD_le (stepD a c) l
    have h3 : a * 10 ≤ stepD a c := Nat.le_add_right _ _
    rw [Lib.parseUint10, if_pos h.1, dg_sub h.1.1 h.1.2, ← stepD_eq]
    generalize stepD a c = z at *
    rw [if_neg (by omega), if_neg (by omega)]
    exact ih _ h.2 hv
theorem atoi_plain {l : Str} {n : Nat} (h1 : l ≠ []) (h2 : l.all digB = true) (h3 : valD 0 l = n) (h : n ≤ 2147483647) : Lib.atoiAll l = .ok (n : Int) := by
  have hp : Lib.parseMag l = .ok n := by
    unfold Lib.parseMag
    rw [if_neg h1, parse_val l 0 h2 (by rw [h3]; omega), h3]
  cases l with
  | nil => exact absurd rfl h1
  | cons c r =>
    have hc : digB c = true := by simp only [List.all_cons, Bool.and_eq_true] at h2; exact h2.1
    simp only [digB, Bool.and_eq_true, decide_eq_true_eq] at hc
    obtain ⟨g1, g2⟩ := hc
    clear h2 h3
    have e1 : c.toNat ≠ 43 := by omega
    have e2 : c.toNat ≠ 45 := by omega
    rw [Lib.atoiAll_plain c r e1 e2, hp]
    have e3 : ¬ 9223372036854775808 ≤ n := by omega
    simp only [Lib.signless]
    rw [if_neg e3]
theorem atoi_dec {n : Nat} (h : n ≤ 2147483647) : Lib.atoiAll (decD n) = .ok (n : Int) :=
  let ⟨h1, h2, h3⟩ := decD_spec n
  atoi_plain h1 h2 h3 h

/-- What strconv.Atoi hands back; T: the error's type. -/
def atoiAV (T : Nat) (l : Str) : AV :=
  match Lib.atoiAll l with
  | .ok v => .tup [.int .i64 v, .nilIface]
  | .range => .tup [.int .i64 (Lib.atoiSat l), .iface T (.ro [])]
  | _ => .tup [.int .i64 0, .iface T (.ro [])]
theorem atoiAV_cases (T : Nat) (l : Str) : (∃ v, Lib.atoiAll l = .ok v ∧ atoiAV T l = .tup [.int .i64 v, .nilIface] ∧ -9223372036854775808 ≤ v ∧ v ≤ 9223372036854775807) ∨ ((∀ v, Lib.atoiAll l ≠ .ok v) ∧ ∃ v, atoiAV T l = .tup [.int .i64 v, .iface T (.ro [])]) := by
  unfold atoiAV
  cases h : Lib.atoiAll l with
  | ok v => exact .inl ⟨v, rfl, rfl, Lib.atoiAll_bounds h⟩
  | range => exact .inr ⟨fun v hv => (by cases hv), _, rfl⟩
  | _ => exact .inr ⟨fun v hv => (by cases hv), _, rfl⟩

theorem locOf_none_head {c : UInt8} {r : Str} (h : c ≠ 36) : locOf (c :: r) = none := by simp [locOf, h]
theorem locOf_none_atoi {r : Str} (h : ∀ v, Lib.atoiAll r ≠ .ok v) : locOf (36 :: r) = none := by
  cases hl : locOf (36 :: r) with
  | none => rfl
  | some n =>
    obtain ⟨h1, h2⟩ := locOf_some hl
    injection h1 with _ h1
    exact absurd (by rw [h1]; exact atoi_dec h2) (h n)
theorem locOf_none_val {r : Str} {v : Int} (hv : Lib.atoiAll r = .ok v) (h : ¬ (v ≤ 2147483647 ∧ locS v = 36 :: r)) : locOf (36 :: r) = none := by
  cases hl : locOf (36 :: r) with
  | none => rfl
  | some n =>
    obtain ⟨h1, h2⟩ := locOf_some hl
    injection h1 with _ h1
    have h3 := atoi_dec h2
    rw [← h1, hv] at h3
    injection h3 with h3
    subst h3
    exact absurd ⟨by omega, by rw [locS_nat, ← h1]⟩ h
theorem clsI_dig (b : UInt8) : (clsI (b.toNat : Int) = 2) ↔ digB b = true := by
  simp only [digB, Bool.and_eq_true, decide_eq_true_eq]
  unfold clsI
  repeat (first | omega | split)
theorem notName_loc (n : Int) : isName (locS n) = false := by
  unfold locS
  split
  · rfl
  · simp only [isName]
    have : clsI ((36 : UInt8).toNat : Int) = 0 := by decide
    rw [this]; rfl
theorem itoa_decD {n : Int} (h : 0 ≤ n) : Lib.itoa n = decD n.toNat := by unfold Lib.itoa; rw [if_neg (by omega)]
theorem pow19 {n : Nat} (h : n ≤ 9223372036854775807) : n < 10 ^ (18 + 1) := by
  have e : (10 : Nat) ^ (18 + 1) = 10000000000000000000 := by decide
  rw [e]; omega
theorem itoa_len {n : Int} (h0 : 0 ≤ n) (h1 : n ≤ 9223372036854775807) : (Lib.itoa n).length ≤ 19 := by
  rw [itoa_decD h0]
  have e : (10 : Nat) ^ (18 + 1) = 10000000000000000000 := by decide
  exact decD_len 18 n.toNat (by rw [e]; omega)
theorem hasPrefix_not {c : UInt8} {r : Str} (h : c ≠ 36) : Lib.hasPrefix (c :: r) [36] = false := by
  have h1 : ((36 : UInt8) == c) = false := by simpa using Ne.symm h
  simp [Lib.hasPrefix, List.isPrefixOf, h1]
theorem locR_short {s : Str} (h : s.length < 2) : locR s = -1 := by
  unfold locR
  cases hl : locOf s with
  | none => rfl
  | some n =>
    obtain ⟨h1, -⟩ := locOf_some hl
    obtain ⟨h2, -, -⟩ := decD_spec n
    have h3 := congrArg List.length h1
    have h4 := List.length_pos_iff.2 h2
    simp only [List.length_cons] at h3
    omega
theorem locR_long {s : Str} (h : 11 < s.length) : locR s = -1 := by
  unfold locR
  cases hl : locOf s with
  | none => rfl
  | some n =>
    obtain ⟨h1, h2⟩ := locOf_some hl
    have e : (10 : Nat) ^ (9 + 1) = 10000000000 := by decide
    have h4 := decD_len 9 n (by rw [e]; omega)
    have h3 := congrArg List.length h1
    simp only [List.length_cons] at h3
    omega
theorem locR_bad {r : Str} (h : r.all digB = false) : locR (36 :: r) = -1 := by
  unfold locR
  cases hl : locOf (36 :: r) with
  | none => rfl
  | some n =>
    obtain ⟨h1, -⟩ := locOf_some hl
    injection h1 with _ h1
    rw [h1, (decD_spec n).2.1] at h; cases h
theorem locR_val {r : Str} (h : ¬ valD 0 r ≤ 2147483647) : locR (36 :: r) = -1 := by
  unfold locR
  cases hl : locOf (36 :: r) with
  | none => rfl
  | some n =>
    obtain ⟨h1, h2⟩ := locOf_some hl
    injection h1 with _ h1
    rw [h1, (decD_spec n).2.2] at h
    exact absurd h2 h
theorem locR_no {r : Str} (h : locS (valD 0 r : Nat) ≠ 36 :: r) : locR (36 :: r) = -1 := by
  unfold locR
  cases hl : locOf (36 :: r) with
  | none => rfl
  | some n =>
    obtain ⟨h1, h2⟩ := locOf_some hl
    injection h1 with _ h1
    rw [h1, (decD_spec n).2.2, locS_nat] at h
    exact absurd rfl h
theorem stepD_int {c : UInt8} (m : Nat) (h1 : 48 ≤ c.toNat) (h2 : c.toNat ≤ 57) : (10 : Int) * m + ((c.toNat : Int) - 48) = (stepD m c : Nat) := by
  obtain ⟨d, hd⟩ := Nat.le.dest h1
  rw [stepD_of hd.symm (by omega), ← hd]
  omega
theorem step_lt {c : UInt8} {m k : Nat} (h1 : 48 ≤ c.toNat) (h2 : c.toNat ≤ 57) (hm : m < 10 ^ k) : stepD m c < 10 ^ (k + 1) := by
  obtain ⟨d, hd⟩ := Nat.le.dest h1
  rw [stepD_of hd.symm (by omega), Nat.pow_succ]
  generalize 10 ^ k = z at *
  omega
theorem decD_small2 {n : Nat} (h : n < 10) : decD n = [48 + UInt8.ofNat n] := by rw [decD_small h]; simp
theorem decD_big2 {n : Nat} (h : ¬ n < 10) : decD n = decD (n / 10) ++ [48 + UInt8.ofNat (n % 10)] := by rw [decD_big h]; simp
theorem aw12 : locOf [36, 49, 50] = some 12 := by
  have h : decD 12 = [49, 50] := by rw [decD_big2 (by decide), decD_small2 (by decide)]; rfl
  rw [← h]; exact locOf_dec (by decide)
theorem aw3 : locS 3 = [36, 51] := by
  have h : decD 3 = [51] := by rw [decD_small2 (by decide)]; rfl
  rw [show (3 : Int) = ((3 : Nat) : Int) from rfl, locS_nat, h]
theorem locOf_big {n : Nat} (h : ¬ n ≤ 2147483647) : locOf (36 :: decD n) = none := by
  cases hl : locOf (36 :: decD n) with
  | none => rfl
  | some m =>
    obtain ⟨h1, h2⟩ := locOf_some hl
    injection h1 with _ h1
    have h3 := (decD_spec n).2.2
    rw [h1, (decD_spec m).2.2] at h3
    omega
theorem locS_len {n : Int} (h : n ≤ 9223372036854775807) : (locS n).length ≤ 20 := by
  unfold locS
  split
  · simp
  · have := decD_len 18 n.toNat (pow19 (by omega))
    simp only [List.length_cons]; omega
theorem cmpS_beq (a b : Str) : (cmpS a b == 0) = (a == b) := by
  by_cases h : a = b
  · rw [(cmpS_eq a b).2 h, h]; simp
  · rw [beq_eq_false_iff_ne.2 (fun e => h ((cmpS_eq a b).1 e)), beq_eq_false_iff_ne.2 h]
/-- The table of powers of ten. -/
def pow10A : List AV := Lib.pow10Tab.map (AV.int .u64)

end Go.Pv
end

section
/- Tokens: their cells; which are alike. -/
namespace Go.Pv
open Go

/-- A token: its kind, its text, where it stands. -/
abbrev Tk := Int × List UInt8 × Int
def encK (x : Tk) : List AV := [.int .i64 x.1, .str x.2.1, .int .i64 x.2.2]
theorem encK_cells (x : Tk) : (encK x).length = 3 ∧ (encK x).all AV.one = true := ⟨rfl, rfl⟩
theorem rows_takeK (k : Nat) (a : List Tk) : Rows 3 ((a.map encK).take k) := by rw [← List.map_take]; exact Rows_map _ _ encK_cells _
theorem take_encK (k : Nat) (a : List Tk) (h : k < a.length) : (a.take (k + 1)).map encK = (a.map encK).take k ++ [[.int .i64 a[k].1, .str a[k].2.1, .int .i64 a[k].2.2]] := by
  rw [List.take_succ_eq_append_getElem h, List.map_append, List.map_take]
  rfl
def kq (x y : Tk) : Bool := x.1 == y.1 && x.2.1 == y.2.1
def alk : List Tk → List Tk → Bool
  | [], [] => true
  | x :: a, y :: b => kq x y && alk a b
  | _, _ => false

theorem alk_cons (x y : Tk) (a b : List Tk) : alk (x :: a) (y :: b) = (kq x y && alk a b) := rfl
theorem alk_nil : alk [] [] = true := rfl
theorem kq_refl (x : Tk) : kq x x = true := by simp [kq]
theorem alk_refl : ∀ a : List Tk, alk a a = true
  | [] => rfl
  | x :: a => by rw [alk_cons, kq_refl, alk_refl a]; rfl
theorem alk_len : ∀ {a b : List Tk}, a.length ≠ b.length → alk a b = false
  | [], [], h => absurd rfl h
  | [], _ :: _, _ => rfl
  | _ :: _, [], _ => rfl
  | x :: a, y :: b, h => by
    rw [alk_cons, alk_len (a := a) (b := b) (fun he => h (by simp [he])), Bool.and_false]

/-! ### Library functions of two arguments that write nothing -/
theorem valid_two {P : Program} {gl : Gl} {f : FuncId} {x y r : AV} {vx vy v : Value} (hok : fnOk P f = true) (hx : ∀ lim h u, Rep lim h u x → u = vx) (hy : ∀ lim h u, Rep lim h u y → u = vy) (hr : ∀ lim h, Rep lim h v r)
    (h : ∀ w, Calls P f #[vx, vy] w fun e w' => e = .returned v ∧ w' = w) : Valid P gl f [x, y] r := by
  refine valid_calls hok fun lim w cargs hargs => ?_
  obtain ⟨u, u', rfl⟩ : ∃ u u', cargs = [u, u'] := by
    have := hargs.1
    match cargs, this with
    | [v, u], _ => exact ⟨v, u, rfl⟩
  obtain rfl := hx _ _ _ hargs.head
  obtain rfl := hy _ _ _ hargs.tail.head
  refine (h w).mono fun e w' => ?_
  rintro ⟨rfl, rfl⟩
  exact ⟨_, rfl, RowKit.Below.refl _ _, fun lim' _ => hr lim' _⟩

/-! ### Words -/
def wc (c : UInt8) : Bool := decide (1 ≤ clsI c.toNat) && decide (clsI c.toNat ≤ 3)
def wordN : List UInt8 → Nat
  | [] => 0
  | c :: s => if wc c then 1 + wordN s else 0
theorem wordN_cons (c : UInt8) (s : List UInt8) : wordN (c :: s) = if wc c then 1 + wordN s else 0 := rfl
theorem wordN_le : ∀ s : List UInt8, wordN s ≤ s.length
  | [] => Nat.le_refl _
  | c :: s => by
    rw [wordN_cons]
    have := wordN_le s
    split <;> simp <;> omega

theorem indexByte_lt : ∀ (l : List UInt8) (c : UInt8), Lib.indexByte l c < l.length ∨ l = []
  | [], _ => .inr rfl
  | b :: l, c => by
    left
    unfold Lib.indexByte
    rcases indexByte_lt l c with h | rfl
    · split
      · simp
      · split <;> simp <;> omega
    · split <;> simp [Lib.indexByte]
theorem indexByte_pos (c : UInt8) (r : List UInt8) (h : Lib.hasPrefix (c :: r) [47, 47] = true) : Lib.indexByte (c :: r) 10 ≠ 0 := by
  have hc : c = 47 := by
    simp only [Lib.hasPrefix, List.isPrefixOf, Bool.and_eq_true, beq_iff_eq] at h
    exact h.1.symm
  subst hc
  have := Lib.indexByte_ge r 10
  unfold Lib.indexByte
  rw [if_neg (by decide)]
  split <;> rename_i h1
  · decide
  · simp at h1; omega

/-! ### The lexer -/
def signs : List UInt8 := [40, 41, 91, 93, 123, 125, 46, 44, 59, 61, 95]
/-- The tokens behind those of out, at the place k; none and a place: a byte that begins no token. -/
def lxA : Nat → List Tk → Nat → List UInt8 → Option (List Tk) × Nat
  | 0, _, k, _ => (none, k)
  | _ + 1, out, k, [] => (some (out ++ [(3, [], (k : Int))]), 0)
  | n + 1, out, k, c :: r =>
    if clsI c.toNat = 4 then lxA n out (k + 1) r
    else if Lib.hasPrefix (c :: r) [47, 47] = true then
      if Lib.indexByte (c :: r) 10 < 0 then (some (out ++ [(3, [], ((k + (r.length + 1) : Nat) : Int))]), 0)
      else lxA n out (k + (Lib.indexByte (c :: r) 10).toNat) ((c :: r).drop (Lib.indexByte (c :: r) 10).toNat)
    else if clsI c.toNat = 1 then lxA n (out ++ [(1, (c :: r).take (wordN (c :: r)), (k : Int))]) (k + wordN (c :: r)) ((c :: r).drop (wordN (c :: r)))
    else if 0 ≤ Lib.indexByte signs c then lxA n (out ++ [(2, [c], (k : Int))]) (k + 1) r
    else (none, k)
def lexT (s : List UInt8) : Option (List Tk) × Nat := if s.length ≤ 65536 then lxA (s.length + 1) [] 0 s else (none, 65536)
def lexV (ft : Nat) (x : Option (List Tk) × Nat) : AV := match x.1 with
  | some l => .tup [.slice (l.map encK), .nilIface]
  | none => .tup [.slice [], .iface ft (.agg [.int .i64 1, .int .i64 x.2])]

section
variable {n k : Nat} {out : List Tk} {s : List UInt8}
theorem lxA_sp (h : k < s.length) (h1 : clsI s[k].toNat = 4) : lxA (n + 1) out k (s.drop k) = lxA n out (k + 1) (s.drop (k + 1)) := by
  rw [List.drop_eq_getElem_cons h, lxA, if_pos h1]
theorem lxA_com0 (h : k < s.length) (h1 : ¬ clsI s[k].toNat = 4) (h2 : Lib.hasPrefix (s.drop k) [47, 47] = true) (h3 : Lib.indexByte (s.drop k) 10 < 0) : lxA (n + 1) out k (s.drop k) = (some (out ++ [(3, [], (s.length : Int))]), 0) := by
  have hl : (s.drop (k + 1)).length = s.length - (k + 1) := List.length_drop
  rw [List.drop_eq_getElem_cons h] at h2 h3 ⊢
  rw [lxA, if_neg h1, if_pos h2, if_pos h3, hl, show k + (s.length - (k + 1) + 1) = s.length by omega]
theorem lxA_com (h : k < s.length) (h1 : ¬ clsI s[k].toNat = 4) (h2 : Lib.hasPrefix (s.drop k) [47, 47] = true) (h3 : 0 ≤ Lib.indexByte (s.drop k) 10) : lxA (n + 1) out k (s.drop k) = lxA n out (k + (Lib.indexByte (s.drop k) 10).toNat) (s.drop (k + (Lib.indexByte (s.drop k) 10).toNat)) := by
  rw [← List.drop_drop]
  rw [List.drop_eq_getElem_cons h] at h2 h3 ⊢
  rw [lxA, if_neg h1, if_pos h2, if_neg (by omega)]
theorem lxA_word (h : k < s.length) (h1 : ¬ clsI s[k].toNat = 4) (h2 : Lib.hasPrefix (s.drop k) [47, 47] = false) (h3 : clsI s[k].toNat = 1) : lxA (n + 1) out k (s.drop k) = lxA n (out ++ [(1, (s.drop k).take (wordN (s.drop k)), (k : Int))]) (k + wordN (s.drop k)) (s.drop (k + wordN (s.drop k))) := by
  rw [← List.drop_drop]
  rw [List.drop_eq_getElem_cons h] at h2 ⊢
  rw [lxA, if_neg h1, if_neg (by rw [h2]; decide), if_pos h3]
theorem lxA_sign (h : k < s.length) (h1 : ¬ clsI s[k].toNat = 4) (h2 : Lib.hasPrefix (s.drop k) [47, 47] = false) (h3 : ¬ clsI s[k].toNat = 1) (h4 : 0 ≤ Lib.indexByte signs s[k]) : lxA (n + 1) out k (s.drop k) = lxA n (out ++ [(2, [s[k]], (k : Int))]) (k + 1) (s.drop (k + 1)) := by
  rw [List.drop_eq_getElem_cons h] at h2 ⊢
  rw [lxA, if_neg h1, if_neg (by rw [h2]; decide), if_neg h3, if_pos h4]
theorem lxA_bad (h : k < s.length) (h1 : ¬ clsI s[k].toNat = 4) (h2 : Lib.hasPrefix (s.drop k) [47, 47] = false) (h3 : ¬ clsI s[k].toNat = 1) (h4 : Lib.indexByte signs s[k] < 0) : lxA (n + 1) out k (s.drop k) = (none, k) := by
  rw [List.drop_eq_getElem_cons h] at h2 ⊢
  rw [lxA, if_neg h1, if_neg (by rw [h2]; decide), if_neg h3, if_neg (by omega)]
theorem lxA_end (hk : k ≤ s.length) (h : s.length ≤ k) : lxA (n + 1) out k (s.drop k) = (some (out ++ [(3, [], (s.length : Int))]), 0) := by
  rw [List.drop_eq_nil_of_le h, lxA, show k = s.length by omega]
theorem wordN_pos (h : k < s.length) (h3 : clsI s[k].toNat = 1) : 0 < wordN (s.drop k) := by
  rw [List.drop_eq_getElem_cons h, wordN_cons, if_pos (by simp [wc, h3])]; omega
theorem com_pos (h : k < s.length) (h2 : Lib.hasPrefix (s.drop k) [47, 47] = true) (h3 : 0 ≤ Lib.indexByte (s.drop k) 10) : 0 < (Lib.indexByte (s.drop k) 10).toNat := by
  rw [List.drop_eq_getElem_cons h] at h2 h3 ⊢
  have := indexByte_pos _ _ h2
  omega
end

theorem drop_take_one {s : List UInt8} {k : Nat} (h : k < s.length) : (s.take (k + 1)).drop k = [s[k]] := by
  rw [List.drop_take, Nat.add_sub_cancel_left, List.drop_eq_getElem_cons h]; rfl
theorem drop_take_add (s : List UInt8) (k w : Nat) : (s.take (k + w)).drop k = (s.drop k).take w := by
  rw [List.drop_take, Nat.add_sub_cancel_left]
theorem toNat_add (a b : Nat) : ((a : Int) + (b : Int)).toNat = a + b := by omega

/-! ### Lines -/
def lnS (p : Nat × Nat) (c : UInt8) : Nat × Nat := if c = 10 then (p.1 + 1, 1) else (p.1, p.2 + 1)
def lnR (l : List UInt8) : Nat × Nat := l.foldl lnS (1, 1)
theorem lnR_take {s : List UInt8} {k : Nat} (h : k < s.length) : lnR (s.take (k + 1)) = lnS (lnR (s.take k)) s[k] := by
  unfold lnR
  rw [List.take_succ_eq_append_getElem h, List.foldl_append]; rfl
theorem lnR_le (l : List UInt8) : (lnR l).1 ≤ 1 + l.length ∧ (lnR l).2 ≤ 1 + l.length := by
  unfold lnR
  have : ∀ (l : List UInt8) (p : Nat × Nat), (l.foldl lnS p).1 ≤ p.1 + l.length ∧ (l.foldl lnS p).2 ≤ max p.2 1 + l.length := by
    intro l
    induction l with
    | nil => intro p; simp; omega
    | cons c l ih =>
      intro p
      have := ih (lnS p c)
      rw [List.foldl_cons]
      have h1 : (lnS p c).1 ≤ p.1 + 1 ∧ (lnS p c).2 ≤ max p.2 1 + 1 := by unfold lnS; split <;> simp <;> omega
      simp only [List.length_cons]
      omega
  have := this l (1, 1)
  simp at this
  omega

end Go.Pv
end

section
/- Listed variables that hold a type's handle; lists of tokens as arguments. -/
namespace Go.Pv
open Go Go.ChangeShapes Go.WideShapes Go.RowKit

theorem laidMetH_split {P : Program} {l : List (String × DataW Unit)} {w : World} (h : laidMetH P l w) : laidMet P (l.filter fun x => x.2.handleName?.isNone) w ∧ handlesMet P (l.filter fun x => x.2.handleName?.isSome) w := by
  unfold laidMetH at h
  split at h
  · rename_i hf
    rw [hf]
    refine ⟨?_, fun x hx => by cases hx⟩
    have e : (l.filter fun x => x.2.handleName?.isNone) = l := by
      rw [List.filter_eq_self]
      intro x hx
      cases hn : x.2.handleName? with
      | none => rfl
      | some s =>
        have : x ∈ l.filter fun x => x.2.handleName?.isSome := List.mem_filter.2 ⟨hx, by rw [hn]; rfl⟩
        rw [hf] at this; cases this
    rw [e]; exact h
  · rename_i hf
    rw [hf]; exact h
/-- A type's handle in a variable. -/
theorem glAt_handle {P : Program} {n : String} {w : World} {g rt ty sz gs : Nat} {nm : List UInt8} {d : DataW Unit} (hg : P.globalNamed n = some g) (hd : d.handleName? = some nm) (hdf : d.funcsIn? = none)
    (hrt : (P.cutTypes.find? (·.1 == "internal/reflectlite.rtype")).map (·.2) = some rt) (hsz : P.types.size = sz) (hone : ((List.range sz).filter fun t => P.rowNamed t nm) = [ty]) (hh : typeHandle P ty = .pointer (some ⟨gs, ty, none⟩))
    {l : List (String × DataW Unit)} (hl : handlesMet P l w) (hm : (n, d) ∈ l) : GlAt allL w.heap g [.iface rt (.agg [.gp gs ty])] := by
  have h := hl _ hm
  simp only [hdf] at h
  obtain ⟨name, u, ty', e1, e2, e3, e4, e5⟩ := h
  obtain rfl := Option.some.inj (hd.symm.trans e1)
  obtain rfl := Option.some.inj (hrt.symm.trans e2)
  have hmem : ty' ∈ (List.range sz).filter fun t => P.rowNamed t nm := List.mem_filter.2 ⟨List.mem_range.2 (by rw [← hsz]; exact e3), e4⟩
  rw [hone] at hmem
  obtain rfl := List.mem_singleton.1 hmem
  rw [hh] at e5
  have hcell : ∀ i, cellAt w.heap g i = (#[Value.iface rt (.agg #[.pointer (some ⟨gs, ty', none⟩)])] : Array Value)[i]? := fun i => by
    have := World.var?_cell hg e5 i
    rwa [cell?_eq] at this
  refine ⟨Rep.ro_iff.2 ⟨g, 0, [.iface rt (.agg #[.pointer (some ⟨gs, ty', none⟩)])], rfl, .cons (.iface _ _ _ (Rep.agg_iff.2 ⟨_, rfl, .cons (.gp _ _) (.nil _ _)⟩)) (.nil _ _), fun j u hu => ⟨allL_ok _ _, ?_⟩⟩, fun _ => ⟨allL_ok _ _, ?_⟩⟩
  · rw [Nat.zero_add, hcell]; simpa using hu
  · rw [hcell]; rfl

theorem tok_of {H : Type} {P : Program} {S I T : Nat} (hS : P.underlying S = some .string) (hI : P.underlying I = some (.int .i64)) (hF : ftypes P T = some [I, S, I]) {n : Nat} {d : DataW H} (h : typed P n T d) (hw : (d.weights P T).all (· ≤ reachBytes) = true) : ∃ t : Tk, avOf d = encK t ∧ True := by
  obtain ⟨m, ps, rfl, rfl, hps, hwe⟩ := typed_struct hF h
  rw [hwe] at hw
  match ps, hps with
  | [a, b, c], ⟨ha, hb', hc, _⟩ =>
    obtain ⟨w1, hw⟩ := weightsEach_cons hw
    obtain ⟨w2, hw⟩ := weightsEach_cons hw
    obtain ⟨s, hs1, hs2⟩ := str_of hS hb' w2
    obtain ⟨p, rfl, -⟩ := typed_int hI ha
    obtain ⟨q, rfl, -⟩ := typed_int hI hc
    exact ⟨(p, s, q), by simp [avOf, avFlat, hs1, encK], trivial⟩
theorem toks_of {H : Type} {P : Program} {S I L T : Nat} (hS : P.underlying S = some .string) (hI : P.underlying I = some (.int .i64)) (hL : P.underlying L = some (.slice T)) (hF : ftypes P T = some [I, S, I]) (hb : 0 < P.bytesOf T) (n : Nat) (d : DataW H) (h : typed P n L d) (hw : (d.weights P L).all (· ≤ reachBytes) = true) : ∃ l : List Tk, avOf d = [.slice (l.map encK)] ∧ l.length ≤ 140737488355328 := by
  obtain ⟨q, rfl, hq⟩ := typed_slice hL h
  rcases hq with rfl | ⟨es, sp, rfl, hq⟩
  · exact ⟨[], rfl, by simp⟩
  · obtain ⟨g1, g2⟩ := weights_slice hL hb hw
    obtain ⟨l, e1, e2, -⟩ := rows_of (enc := encK) (good := fun _ => True) es (fun x hx => tok_of hS hI hF (hq x hx) (g2 x hx))
    exact ⟨l, by simp [avOf, e1], by omega⟩
end Go.Pv
end

import Derived.Test.YtjkabaejabibnaaDoorPvY
import Derived.Lib.AtoiAll
import Derived.Lib.AtoiAllCases
import Derived.Lib.ItoaNum
set_option linter.all false
section
/- The texts of right types tell them apart. -/
namespace Go.Pv
open Go

theorem isName_all {s : Str} (h : isName s = true) : s.all goodB = true := by
  unfold isName at h
  split at h
  · cases h
  · simp only [Bool.and_eq_true] at h; exact h.1.2

/-- What follows a name. -/
def endB (x : Str) : Prop := x = [] ∨ ∃ c r, x = c :: r ∧ goodB c = false

theorem span_good : ∀ (n m a b : Str), n.all goodB = true → m.all goodB = true → endB a → endB b → n ++ a = m ++ b → n = m ∧ a = b
  | [], [], a, b, _, _, _, _, h => ⟨rfl, h⟩
  | [], y :: m, a, b, _, hm, ha, _, h => by
    simp only [List.all_cons, Bool.and_eq_true] at hm
    rcases ha with rfl | ⟨c, r, rfl, hc⟩
    · simp at h
    · simp only [List.nil_append, List.cons_append, List.cons.injEq] at h
      rw [h.1, hm.1] at hc; cases hc
  | x :: n, [], a, b, hn, _, _, hb, h => by
    simp only [List.all_cons, Bool.and_eq_true] at hn
    rcases hb with rfl | ⟨c, r, rfl, hc⟩
    · simp at h
    · simp only [List.nil_append, List.cons_append, List.cons.injEq] at h
      rw [← h.1, hn.1] at hc; cases hc
  | x :: n, y :: m, a, b, hn, hm, ha, hb, h => by
    simp only [List.all_cons, Bool.and_eq_true] at hn hm
    simp only [List.cons_append, List.cons.injEq] at h
    obtain ⟨h1, h2⟩ := span_good n m a b hn.2 hm.2 ha hb h.2
    exact ⟨by rw [h.1, h1], h2⟩

/-- What follows a type. -/
def endT (x : Str) : Prop := x = [] ∨ ∃ c r, x = c :: r ∧ (c = 93 ∨ c = 44)
theorem endT_B {x : Str} (h : endT x) : endB x := by
  rcases h with h | ⟨c, r, h, hc⟩
  · exact .inl h
  · refine .inr ⟨c, r, h, ?_⟩
    rcases hc with rfl | rfl <;> decide

/-- The further elements of a list. -/
def tailT (l : List Ty) : Str := Lib.joinTail [44, 32] (txts l)
theorem tailT_nil : tailT [] = [] := rfl
theorem tailT_cons (t : Ty) (l : List Ty) : tailT (t :: l) = 44 :: 32 :: (txt t ++ tailT l) := by simp [tailT, Lib.joinTail, txts]
theorem txt_nil (n : Str) (p : Int) : txt (.mk n [] p) = n := by simp [txt]
theorem txt_cons (n : Str) (t : Ty) (l : List Ty) (p : Int) : txt (.mk n (t :: l) p) = n ++ (91 :: (txt t ++ (tailT l ++ [93]))) := by
  simp [txt, txts, Lib.join_cons, tailT, List.append_assoc]
theorem right_name {n : Str} {ts : List Ty} {p : Int} (h : rightT (.mk n ts p) = true) : isName n = true ∧ ∀ t ∈ ts, rightT t = true := by
  simp only [rightT, lst, List.all_cons, Bool.and_eq_true] at h
  refine ⟨h.1, fun t ht => ?_⟩
  rw [rightT, List.all_eq_true]
  intro s hs
  exact List.all_eq_true.1 h.2 s (by rw [lsts_flat]; exact List.mem_flatten.2 ⟨lst t, List.mem_map.2 ⟨t, ht, rfl⟩, hs⟩)

theorem endT_tail (l : List Ty) (x : Str) : endT (tailT l ++ 93 :: x) := by
  cases l with
  | nil => exact .inr ⟨93, x, rfl, .inl rfl⟩
  | cons t l => rw [tailT_cons]; exact .inr ⟨44, _, rfl, .inr rfl⟩

theorem txt_inj : ∀ t u : Ty, rightT t = true → rightT u = true → ∀ x y : Str, endT x → endT y → txt t ++ x = txt u ++ y → cmpT t u = 0 ∧ x = y := by
  intro t
  induction t using Ty.ind with
  | h n ts p ih =>
    intro u ht hu x y hx hy he
    obtain ⟨m, us, q⟩ := u
    obtain ⟨hn, hts⟩ := right_name ht
    obtain ⟨hm, hus⟩ := right_name hu
    have key : ∀ l : List Ty, (∀ t ∈ l, ∀ u : Ty, rightT t = true → rightT u = true → ∀ x y : Str, endT x → endT y → txt t ++ x = txt u ++ y → cmpT t u = 0 ∧ x = y) →
        ∀ k : List Ty, (∀ t ∈ l, rightT t = true) → (∀ t ∈ k, rightT t = true) → ∀ x y : Str, tailT l ++ 93 :: x = tailT k ++ 93 :: y → cmpTs l k = 0 ∧ x = y := by
      intro l
      induction l with
      | nil =>
        intro _ k _ _ x y h
        cases k with
        | nil => simp only [tailT_nil, List.nil_append, List.cons.injEq, true_and] at h; exact ⟨rfl, h⟩
        | cons u k => simp [tailT_nil, tailT_cons] at h
      | cons t l ihl =>
        intro h k hl hk x y he
        cases k with
        | nil => simp [tailT_nil, tailT_cons] at he
        | cons u k =>
          rw [tailT_cons, tailT_cons] at he
          simp only [List.cons_append, List.cons.injEq, true_and, List.append_assoc] at he
          obtain ⟨h1, h2⟩ := h t (by simp) u (hl t (by simp)) (hk u (by simp)) _ _ (endT_tail l x) (endT_tail k y) he
          obtain ⟨h3, h4⟩ := ihl (fun z hz => h z (by simp [hz])) k (fun z hz => hl z (by simp [hz])) (fun z hz => hk z (by simp [hz])) x y h2
          rw [cmpTs_cons, if_pos h1]
          exact ⟨h3, h4⟩
    have hb : ∀ (l : List Ty) (z : Str), endB (91 :: z) := fun _ z => .inr ⟨91, z, rfl, by decide⟩
    cases ts with
    | nil =>
      rw [txt_nil] at he
      cases us with
      | nil =>
        rw [txt_nil] at he
        obtain ⟨h1, h2⟩ := span_good n m x y (isName_all hn) (isName_all hm) (endT_B hx) (endT_B hy) he
        refine ⟨?_, h2⟩
        rw [cmpT_mk, if_pos ((cmpS_eq n m).2 h1)]; rfl
      | cons u us =>
        rw [txt_cons, List.append_assoc] at he
        obtain ⟨h1, h2⟩ := span_good n m x _ (isName_all hn) (isName_all hm) (endT_B hx) (hb [] _) he
        rcases hx with rfl | ⟨c, r, rfl, hc⟩
        · simp at h2
        · simp only [List.cons_append, List.cons.injEq] at h2
          rcases hc with hc | hc <;> rw [h2.1] at hc <;> exact absurd hc (by decide)
    | cons t ts =>
      rw [txt_cons, List.append_assoc] at he
      cases us with
      | nil =>
        rw [txt_nil] at he
        obtain ⟨h1, h2⟩ := span_good n m _ y (isName_all hn) (isName_all hm) (hb [] _) (endT_B hy) he
        rcases hy with rfl | ⟨c, r, rfl, hc⟩
        · simp at h2
        · simp only [List.cons_append, List.cons.injEq] at h2
          rcases hc with hc | hc <;> rw [← h2.1] at hc <;> exact absurd hc (by decide)
      | cons u us =>
        rw [txt_cons, List.append_assoc] at he
        obtain ⟨h1, h2⟩ := span_good n m _ _ (isName_all hn) (isName_all hm) (hb [] _) (hb [] _) he
        have h2' : (txt t ++ (tailT ts ++ [93])) ++ x = (txt u ++ (tailT us ++ [93])) ++ y := (List.cons.inj h2).2
        clear h2
        have h2 : txt t ++ (tailT ts ++ 93 :: x) = txt u ++ (tailT us ++ 93 :: y) := by simpa [List.append_assoc] using h2'
        obtain ⟨h3, h4⟩ := ih t (by simp) u (hts t (by simp)) (hus u (by simp)) _ _ (endT_tail ts x) (endT_tail us y) h2
        obtain ⟨h5, h6⟩ := key ts (fun z hz => ih z (by simp [hz])) us (fun z hz => hts z (by simp [hz])) (fun z hz => hus z (by simp [hz])) x y h4
        refine ⟨?_, h6⟩
        rw [cmpT_mk, if_pos ((cmpS_eq n m).2 h1), cmpTs_cons, if_pos h3, h5]

theorem cmpT_txt : ∀ t u : Ty, cmpT t u = 0 → txt t = txt u := by
  intro t
  induction t using Ty.ind with
  | h n ts p ih =>
    intro u h
    obtain ⟨m, us, q⟩ := u
    have key : ∀ l : List Ty, (∀ t ∈ l, ∀ u : Ty, cmpT t u = 0 → txt t = txt u) → ∀ k : List Ty, cmpTs l k = 0 → txts l = txts k := by
      intro l
      induction l with
      | nil => intro _ k h; cases k with
        | nil => rfl
        | cons u k => simp [cmpTs] at h
      | cons t l ihl => intro h k hk; cases k with
        | nil => simp [cmpTs] at hk
        | cons u k =>
          rw [cmpTs_cons] at hk
          by_cases h0 : cmpT t u = 0
          · rw [if_pos h0] at hk
            rw [txts, txts, h t (by simp) u h0, ihl (fun z hz => h z (by simp [hz])) k hk]
          · rw [if_neg h0] at hk; exact absurd hk h0
    rw [cmpT_mk] at h
    by_cases h0 : cmpS n m = 0
    · rw [if_pos h0] at h
      have h1 := (cmpS_eq n m).1 h0
      have h2 := key ts ih us h
      subst h1
      rw [txt, txt, h2]
      have h3 : ts.isEmpty = us.isEmpty := by
        have := congrArg List.length h2
        rw [txts_len, txts_len] at this
        cases ts <;> cases us <;> simp_all
      rw [h3]
    · rw [if_neg h0] at h; exact absurd h h0

/-- Right types are the same exactly if their texts are. -/
theorem txt_same {t u : Ty} (ht : rightT t = true) (hu : rightT u = true) : (txt t == txt u) = (cmpT t u == 0) := by
  by_cases h : cmpT t u = 0
  · rw [cmpT_txt t u h, h]; simp
  · have : txt t ≠ txt u := fun e => h (txt_inj t u ht hu [] [] (.inl rfl) (.inl rfl) (by rw [e])).1
    rw [beq_eq_false_iff_ne.2 h, beq_eq_false_iff_ne.2 this]

end Go.Pv
end

section
/- Local names and their indexes. -/
namespace Go.Pv
open Go

def digB (c : UInt8) : Bool := decide (48 ≤ c.toNat) && decide (c.toNat ≤ 57)
def dg (c : UInt8) : Nat := c.toNat % 48
theorem dg_of {c : UInt8} {d : Nat} (h : c.toNat = 48 + d) (hd : d < 10) : dg c = d := by
  unfold dg
  rw [h, Nat.add_mod_left, Nat.mod_eq_of_lt (by omega)]
theorem dg_sub {c : UInt8} (h1 : 48 ≤ c.toNat) (h2 : c.toNat ≤ 57) : c.toNat - 48 = dg c := by
  obtain ⟨d, hd⟩ := Nat.le.dest h1
  rw [dg_of hd.symm (by omega), ← hd, Nat.add_sub_cancel_left]
def stepD (a : Nat) (c : UInt8) : Nat := a * 10 + dg c
def valD (a : Nat) (l : Str) : Nat := l.foldl stepD a
theorem valD_nil (a : Nat) : valD a [] = a := rfl
theorem valD_cons (a : Nat) (c : UInt8) (r : Str) : valD a (c :: r) = valD (stepD a c) r := rfl
theorem stepD_eq (a : Nat) (c : UInt8) : stepD a c = a * 10 + dg c := rfl
theorem stepD_of {a : Nat} {c : UInt8} {d : Nat} (h : c.toNat = 48 + d) (hd : d < 10) : stepD a c = a * 10 + d := by rw [stepD_eq, dg_of h hd]
abbrev decD : Nat → Str := Lib.decDigits
def locS (n : Int) : Str := if n < 0 then [] else 36 :: decD n.toNat
def locOf (s : Str) : Option Nat :=
  match s with
  | [] => none
  | c :: r => if c = 36 ∧ r ≠ [] ∧ r.all digB = true ∧ valD 0 r ≤ 2147483647 ∧ decD (valD 0 r) = r then some (valD 0 r) else none
def locI (s : Str) : Int := match locOf s with | some n => n | none => 0
def locR (s : Str) : Int := match locOf s with | some n => n | none => -1

theorem decD_small {n : Nat} (h : n < 10) : decD n = [UInt8.ofNat (48 + n)] := by unfold decD; rw [Lib.decDigits, dif_pos h]
theorem decD_big {n : Nat} (h : ¬ n < 10) : decD n = decD (n / 10) ++ [UInt8.ofNat (48 + n % 10)] := by unfold decD; rw [Lib.decDigits, dif_neg h]

theorem valD_app (a : Nat) (l m : Str) : valD a (l ++ m) = valD (valD a l) m := List.foldl_append
theorem ofNat_dig {d : Nat} (h : d < 10) : (UInt8.ofNat (48 + d)).toNat = 48 + d := by
  rw [UInt8.toNat_ofNat', Nat.mod_eq_of_lt (by omega)]
theorem decD_spec (n : Nat) : decD n ≠ [] ∧ (decD n).all digB = true ∧ valD 0 (decD n) = n := by
  induction n using Nat.strongRecOn with
  | _ n ih =>
    by_cases h : n < 10
    · rw [decD_small h]
      have hb := ofNat_dig h
      generalize UInt8.ofNat (48 + n) = b at hb ⊢
      refine ⟨by simp, ?_, ?_⟩
      · simp only [List.all_cons, List.all_nil, digB, hb, Bool.and_true, Bool.and_eq_true, decide_eq_true_eq]; omega
      · rw [valD_cons, valD_nil, stepD_of hb h, Nat.zero_mul, Nat.zero_add]
    · rw [decD_big h]
      obtain ⟨-, h2, h3⟩ := ih (n / 10) (by omega)
      have hb := ofNat_dig (show n % 10 < 10 by omega)
      generalize UInt8.ofNat (48 + n % 10) = b at hb ⊢
      generalize decD (n / 10) = l at h2 h3 ⊢
      refine ⟨by simp, ?_, ?_⟩
      · rw [List.all_append, h2]
        simp only [List.all_cons, List.all_nil, digB, hb, Bool.and_true, Bool.true_and, Bool.and_eq_true, decide_eq_true_eq]; omega
      · rw [valD_app, h3, valD_cons, valD_nil, stepD_of hb (Nat.mod_lt n (by decide))]
        exact Nat.div_add_mod' n 10
theorem decD_len : ∀ (k n : Nat), n < 10 ^ (k + 1) → (decD n).length ≤ k + 1
  | 0, n, h => by rw [decD_small (by simpa using h)]; simp
  | k + 1, n, h => by
    by_cases h1 : n < 10
    · rw [decD_small h1]; simp
    · rw [decD_big h1]
      have := decD_len k (n / 10) (Nat.div_lt_of_lt_mul (by rw [Nat.pow_succ] at h; omega))
      simp; omega

theorem locOf_dec {n : Nat} (h : n ≤ 2147483647) : locOf (36 :: decD n) = some n := by
  obtain ⟨h1, h2, h3⟩ := decD_spec n
  simp only [locOf, h1, h2, h3, ne_eq, not_false_eq_true, true_and, h, and_self, if_true]
theorem locOf_some {s : Str} {n : Nat} (h : locOf s = some n) : s = 36 :: decD n ∧ n ≤ 2147483647 := by
  cases s with
  | nil => cases h
  | cons c r =>
    simp only [locOf] at h
    split at h
    · rename_i hc
      injection h with h
      subst h
      exact ⟨by rw [hc.1, hc.2.2.2.2], hc.2.2.2.1⟩
    · cases h
theorem locS_nat (n : Nat) : locS n = 36 :: decD n := by unfold locS; rw [if_neg (by omega)]; rfl
theorem locOf_locS {s : Str} {n : Int} (h : locS n = s) (hs : s ≠ []) (hn : n ≤ 2147483647) : locOf s = some n.toNat ∧ 0 ≤ n := by
  unfold locS at h
  split at h
  · exact absurd h.symm hs
  · rw [← h]; exact ⟨locOf_dec (by omega), by omega⟩

theorem stepD_le (a : Nat) (c : UInt8) : a ≤ stepD a c := by
  rw [stepD_eq]; exact Nat.le_trans (Nat.le_mul_of_pos_right a (by decide)) (Nat.le_add_right _ _)
theorem valD_le (a : Nat) (l : Str) : a ≤ valD a l := by
  induction l generalizing a with
  | nil => exact Nat.le_refl _
  | cons c l ih => rw [valD_cons]; exact Nat.le_trans (stepD_le a c) (ih _)
theorem parse_val (l : Str) : ∀ a : Nat, l.all digB = true → valD a l < 9223372036854775808 → Lib.parseUint10 a l = .ok (valD a l) := by
  induction l with
  | nil => intro a _ _; rfl
  | cons c l ih =>
    intro a h hv
    simp only [List.all_cons, Bool.and_eq_true, digB, decide_eq_true_eq] at h
    rw [valD_cons] at hv ⊢
    have h1 := valD_le (stepD a c) l
    have h3 : a * 10 ≤ stepD a c := Nat.le_add_right _ _
    rw [Lib.parseUint10, if_pos h.1, dg_sub h.1.1 h.1.2, ← stepD_eq]
    generalize stepD a c = z at *
    rw [if_neg (by omega), if_neg (by omega)]
    exact ih _ h.2 hv
theorem atoi_plain {l : Str} {n : Nat} (h1 : l ≠ []) (h2 : l.all digB = true) (h3 : valD 0 l = n) (h : n ≤ 2147483647) : Lib.atoiAll l = .ok (n : Int) := by
  have hp : Lib.parseMag l = .ok n := by
    unfold Lib.parseMag
    rw [if_neg h1, parse_val l 0 h2 (by rw [h3]; omega), h3]
  cases l with
  | nil => exact absurd rfl h1
  | cons c r =>
    have hc : digB c = true := by simp only [List.all_cons, Bool.and_eq_true] at h2; exact h2.1
    simp only [digB, Bool.and_eq_true, decide_eq_true_eq] at hc
    obtain ⟨g1, g2⟩ := hc
    clear h2 h3
    have e1 : c.toNat ≠ 43 := by omega
    have e2 : c.toNat ≠ 45 := by omega
    rw [Lib.atoiAll_plain c r e1 e2, hp]
    have e3 : ¬ 9223372036854775808 ≤ n := by omega
    simp only [Lib.signless]
    rw [if_neg e3]
theorem atoi_dec {n : Nat} (h : n ≤ 2147483647) : Lib.atoiAll (decD n) = .ok (n : Int) :=
  let ⟨h1, h2, h3⟩ := decD_spec n
  atoi_plain h1 h2 h3 h

/-- What strconv.Atoi hands back; T: the error's type. -/
def atoiAV (T : Nat) (l : Str) : AV :=
  match Lib.atoiAll l with
  | .ok v => .tup [.int .i64 v, .nilIface]
  | .range => .tup [.int .i64 (Lib.atoiSat l), .iface T (.ro [])]
  | _ => .tup [.int .i64 0, .iface T (.ro [])]
theorem atoiAV_cases (T : Nat) (l : Str) : (∃ v, Lib.atoiAll l = .ok v ∧ atoiAV T l = .tup [.int .i64 v, .nilIface] ∧ -9223372036854775808 ≤ v ∧ v ≤ 9223372036854775807) ∨ ((∀ v, Lib.atoiAll l ≠ .ok v) ∧ ∃ v, atoiAV T l = .tup [.int .i64 v, .iface T (.ro [])]) := by
  unfold atoiAV
  cases h : Lib.atoiAll l with
  | ok v => exact .inl ⟨v, rfl, rfl, Lib.atoiAll_bounds h⟩
  | range => exact .inr ⟨fun v hv => (by cases hv), _, rfl⟩
  | _ => exact .inr ⟨fun v hv => (by cases hv), _, rfl⟩

theorem locOf_none_head {c : UInt8} {r : Str} (h : c ≠ 36) : locOf (c :: r) = none := by simp [locOf, h]
theorem locOf_none_atoi {r : Str} (h : ∀ v, Lib.atoiAll r ≠ .ok v) : locOf (36 :: r) = none := by
  cases hl : locOf (36 :: r) with
  | none => rfl
  | some n =>
    obtain ⟨h1, h2⟩ := locOf_some hl
    injection h1 with _ h1
    exact absurd (by rw [h1]; exact atoi_dec h2) (h n)
theorem locOf_none_val {r : Str} {v : Int} (hv : Lib.atoiAll r = .ok v) (h : ¬ (v ≤ 2147483647 ∧ locS v = 36 :: r)) : locOf (36 :: r) = none := by
  cases hl : locOf (36 :: r) with
  | none => rfl
  | some n =>
    obtain ⟨h1, h2⟩ := locOf_some hl
    injection h1 with _ h1
    have h3 := atoi_dec h2
    rw [← h1, hv] at h3
    injection h3 with h3
    subst h3
    exact absurd ⟨by omega, by rw [locS_nat, ← h1]⟩ h
theorem clsI_dig (b : UInt8) : (clsI (b.toNat : Int) = 2) ↔ digB b = true := by
  simp only [digB, Bool.and_eq_true, decide_eq_true_eq]
  unfold clsI
  repeat (first | omega | split)
theorem notName_loc (n : Int) : isName (locS n) = false := by
  unfold locS
  split
  · rfl
  · simp only [isName]
    have : clsI ((36 : UInt8).toNat : Int) = 0 := by decide
    rw [this]; rfl
theorem itoa_decD {n : Int} (h : 0 ≤ n) : Lib.itoa n = decD n.toNat := by unfold Lib.itoa; rw [if_neg (by omega)]
theorem pow19 {n : Nat} (h : n ≤ 9223372036854775807) : n < 10 ^ (18 + 1) := by
  have e : (10 : Nat) ^ (18 + 1) = 10000000000000000000 := by decide
  rw [e]; omega
theorem itoa_len {n : Int} (h0 : 0 ≤ n) (h1 : n ≤ 9223372036854775807) : (Lib.itoa n).length ≤ 19 := by
  rw [itoa_decD h0]
  have e : (10 : Nat) ^ (18 + 1) = 10000000000000000000 := by decide
  exact decD_len 18 n.toNat (by rw [e]; omega)
theorem hasPrefix_not {c : UInt8} {r : Str} (h : c ≠ 36) : Lib.hasPrefix (c :: r) [36] = false := by
  have h1 : ((36 : UInt8) == c) = false := by simpa using Ne.symm h
  simp [Lib.hasPrefix, List.isPrefixOf, h1]
theorem locR_short {s : Str} (h : s.length < 2) : locR s = -1 := by
  unfold locR
  cases hl : locOf s with
  | none => rfl
  | some n =>
    obtain ⟨h1, -⟩ := locOf_some hl
    obtain ⟨h2, -, -⟩ := decD_spec n
    have h3 := congrArg List.length h1
    have h4 := List.length_pos_iff.2 h2
    simp only [List.length_cons] at h3
    omega
theorem locR_long {s : Str} (h : 11 < s.length) : locR s = -1 := by
  unfold locR
  cases hl : locOf s with
  | none => rfl
  | some n =>
    obtain ⟨h1, h2⟩ := locOf_some hl
    have e : (10 : Nat) ^ (9 + 1) = 10000000000 := by decide
    have h4 := decD_len 9 n (by rw [e]; omega)
    have h3 := congrArg List.length h1
    simp only [List.length_cons] at h3
    omega
theorem locR_bad {r : Str} (h : r.all digB = false) : locR (36 :: r) = -1 := by
  unfold locR
  cases hl : locOf (36 :: r) with
  | none => rfl
  | some n =>
    obtain ⟨h1, -⟩ := locOf_some hl
    injection h1 with _ h1
    rw [h1, (decD_spec n).2.1] at h; cases h
theorem locR_val {r : Str} (h : ¬ valD 0 r ≤ 2147483647) : locR (36 :: r) = -1 := by
  unfold locR
  cases hl : locOf (36 :: r) with
  | none => rfl
  | some n =>
    obtain ⟨h1, h2⟩ := locOf_some hl
    injection h1 with _ h1
    rw [h1, (decD_spec n).2.2] at h
    exact absurd h2 h
theorem locR_no {r : Str} (h : locS (valD 0 r : Nat) ≠ 36 :: r) : locR (36 :: r) = -1 := by
  unfold locR
  cases hl : locOf (36 :: r) with
  | none => rfl
  | some n =>
    obtain ⟨h1, h2⟩ := locOf_some hl
    injection h1 with _ h1
    rw [h1, (decD_spec n).2.2, locS_nat] at h
    exact absurd rfl h
theorem stepD_int {c : UInt8} (m : Nat) (h1 : 48 ≤ c.toNat) (h2 : c.toNat ≤ 57) : (10 : Int) * m + ((c.toNat : Int) - 48) = (stepD m c : Nat) := by
  obtain ⟨d, hd⟩ := Nat.le.dest h1
  rw [stepD_of hd.symm (by omega), ← hd]
  omega
theorem step_lt {c : UInt8} {m k : Nat} (h1 : 48 ≤ c.toNat) (h2 : c.toNat ≤ 57) (hm : m < 10 ^ k) : stepD m c < 10 ^ (k + 1) := by
  obtain ⟨d, hd⟩ := Nat.le.dest h1
  rw [stepD_of hd.symm (by omega), Nat.pow_succ]
  generalize 10 ^ k = z at *
  omega
theorem decD_small2 {n : Nat} (h : n < 10) : decD n = [48 + UInt8.ofNat n] := by rw [decD_small h]; simp
theorem decD_big2 {n : Nat} (h : ¬ n < 10) : decD n = decD (n / 10) ++ [48 + UInt8.ofNat (n % 10)] := by rw [decD_big h]; simp
theorem aw12 : locOf [36, 49, 50] = some 12 := by
  have h : decD 12 = [49, 50] := by rw [decD_big2 (by decide), decD_small2 (by decide)]; rfl
  rw [← h]; exact locOf_dec (by decide)
theorem aw3 : locS 3 = [36, 51] := by
  have h : decD 3 = [51] := by rw [decD_small2 (by decide)]; rfl
  rw [show (3 : Int) = ((3 : Nat) : Int) from rfl, locS_nat, h]
theorem locOf_big {n : Nat} (h : ¬ n ≤ 2147483647) : locOf (36 :: decD n) = none := by
  cases hl : locOf (36 :: decD n) with
  | none => rfl
  | some m =>
    obtain ⟨h1, h2⟩ := locOf_some hl
    injection h1 with _ h1
    have h3 := (decD_spec n).2.2
    rw [h1, (decD_spec m).2.2] at h3
    omega
theorem locS_len {n : Int} (h : n ≤ 9223372036854775807) : (locS n).length ≤ 20 := by
  unfold locS
  split
  · simp
  · have := decD_len 18 n.toNat (pow19 (by omega))
    simp only [List.length_cons]; omega
theorem cmpS_beq (a b : Str) : (cmpS a b == 0) = (a == b) := by
  by_cases h : a = b
  · rw [(cmpS_eq a b).2 h, h]; simp
  · rw [beq_eq_false_iff_ne.2 (fun e => h ((cmpS_eq a b).1 e)), beq_eq_false_iff_ne.2 h]
/-- The table of powers of ten. -/
def pow10A : List AV := Lib.pow10Tab.map (AV.int .u64)

end Go.Pv
end

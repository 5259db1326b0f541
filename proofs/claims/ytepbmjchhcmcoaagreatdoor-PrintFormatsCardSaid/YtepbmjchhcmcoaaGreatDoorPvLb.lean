import Derived.Test.YtepbmjchhcmcoaaGreatDoorPvY
import Derived.Lib.AtoiAll
import Derived.Lib.AtoiAllCases
import Derived.Lib.ItoaNum
import Derived.Below
import Derived.Lib.Bytealg
set_option linter.all false
section
/- The texts of right types tell them apart. -/
namespace Go.Pv
open Go

theorem isName_all {s : Str} (h : isName s = true) : s.all goodB = true := by
  unfold isName at h
  split at h
  · cases h
  · simp only [Bool.and_eq_true] at h; exact h.1.2

def endB (x : Str) : Prop := x = [] ∨ ∃ c r, x = c :: r ∧ goodB c = false

def endT (x : Str) : Prop := x = [] ∨ ∃ c r, x = c :: r ∧ (c = 93 ∨ c = 44)
def tailT (l : List Ty) : Str := Lib.joinTail [44, 32] (txts l)
theorem right_name {n : Str} {ts : List Ty} {p : Int} (h : rightT (.mk n ts p) = true) : isName n = true ∧ ∀ t ∈ ts, rightT t = true := by
  simp only [rightT, lst, List.all_cons, Bool.and_eq_true] at h
  refine ⟨h.1, fun t ht => ?_⟩
  rw [rightT, List.all_eq_true]
  intro s hs
  exact List.all_eq_true.1 h.2 s (by rw [lsts_flat]; exact List.mem_flatten.2 ⟨lst t, List.mem_map.2 ⟨t, ht, rfl⟩, hs⟩)

end Go.Pv
end

section
/- Local names and their indexes. -/
namespace Go.Pv
open Go

def digB (c : UInt8) : Bool := decide (48 ≤ c.toNat) && decide (c.toNat ≤ 57)
def dg (c : UInt8) : Nat := c.toNat % 48
def stepD (a : Nat) (c : UInt8) : Nat := a * 10 + dg c
def valD (a : Nat) (l : Str) : Nat := l.foldl stepD a
abbrev decD : Nat → Str := Lib.decDigits
def locS (n : Int) : Str := if n < 0 then [] else 36 :: decD n.toNat
def locOf (s : Str) : Option Nat :=
  match s with
  | [] => none
  | c :: r => if c = 36 ∧ r ≠ [] ∧ r.all digB = true ∧ valD 0 r ≤ 2147483647 ∧ decD (valD 0 r) = r then some (valD 0 r) else none
def locI (s : Str) : Int := match locOf s with | some n => n | none => 0
def locR (s : Str) : Int := match locOf s with | some n => n | none => -1

def atoiAV (T : Nat) (l : Str) : AV :=
  match Lib.atoiAll l with
  | .ok v => .tup [.int .i64 v, .nilIface]
  | .range => .tup [.int .i64 (Lib.atoiSat l), .iface T (.ro [])]
  | _ => .tup [.int .i64 0, .iface T (.ro [])]
def pow10A : List AV := Lib.pow10Tab.map (AV.int .u64)

end Go.Pv
end

section
/- Tokens: their cells; which are alike. -/
namespace Go.Pv
open Go

abbrev Tk := Int × List UInt8 × Int
def encK (x : Tk) : List AV := [.int .i64 x.1, .str x.2.1, .int .i64 x.2.2]
theorem encK_cells (x : Tk) : (encK x).length = 3 ∧ (encK x).all AV.one = true := ⟨rfl, rfl⟩
def kq (x y : Tk) : Bool := x.1 == y.1 && x.2.1 == y.2.1
def alk : List Tk → List Tk → Bool
  | [], [] => true
  | x :: a, y :: b => kq x y && alk a b
  | _, _ => false

theorem valid_two {P : Program} {gl : Gl} {f : FuncId} {x y r : AV} {vx vy v : Value} (hok : fnOk P f = true) (hx : ∀ lim h u, Rep lim h u x → u = vx) (hy : ∀ lim h u, Rep lim h u y → u = vy) (hr : ∀ lim h, Rep lim h v r)
    (h : ∀ w, Calls P f #[vx, vy] w fun e w' => e = .returned v ∧ w' = w) : Valid P gl f [x, y] r := by
  refine valid_calls hok fun lim w cargs hargs => ?_
  obtain ⟨u, u', rfl⟩ : ∃ u u', cargs = [u, u'] := by
    have := hargs.1
    match cargs, this with
    | [v, u], _ => exact ⟨v, u, rfl⟩
  obtain rfl := hx _ _ _ hargs.head
  obtain rfl := hy _ _ _ hargs.tail.head
  refine (h w).mono fun e w' => ?_
  rintro ⟨rfl, rfl⟩
  exact ⟨_, rfl, RowKit.Below.refl _ _, fun lim' _ => hr lim' _⟩

def wc (c : UInt8) : Bool := decide (1 ≤ clsI c.toNat) && decide (clsI c.toNat ≤ 3)
def wordN : List UInt8 → Nat
  | [] => 0
  | c :: s => if wc c then 1 + wordN s else 0
theorem wordN_cons (c : UInt8) (s : List UInt8) : wordN (c :: s) = if wc c then 1 + wordN s else 0 := rfl
theorem wordN_le : ∀ s : List UInt8, wordN s ≤ s.length
  | [] => Nat.le_refl _
  | c :: s => by
    rw [wordN_cons]
    have := wordN_le s
    split <;> simp <;> omega

theorem indexByte_lt : ∀ (l : List UInt8) (c : UInt8), Lib.indexByte l c < l.length ∨ l = []
  | [], _ => .inr rfl
  | b :: l, c => by
    left
    unfold Lib.indexByte
    rcases indexByte_lt l c with h | rfl
    · split
      · simp
      · split <;> simp <;> omega
    · split <;> simp [Lib.indexByte]
theorem indexByte_pos (c : UInt8) (r : List UInt8) (h : Lib.hasPrefix (c :: r) [47, 47] = true) : Lib.indexByte (c :: r) 10 ≠ 0 := by
  have hc : c = 47 := by
    simp only [Lib.hasPrefix, List.isPrefixOf, Bool.and_eq_true, beq_iff_eq] at h
    exact h.1.symm
  subst hc
  have := Lib.indexByte_ge r 10
  unfold Lib.indexByte
  rw [if_neg (by decide)]
  split <;> rename_i h1
  · decide
  · simp at h1; omega

def signs : List UInt8 := [40, 41, 91, 93, 123, 125, 46, 44, 59, 61, 95]
def lxA : Nat → List Tk → Nat → List UInt8 → Option (List Tk) × Nat
  | 0, _, k, _ => (none, k)
  | _ + 1, out, k, [] => (some (out ++ [(3, [], (k : Int))]), 0)
  | n + 1, out, k, c :: r =>
    if clsI c.toNat = 4 then lxA n out (k + 1) r
    else if Lib.hasPrefix (c :: r) [47, 47] = true then
      if Lib.indexByte (c :: r) 10 < 0 then (some (out ++ [(3, [], ((k + (r.length + 1) : Nat) : Int))]), 0)
      else lxA n out (k + (Lib.indexByte (c :: r) 10).toNat) ((c :: r).drop (Lib.indexByte (c :: r) 10).toNat)
    else if clsI c.toNat = 1 then lxA n (out ++ [(1, (c :: r).take (wordN (c :: r)), (k : Int))]) (k + wordN (c :: r)) ((c :: r).drop (wordN (c :: r)))
    else if 0 ≤ Lib.indexByte signs c then lxA n (out ++ [(2, [c], (k : Int))]) (k + 1) r
    else (none, k)
def lexT (s : List UInt8) : Option (List Tk) × Nat := if s.length ≤ 65536 then lxA (s.length + 1) [] 0 s else (none, 65536)
def lexV (ft : Nat) (x : Option (List Tk) × Nat) : AV := match x.1 with
  | some l => .tup [.slice (l.map encK), .nilIface]
  | none => .tup [.slice [], .iface ft (.agg [.int .i64 1, .int .i64 x.2])]

section
variable {n k : Nat} {out : List Tk} {s : List UInt8}
theorem lxA_sp (h : k < s.length) (h1 : clsI s[k].toNat = 4) : lxA (n + 1) out k (s.drop k) = lxA n out (k + 1) (s.drop (k + 1)) := by
  rw [List.drop_eq_getElem_cons h, lxA, if_pos h1]
theorem lxA_com0 (h : k < s.length) (h1 : ¬ clsI s[k].toNat = 4) (h2 : Lib.hasPrefix (s.drop k) [47, 47] = true) (h3 : Lib.indexByte (s.drop k) 10 < 0) : lxA (n + 1) out k (s.drop k) = (some (out ++ [(3, [], (s.length : Int))]), 0) := by
  have hl : (s.drop (k + 1)).length = s.length - (k + 1) := List.length_drop
  rw [List.drop_eq_getElem_cons h] at h2 h3 ⊢
  rw [lxA, if_neg h1, if_pos h2, if_pos h3, hl, show k + (s.length - (k + 1) + 1) = s.length by omega]
theorem lxA_com (h : k < s.length) (h1 : ¬ clsI s[k].toNat = 4) (h2 : Lib.hasPrefix (s.drop k) [47, 47] = true) (h3 : 0 ≤ Lib.indexByte (s.drop k) 10) : lxA (n + 1) out k (s.drop k) = lxA n out (k + (Lib.indexByte (s.drop k) 10).toNat) (s.drop (k + (Lib.indexByte (s.drop k) 10).toNat)) := by
  rw [← List.drop_drop]
  rw [List.drop_eq_getElem_cons h] at h2 h3 ⊢
  rw [lxA, if_neg h1, if_pos h2, if_neg (by omega)]
theorem lxA_word (h : k < s.length) (h1 : ¬ clsI s[k].toNat = 4) (h2 : Lib.hasPrefix (s.drop k) [47, 47] = false) (h3 : clsI s[k].toNat = 1) : lxA (n + 1) out k (s.drop k) = lxA n (out ++ [(1, (s.drop k).take (wordN (s.drop k)), (k : Int))]) (k + wordN (s.drop k)) (s.drop (k + wordN (s.drop k))) := by
  rw [← List.drop_drop]
  rw [List.drop_eq_getElem_cons h] at h2 ⊢
  rw [lxA, if_neg h1, if_neg (by rw [h2]; decide), if_pos h3]
theorem lxA_sign (h : k < s.length) (h1 : ¬ clsI s[k].toNat = 4) (h2 : Lib.hasPrefix (s.drop k) [47, 47] = false) (h3 : ¬ clsI s[k].toNat = 1) (h4 : 0 ≤ Lib.indexByte signs s[k]) : lxA (n + 1) out k (s.drop k) = lxA n (out ++ [(2, [s[k]], (k : Int))]) (k + 1) (s.drop (k + 1)) := by
  rw [List.drop_eq_getElem_cons h] at h2 ⊢
  rw [lxA, if_neg h1, if_neg (by rw [h2]; decide), if_neg h3, if_pos h4]
theorem lxA_bad (h : k < s.length) (h1 : ¬ clsI s[k].toNat = 4) (h2 : Lib.hasPrefix (s.drop k) [47, 47] = false) (h3 : ¬ clsI s[k].toNat = 1) (h4 : Lib.indexByte signs s[k] < 0) : lxA (n + 1) out k (s.drop k) = (none, k) := by
  rw [List.drop_eq_getElem_cons h] at h2 ⊢
  rw [lxA, if_neg h1, if_neg (by rw [h2]; decide), if_neg h3, if_neg (by omega)]
theorem lxA_end (hk : k ≤ s.length) (h : s.length ≤ k) : lxA (n + 1) out k (s.drop k) = (some (out ++ [(3, [], (s.length : Int))]), 0) := by
  rw [List.drop_eq_nil_of_le h, lxA, show k = s.length by omega]
theorem wordN_pos (h : k < s.length) (h3 : clsI s[k].toNat = 1) : 0 < wordN (s.drop k) := by
  rw [List.drop_eq_getElem_cons h, wordN_cons, if_pos (by simp [wc, h3])]; omega
theorem com_pos (h : k < s.length) (h2 : Lib.hasPrefix (s.drop k) [47, 47] = true) (h3 : 0 ≤ Lib.indexByte (s.drop k) 10) : 0 < (Lib.indexByte (s.drop k) 10).toNat := by
  rw [List.drop_eq_getElem_cons h] at h2 h3 ⊢
  have := indexByte_pos _ _ h2
  omega
end

theorem drop_take_one {s : List UInt8} {k : Nat} (h : k < s.length) : (s.take (k + 1)).drop k = [s[k]] := by
  rw [List.drop_take, Nat.add_sub_cancel_left, List.drop_eq_getElem_cons h]; rfl
theorem drop_take_add (s : List UInt8) (k w : Nat) : (s.take (k + w)).drop k = (s.drop k).take w := by
  rw [List.drop_take, Nat.add_sub_cancel_left]
theorem toNat_add (a b : Nat) : ((a : Int) + (b : Int)).toNat = a + b := by omega

def lnS (p : Nat × Nat) (c : UInt8) : Nat × Nat := if c = 10 then (p.1 + 1, 1) else (p.1, p.2 + 1)
def lnR (l : List UInt8) : Nat × Nat := l.foldl lnS (1, 1)
end Go.Pv
end

import Derived.Test.YtpjkdaechknogaaGreatDoorPvX
import Derived.Lib.AtoiAll
import Derived.Lib.AtoiAllCases
import Derived.Lib.ItoaNum
set_option linter.all false
section
/- Plain laws on types: sizes, orders. -/
namespace Go.Pv
open Go

mutual
def csum : Ty → Nat | .mk n ts _ => 1 + n.length / 50 + csums ts
def csums : List Ty → Nat | [] => 0 | t :: r => csum t + csums r
end
theorem cmpS_anti : ∀ a b : Str, cmpS b a = - cmpS a b
  | [], [] => by simp [cmpS_nil]
  | [], y :: b => by rw [cmpS_nil_cons, cmpS_cons_nil]; rfl
  | x :: a, [] => by rw [cmpS_nil_cons, cmpS_cons_nil]
  | x :: a, y :: b => by
    rw [cmpS_cons, cmpS_cons, cmpS_anti a b]
    repeat (first | omega | split)

theorem cmpT_mk (n m : Str) (ts us : List Ty) (p q : Int) : cmpT (.mk n ts p) (.mk m us q) = if cmpS n m = 0 then cmpTs ts us else cmpS n m := by rw [cmpT]; rfl

theorem cmpT_anti : ∀ t u : Ty, cmpT u t = - cmpT t u := by
  intro t
  induction t using Ty.ind with
  | h n ts p ih =>
    intro u
    obtain ⟨m, us, q⟩ := u
    have key : ∀ l : List Ty, (∀ t ∈ l, ∀ u, cmpT u t = - cmpT t u) → ∀ m, cmpTs m l = - cmpTs l m := by
      intro l
      induction l with
      | nil => intro _ m; cases m <;> simp [cmpTs]
      | cons t l ihl =>
        intro h m
        cases m with
        | nil => simp [cmpTs]
        | cons u m =>
          rw [cmpTs_cons, cmpTs_cons, h t (by simp) u, ihl (fun x hx => h x (by simp [hx])) m]
          repeat (first | omega | split)
    rw [cmpT_mk, cmpT_mk, cmpS_anti n m, key ts ih us]
    repeat (first | omega | split)

end Go.Pv
namespace Go.Pv
open Go
def idTy (n : Str) : Ty := .mk n [] 77
theorem eqT_refl : ∀ t : Ty, eqT t t = true := by
  intro t
  induction t using Ty.ind with
  | h n ts p ih =>
    have key : ∀ l : List Ty, (∀ t ∈ l, eqT t t = true) → eqTs l l = true := by
      intro l
      induction l with
      | nil => intro _; rfl
      | cons t l ihl => intro h; rw [eqTs_cons, h t (by simp), ihl (fun x hx => h x (by simp [hx]))]; rfl
    simp [eqT, key ts ih]
end Go.Pv
namespace Go.Pv
open Go
end Go.Pv
namespace Go.Pv
open Go
def goM (m : Int) (s : List AV) (_ : AV) : Bool := decide ((s.length : Int) + 1 ≤ m)
def elM (L : List AV) (m : Int) (s : List AV) (x : AV) : Prop := elP L s x ∧ (s.length : Int) ≤ m
end Go.Pv
end

section
/- The texts of right types tell them apart. -/
namespace Go.Pv
open Go

def endB (x : Str) : Prop := x = [] ∨ ∃ c r, x = c :: r ∧ goodB c = false

def endT (x : Str) : Prop := x = [] ∨ ∃ c r, x = c :: r ∧ (c = 93 ∨ c = 44)
def tailT (l : List Ty) : Str := Lib.joinTail [44, 32] (txts l)
end Go.Pv
end

section
/- Local names and their indexes. -/
namespace Go.Pv
open Go

def digB (c : UInt8) : Bool := decide (48 ≤ c.toNat) && decide (c.toNat ≤ 57)
def dg (c : UInt8) : Nat := c.toNat % 48
def stepD (a : Nat) (c : UInt8) : Nat := a * 10 + dg c
def valD (a : Nat) (l : Str) : Nat := l.foldl stepD a
abbrev decD : Nat → Str := Lib.decDigits
def locS (n : Int) : Str := if n < 0 then [] else 36 :: decD n.toNat
def locOf (s : Str) : Option Nat :=
  match s with
  | [] => none
  | c :: r => if c = 36 ∧ r ≠ [] ∧ r.all digB = true ∧ valD 0 r ≤ 2147483647 ∧ decD (valD 0 r) = r then some (valD 0 r) else none
def locI (s : Str) : Int := match locOf s with | some n => n | none => 0
def locR (s : Str) : Int := match locOf s with | some n => n | none => -1

def atoiAV (T : Nat) (l : Str) : AV :=
  match Lib.atoiAll l with
  | .ok v => .tup [.int .i64 v, .nilIface]
  | .range => .tup [.int .i64 (Lib.atoiSat l), .iface T (.ro [])]
  | _ => .tup [.int .i64 0, .iface T (.ro [])]
def pow10A : List AV := Lib.pow10Tab.map (AV.int .u64)

end Go.Pv
end

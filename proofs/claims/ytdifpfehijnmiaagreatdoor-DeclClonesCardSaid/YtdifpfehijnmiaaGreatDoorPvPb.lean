import Derived.Test.YtdifpfehijnmiaaGreatDoorPvLb
import Derived.Lib.Join
import Derived.Lib.LastIndexByte
import Derived.Test.YtdifpfehijnmiaaGreatDoorPvOc
set_option linter.all false
section
/- The lexer's laws in plain lists: the reference's scan, tokens without their places, joined texts, comments. -/
namespace Go.Pv
open Go

def nlN : List UInt8 → Nat
  | [] => 0
  | c :: s => if c = 10 then 0 else 1 + nlN s
section
variable {n k : Nat} {out : List Tk} {s : List UInt8}
end
def lexR (x : Option (List Tk) × Nat) : AV := match x.1 with
  | some l => .agg [.slice (l.map encK), .int .i64 (-1)]
  | none => .agg [.slice [], .int .i64 x.2]

abbrev Kt := Int × List UInt8
def ktOf (x : Tk) : Kt := (x.1, x.2.1)
def lxK : Nat → List UInt8 → Option (List Kt)
  | 0, _ => none
  | _ + 1, [] => some [(3, [])]
  | n + 1, c :: r =>
    if clsI c.toNat = 4 then lxK n r
    else if Lib.hasPrefix (c :: r) [47, 47] = true then lxK n ((c :: r).drop (nlN (c :: r)))
    else if clsI c.toNat = 1 then (lxK n ((c :: r).drop (wordN (c :: r)))).map ((1, (c :: r).take (wordN (c :: r))) :: ·)
    else if 0 ≤ Lib.indexByte signs c then (lxK n r).map ((2, [c]) :: ·)
    else none

def tkK (s : List UInt8) : Option (List Kt) := lxK (s.length + 1) s
def jt (l : List Kt) : List (List UInt8) := (l.filter fun x => x.1 != 3).map (·.2)
def joinK (l : List Kt) : List UInt8 := Lib.join (jt l) [32]
def wordK (w : List UInt8) : Prop := ∃ c r, w = c :: r ∧ clsI c.toNat = 1 ∧ ∀ x ∈ c :: r, wc x = true
inductive TkL : List Kt → Prop
  | nil : TkL [(3, [])]
  | word (w : List UInt8) (l : List Kt) (hw : wordK w) (hl : TkL l) : TkL ((1, w) :: l)
  | sign (c : UInt8) (l : List Kt) (hc : 0 ≤ Lib.indexByte signs c) (hl : TkL l) : TkL ((2, [c]) :: l)
def refJS (s : List UInt8) (x : Kt) : List UInt8 := if x.1 = 3 then s else (if s = [] then s else s ++ [32]) ++ x.2
def refJ (l : List Kt) : List UInt8 := l.foldl refJS []
def szK (l : List Kt) : Nat := (l.map fun x => x.2.length + 1).sum
def lastI : List UInt8 → Int
  | [] => -1
  | c :: s => if 0 ≤ lastI s then lastI s + 1 else if c = 10 then 0 else -1
def clampN (i : Int) (n : Nat) : Nat := min i.toNat n
def encB (x : UInt8) : List AV := [.int .u8 x.toNat]
def noNl (c : List UInt8) : List UInt8 := c.filter (· != 10)
end Go.Pv
end

section
/- Short words for the walks. -/
namespace Go.Pv
open Go

theorem sg {a b : Prop} (h : b) (ha : a := by first | omega | (simp at *; omega)) : a ∧ b := ⟨ha, h⟩
@[simp] theorem row_fst (x : List AV) (l : List (List AV)) : row (x :: l) 0 = x := rfl
section
variable {P : Program} {gl : Gl} {σ : AS} {Q : Exit → AS → Prop} {c : Operand} {x y : Code}
theorem cT (hc : ev gl σ c = .v (.bool true) none) (h : AT P gl x σ Q) : AT P gl (.cond c x y) σ Q := AT_cond hc (fun _ => h) (fun h => by cases h)
theorem cF (hc : ev gl σ c = .v (.bool false) none) (h : AT P gl y σ Q) : AT P gl (.cond c x y) σ Q := AT_cond hc (fun h => by cases h) (fun _ => h)
end
end Go.Pv
end

section
/- The walk by simp: calls of methods. -/
namespace Go.Pv
open Go

section
variable {P : Program} {gl : Gl} {ops : Array Oper} {o : Oper} {rest : List Oper} {σ : AS} {K : AS → Prop}
end
end Go.Pv
end

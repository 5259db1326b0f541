import Derived.Test.YtghmdnfdocdgfaaDoorPvLa
import Derived.Below
import Derived.Lib.Bytealg
import Derived.Lib.Join
import Derived.Lib.LastIndexByte
set_option linter.all false
section
/- Tokens: their cells; which are alike. -/
namespace Go.Pv
open Go

abbrev Tk := Int × List UInt8 × Int
def encK (x : Tk) : List AV := [.int .i64 x.1, .str x.2.1, .int .i64 x.2.2]
def kq (x y : Tk) : Bool := x.1 == y.1 && x.2.1 == y.2.1
def alk : List Tk → List Tk → Bool
  | [], [] => true
  | x :: a, y :: b => kq x y && alk a b
  | _, _ => false

def wc (c : UInt8) : Bool := decide (1 ≤ clsI c.toNat) && decide (clsI c.toNat ≤ 3)
def wordN : List UInt8 → Nat
  | [] => 0
  | c :: s => if wc c then 1 + wordN s else 0
def signs : List UInt8 := [40, 41, 91, 93, 123, 125, 46, 44, 59, 61, 95]
def lxA : Nat → List Tk → Nat → List UInt8 → Option (List Tk) × Nat
  | 0, _, k, _ => (none, k)
  | _ + 1, out, k, [] => (some (out ++ [(3, [], (k : Int))]), 0)
  | n + 1, out, k, c :: r =>
    if clsI c.toNat = 4 then lxA n out (k + 1) r
    else if Lib.hasPrefix (c :: r) [47, 47] = true then
      if Lib.indexByte (c :: r) 10 < 0 then (some (out ++ [(3, [], ((k + (r.length + 1) : Nat) : Int))]), 0)
      else lxA n out (k + (Lib.indexByte (c :: r) 10).toNat) ((c :: r).drop (Lib.indexByte (c :: r) 10).toNat)
    else if clsI c.toNat = 1 then lxA n (out ++ [(1, (c :: r).take (wordN (c :: r)), (k : Int))]) (k + wordN (c :: r)) ((c :: r).drop (wordN (c :: r)))
    else if 0 ≤ Lib.indexByte signs c then lxA n (out ++ [(2, [c], (k : Int))]) (k + 1) r
    else (none, k)
def lexT (s : List UInt8) : Option (List Tk) × Nat := if s.length ≤ 65536 then lxA (s.length + 1) [] 0 s else (none, 65536)
def lexV (ft : Nat) (x : Option (List Tk) × Nat) : AV := match x.1 with
  | some l => .tup [.slice (l.map encK), .nilIface]
  | none => .tup [.slice [], .iface ft (.agg [.int .i64 1, .int .i64 x.2])]

section
variable {n k : Nat} {out : List Tk} {s : List UInt8}
end

def lnS (p : Nat × Nat) (c : UInt8) : Nat × Nat := if c = 10 then (p.1 + 1, 1) else (p.1, p.2 + 1)
def lnR (l : List UInt8) : Nat × Nat := l.foldl lnS (1, 1)
end Go.Pv
end

section
/- The lexer's laws in plain lists: the reference's scan, tokens without their places, joined texts, comments. -/
namespace Go.Pv
open Go

def nlN : List UInt8 → Nat
  | [] => 0
  | c :: s => if c = 10 then 0 else 1 + nlN s
section
variable {n k : Nat} {out : List Tk} {s : List UInt8}
end
def lexR (x : Option (List Tk) × Nat) : AV := match x.1 with
  | some l => .agg [.slice (l.map encK), .int .i64 (-1)]
  | none => .agg [.slice [], .int .i64 x.2]

abbrev Kt := Int × List UInt8
def ktOf (x : Tk) : Kt := (x.1, x.2.1)
def lxK : Nat → List UInt8 → Option (List Kt)
  | 0, _ => none
  | _ + 1, [] => some [(3, [])]
  | n + 1, c :: r =>
    if clsI c.toNat = 4 then lxK n r
    else if Lib.hasPrefix (c :: r) [47, 47] = true then lxK n ((c :: r).drop (nlN (c :: r)))
    else if clsI c.toNat = 1 then (lxK n ((c :: r).drop (wordN (c :: r)))).map ((1, (c :: r).take (wordN (c :: r))) :: ·)
    else if 0 ≤ Lib.indexByte signs c then (lxK n r).map ((2, [c]) :: ·)
    else none

def tkK (s : List UInt8) : Option (List Kt) := lxK (s.length + 1) s
def jt (l : List Kt) : List (List UInt8) := (l.filter fun x => x.1 != 3).map (·.2)
def joinK (l : List Kt) : List UInt8 := Lib.join (jt l) [32]
def wordK (w : List UInt8) : Prop := ∃ c r, w = c :: r ∧ clsI c.toNat = 1 ∧ ∀ x ∈ c :: r, wc x = true
inductive TkL : List Kt → Prop
  | nil : TkL [(3, [])]
  | word (w : List UInt8) (l : List Kt) (hw : wordK w) (hl : TkL l) : TkL ((1, w) :: l)
  | sign (c : UInt8) (l : List Kt) (hc : 0 ≤ Lib.indexByte signs c) (hl : TkL l) : TkL ((2, [c]) :: l)
def refJS (s : List UInt8) (x : Kt) : List UInt8 := if x.1 = 3 then s else (if s = [] then s else s ++ [32]) ++ x.2
def refJ (l : List Kt) : List UInt8 := l.foldl refJS []
def szK (l : List Kt) : Nat := (l.map fun x => x.2.length + 1).sum
def lastI : List UInt8 → Int
  | [] => -1
  | c :: s => if 0 ≤ lastI s then lastI s + 1 else if c = 10 then 0 else -1
def clampN (i : Int) (n : Nat) : Nat := min i.toNat n
def encB (x : UInt8) : List AV := [.int .u8 x.toNat]
def noNl (c : List UInt8) : List UInt8 := c.filter (· != 10)
end Go.Pv
end

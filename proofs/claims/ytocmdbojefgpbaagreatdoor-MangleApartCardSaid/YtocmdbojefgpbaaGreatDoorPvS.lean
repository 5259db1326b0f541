import Derived.Test.YtocmdbojefgpbaaGreatDoorPvO
set_option linter.all false
section
/- Ranges over functions. -/
namespace Go.Pv
open Go

def tmOk (T : List Nat) (tm0 tm : List (Nat × TV)) : Bool := tm0.all fun q => q.2.bareT || (match q.2 with
  | .lp k o => T.contains q.1 && (match look q.1 tm with | some (.lp k' o') => k' == k && o' == o | _ => false)
  | _ => false)

def AS.out (σ : AS) (bs : List Nat) (τ : AS) (m : Nat) : AS := { σ with bx := pick bs τ.bx, tb := τ.tb.filter fun q => (look q.1 (pick bs τ.bx)).isSome, sh := [], mks := m }

end Go.Pv
end

section
/- A range over a function, the elements handed out to a body that is walked once. -/
namespace Go.Pv
open Go

def roundQ (P : Program) (gl : Gl) (σ : AS) (T : List Nat) (I : List AV → AS) (go : List AV → AV → Bool) (s : List AV) (x : AV) (Q : Exit → AS → Prop) : Exit → AS → Prop
  | .normal, τ => go s x = true ∧ tmOk T σ.tm τ.tm = true ∧ ∃ bs, lpOk (pick bs τ.bx) σ.tm = true ∧ σ.out bs τ σ.mks = I (s ++ [x])
  | .ret, τ => go s x = false ∧ tmOk T σ.tm τ.tm = true ∧ ∃ bs, lpOk (pick bs τ.bx) σ.tm = true ∧ AT P gl .ret (σ.out bs τ (σ.mks + 1)) Q
  | .exit id, τ => go s x = false ∧ tmOk T σ.tm τ.tm = true ∧ ∃ bs, lpOk (pick bs τ.bx) σ.tm = true ∧ AT P gl (.exit id) (σ.out bs τ (σ.mks + 1)) Q
  | _, _ => False

section
variable {w : World} {l : Nat} {rc : Loop} (h : w.heap[l]? = some (.loop rc)) (o : Obj)
include h
end

end Go.Pv
end

import Derived.Test.YtocmdbojefgpbaaGreatDoorPvP
import Derived.Test.YtocmdbojefgpbaaGreatDoorPvOc
set_option linter.all false
section
/- The program's types as plain data, and as values. -/
namespace Go.Pv
open Go

abbrev Str := List UInt8

inductive Ty where
  | mk (name : Str) (args : List Ty) (pos : Int)

@[simp] def Ty.name : Ty → Str | .mk n _ _ => n
@[simp] def Ty.args : Ty → List Ty | .mk _ a _ => a
@[simp] def Ty.pos : Ty → Int | .mk _ _ p => p

mutual
def encTy : Ty → List AV
  | .mk n as p => [.str n, .slice (encTys as), .int .i64 p]
def encTys : List Ty → List (List AV)
  | [] => []
  | t :: r => encTy t :: encTys r
end

theorem encTys_map (l : List Ty) : encTys l = l.map encTy := by
  induction l with
  | nil => simp [encTys]
  | cons t l ih => simp [encTys, ih]

theorem encTy_def (t : Ty) : encTy t = [.str t.name, .slice (t.args.map encTy), .int .i64 t.pos] := by
  cases t with
  | mk n as p => simp [encTy, encTys_map, Ty.name, Ty.args, Ty.pos]

theorem encTy_mk (n : Str) (as : List Ty) (p : Int) : encTy (.mk n as p) = [.str n, .slice (as.map encTy), .int .i64 p] := by rw [encTy_def]; rfl

@[simp] theorem encTy_len (t : Ty) : (encTy t).length = 3 := by rw [encTy_def]; rfl
@[simp] theorem encTy_one (t : Ty) : (encTy t).all AV.one = true := by rw [encTy_def]; rfl
@[simp] theorem encTy_0 (t : Ty) : (encTy t)[0]? = some (.str t.name) := by rw [encTy_def]; rfl
@[simp] theorem encTy_1 (t : Ty) : (encTy t)[1]? = some (.slice (t.args.map encTy)) := by rw [encTy_def]; rfl
@[simp] theorem encTy_2 (t : Ty) : (encTy t)[2]? = some (.int .i64 t.pos) := by rw [encTy_def]; rfl
@[simp] theorem encTy_g0 (t : Ty) (h : 0 < (encTy t).length) : (encTy t)[0] = .str t.name := by have := encTy_0 t; rw [List.getElem?_eq_getElem h] at this; injection this
@[simp] theorem encTy_g1 (t : Ty) (h : 1 < (encTy t).length) : (encTy t)[1] = .slice (t.args.map encTy) := by have := encTy_1 t; rw [List.getElem?_eq_getElem h] at this; injection this
@[simp] theorem encTy_g2 (t : Ty) (h : 2 < (encTy t).length) : (encTy t)[2] = .int .i64 t.pos := by have := encTy_2 t; rw [List.getElem?_eq_getElem h] at this; injection this
@[simp] theorem encTy_take (t : Ty) : (encTy t).take 3 = encTy t := by rw [encTy_def]; rfl
@[simp] theorem encTy_drop (t : Ty) : (encTy t).drop 3 = [] := by rw [encTy_def]; rfl
@[simp] theorem encTy_take2 (t : Ty) : (encTy t).take 2 = [.str t.name, .slice (t.args.map encTy)] := by rw [encTy_def]; rfl
@[simp] theorem encTy_take1 (t : Ty) : (encTy t).take 1 = [.str t.name] := by rw [encTy_def]; rfl
@[simp] theorem encTy_drop2 (t : Ty) : (encTy t).drop 2 = [.int .i64 t.pos] := by rw [encTy_def]; rfl
@[simp] theorem encTys_rows (l : List Ty) : Rows 3 (l.map encTy) := Rows_map 3 encTy (fun t => ⟨encTy_len t, encTy_one t⟩) l

def encS (s : Str) : List AV := [.str s]
@[simp] theorem encS_len (s : Str) : (encS s).length = 1 := rfl
@[simp] theorem encS_one (s : Str) : (encS s).all AV.one = true := rfl
@[simp] theorem encS_0 (s : Str) : (encS s)[0]? = some (.str s) := rfl
@[simp] theorem encS_rows (l : List Str) : Rows 1 (l.map encS) := Rows_map 1 encS (fun _ => ⟨rfl, rfl⟩) l

theorem Ty.ind {p : Ty → Prop} (h : ∀ n as pos, (∀ t ∈ as, p t) → p (.mk n as pos)) : ∀ t, p t := by
  intro t
  exact Ty.rec (motive_1 := p) (motive_2 := fun l => ∀ t ∈ l, p t) (fun n as pos ih => h n as pos ih) (fun t ht => by cases ht) (fun t l h1 h2 x hx => by
    rcases List.mem_cons.1 hx with rfl | hx
    · exact h1
    · exact h2 x hx) t

end Go.Pv
end

section
/- Ranges over functions. -/
namespace Go.Pv
open Go

def tmOk (T : List Nat) (tm0 tm : List (Nat × TV)) : Bool := tm0.all fun q => q.2.bareT || (match q.2 with
  | .lp k o => T.contains q.1 && (match look q.1 tm with | some (.lp k' o') => k' == k && o' == o | _ => false)
  | _ => false)

def AS.out (σ : AS) (bs : List Nat) (τ : AS) (m : Nat) : AS := { σ with bx := pick bs τ.bx, tb := τ.tb.filter fun q => (look q.1 (pick bs τ.bx)).isSome, sh := [], mks := m }

end Go.Pv
end

section
/- A range over a function, the elements handed out to a body that is walked once. -/
namespace Go.Pv
open Go

def roundQ (P : Program) (gl : Gl) (σ : AS) (T : List Nat) (I : List AV → AS) (go : List AV → AV → Bool) (s : List AV) (x : AV) (Q : Exit → AS → Prop) : Exit → AS → Prop
  | .normal, τ => go s x = true ∧ tmOk T σ.tm τ.tm = true ∧ ∃ bs, lpOk (pick bs τ.bx) σ.tm = true ∧ σ.out bs τ σ.mks = I (s ++ [x])
  | .ret, τ => go s x = false ∧ tmOk T σ.tm τ.tm = true ∧ ∃ bs, lpOk (pick bs τ.bx) σ.tm = true ∧ AT P gl .ret (σ.out bs τ (σ.mks + 1)) Q
  | .exit id, τ => go s x = false ∧ tmOk T σ.tm τ.tm = true ∧ ∃ bs, lpOk (pick bs τ.bx) σ.tm = true ∧ AT P gl (.exit id) (σ.out bs τ (σ.mks + 1)) Q
  | _, _ => False

section
variable {w : World} {l : Nat} {rc : Loop} (h : w.heap[l]? = some (.loop rc)) (o : Obj)
include h
end

end Go.Pv
end

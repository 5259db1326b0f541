import Derived.Test.YtocmdbojefgpbaaGreatDoorPvV
import Derived.Shelf.Spec.SlicesGrow
import Derived.Test.YtocmdbojefgpbaaGreatDoorPvDb
import Derived.Test.YtocmdbojefgpbaaGreatDoorPvMd
set_option linter.all false
section
/- slices.Grow at the nil slice: it hands back a row of its own. -/
namespace Go.Pv
open Go Go.Shelf Go.Proofs

end Go.Pv
end

section
/- Types of declarations: lists of lists. -/
namespace Go.Pv
open Go

def encTL (l : List Ty) : List AV := [.slice (l.map encTy)]
@[simp] theorem encTL_len (l : List Ty) : (encTL l).length = 1 := rfl
@[simp] theorem encTL_one (l : List Ty) : (encTL l).all AV.one = true := rfl
@[simp] theorem encTL_rows (l : List (List Ty)) : Rows 1 (l.map encTL) := Rows_map 1 encTL (fun t => ⟨encTL_len t, encTL_one t⟩) l

def flT {α : Type} (l : List (List α)) (k : Nat) : List α := (l.take k).flatten
def flN {α : Type} (l : List (List α)) (k : Nat) : Nat := (flT l k).length
def partsE (x : Exp) : List Ty := x.ta ++ if typedE x.kind then [x.ty] else []
def bodL (e : Exp) : List (List Ty) := (lstE e).map partsE
@[simp] theorem bodL_len (e : Exp) : (bodL e).length = (lstE e).length := by simp [bodL]
def headD (d : Dc) : List Ty := d.fms.map Fm.ty ++ d.flds.map Fm.ty
def sigL (d : Dc) : List (List Ty) := d.sigs.map tysG
def tailD (d : Dc) : List Ty := if d.kind == 3 then tysG d.sig ++ tysE d.body else []
def declL (p : Pg) : List (List Ty) := p.decls.map tysD
def sigA (d : Dc) : List Ty := (sigL d).flatten
def declA (p : Pg) : List Ty := (declL p).flatten
@[simp] theorem sigL_len (d : Dc) : (sigL d).length = d.sigs.length := by simp [sigL]
@[simp] theorem declL_len (p : Pg) : (declL p).length = p.decls.length := by simp [declL]
def flatTy (t : Ty) : Bool := t.args.isEmpty
def bareX (x : Exp) : Bool := x.ta.isEmpty
def bareS (s : Sg) : Bool := s.fms.isEmpty
def plainD (d : Dc) : Bool := d.fms.isEmpty && d.vars.isEmpty && d.sigs.all bareS && bareS d.sig && bareE d.body
theorem rows_take {n : Nat} {l : List (List AV)} (k : Nat) (h : Rows n l) : Rows n (l.take k) := fun r hr => h r (List.mem_of_mem_take hr)
end Go.Pv
end

section
/- Counting soon stops: how much it counts at most. -/
namespace Go.Pv
open Go

theorem fitPg1 {d : Dc} (h : fitD d) : fitPg ⟨[d], ex0⟩ := ⟨⟨by simp, fun x hx => by rw [List.mem_singleton.1 hx]; exact h⟩, by simp [ex0, fitE, ty0, fit, fits, fitEs]⟩
theorem cnt_ub : ∀ t : Ty, fit t → ∀ k : Nat, cnt t k ≤ max k 2000 + 3000000000000 := by
  intro t
  induction t using Ty.ind with
  | h n ts p ih =>
  intro hf k
  rw [fit] at hf
  obtain ⟨hf1, hf2, hf3⟩ := hf
  have key : ∀ l : List Ty, (∀ x ∈ l, x ∈ ts) → ∀ c : Nat, cnts l c ≤ max c 3000000002000 := by
    intro l
    induction l with
    | nil => intro _ c; rw [cnts]; omega
    | cons x r ihr =>
      intro hx c
      rw [cnts_cons]
      split
      · have h1 := ih x (hx x (by simp)) (fits_mem hf3 (hx x (by simp))) c
        have h2 := ihr (fun y hy => hx y (by simp [hy])) (cnt x c)
        omega
      · omega
  rw [cnt]
  have := key ts (fun x h => h) (k + 1 + n.length / 50)
  omega
theorem cntFs_ub {l : List Fm} (hf : ∀ f ∈ l, fitF f) (c : Nat) : cntFs l c ≤ max c 6000000002000 := by
  induction l generalizing c with
  | nil => rw [cntFs]; omega
  | cons x r ih =>
    rw [cntFs]
    split
    · have h0 := hf x (by simp)
      have h1 := cnt_ub x.ty h0.2 (c + 1 + x.name.length / 50)
      have h2 := ih (fun f h => hf f (by simp [h])) (cnt x.ty (c + 1 + x.name.length / 50))
      have h3 := h0.1
      omega
    · omega
theorem cntG_ub {s : Sg} (hf : fitG s) (c : Nat) : cntG s c ≤ max c 2000 + 12000000000000 := by
  obtain ⟨h1, ⟨-, h2⟩, ⟨-, h3⟩, h4⟩ := hf
  have e1 := cntFs_ub h2 (c + s.name.length / 50)
  have e2 := cntFs_ub h3 (cntFs s.fms (c + s.name.length / 50))
  have e3 := cnt_ub s.res h4 (cntFs s.pms (cntFs s.fms (c + s.name.length / 50)))
  rw [cntG]
  omega
theorem cntFs_cons (f : Fm) (r : List Fm) (n : Nat) : cntFs (f :: r) n = if n ≤ 2000 then cntFs r (cnt f.ty (n + 1 + f.name.length / 50)) else n := rfl
theorem cntGs_cons (f : Sg) (r : List Sg) (n : Nat) : cntGs (f :: r) n = if n ≤ 2000 then cntGs r (cntG f n) else n := rfl
theorem cntVs_cons (f : Str) (r : List Str) (n : Nat) : cntVs (f :: r) n = if n ≤ 2000 then cntVs r (n + 1 + f.length / 50) else n := rfl
theorem cntDs_cons (f : Dc) (r : List Dc) (n : Nat) : cntDs (f :: r) n = if n ≤ 2000 then cntDs r (cntD f n) else n := rfl

end Go.Pv
end

import Derived.Test.YtdifpfehijnmiaaGreatDoorPvDc
import Derived.Test.YtdifpfehijnmiaaGreatDoorPvMb
import Derived.Test.YtdifpfehijnmiaaGreatDoorPvPb
import Derived.Test.YtdifpfehijnmiaaGreatDoorPvP
set_option linter.all false
section
/- Types of declarations: lists of lists. -/
namespace Go.Pv
open Go

def encTL (l : List Ty) : List AV := [.slice (l.map encTy)]
@[simp] theorem encTL_len (l : List Ty) : (encTL l).length = 1 := rfl
@[simp] theorem encTL_one (l : List Ty) : (encTL l).all AV.one = true := rfl
@[simp] theorem encTL_rows (l : List (List Ty)) : Rows 1 (l.map encTL) := Rows_map 1 encTL (fun t => ⟨encTL_len t, encTL_one t⟩) l

def flT {α : Type} (l : List (List α)) (k : Nat) : List α := (l.take k).flatten
def flN {α : Type} (l : List (List α)) (k : Nat) : Nat := (flT l k).length
theorem flT_nil {α : Type} (l : List (List α)) : flT l 0 = [] := rfl
theorem flN_nil {α : Type} (l : List (List α)) : flN l 0 = 0 := rfl
theorem flT_succ {α : Type} (l : List (List α)) (k : Nat) (hk : k < l.length) : flT l (k + 1) = flT l k ++ l[k] := by
  unfold flT
  rw [List.take_succ_eq_append_getElem hk, List.flatten_append]
  simp
theorem flN_succ {α : Type} (l : List (List α)) (k : Nat) (hk : k < l.length) : flN l (k + 1) = flN l k + l[k].length := by
  unfold flN
  rw [flT_succ l k hk, List.length_append]
theorem flT_all {α : Type} (l : List (List α)) : flT l l.length = l.flatten := by simp [flT]
theorem flN_all {α : Type} (l : List (List α)) : flN l l.length = l.flatten.length := by unfold flN; rw [flT_all]
theorem flT_len {α : Type} (l : List (List α)) (k : Nat) : (flT l k).length = flN l k := rfl
theorem flN_le {α : Type} (l : List (List α)) (k : Nat) : flN l k ≤ l.flatten.length := by
  have h := congrArg (fun x => x.flatten.length) (List.take_append_drop k l)
  simp only [List.flatten_append, List.length_append] at h
  unfold flN flT
  omega

def partsE (x : Exp) : List Ty := x.ta ++ if typedE x.kind then [x.ty] else []
def bodL (e : Exp) : List (List Ty) := (lstE e).map partsE
theorem tysE_bod (e : Exp) : tysE e = (bodL e).flatten := rfl
@[simp] theorem bodL_len (e : Exp) : (bodL e).length = (lstE e).length := by simp [bodL]
theorem bodL_at (e : Exp) (k : Nat) (hk : k < (lstE e).length) : (bodL e)[k]'(by simpa using hk) = partsE (lstE e)[k] := by simp [bodL]
theorem partsE_yes {x : Exp} (h : typedE x.kind = true) : partsE x = x.ta ++ [x.ty] := by rw [partsE, if_pos h]
theorem partsE_no {x : Exp} (h : typedE x.kind = false) : partsE x = x.ta := by rw [partsE, if_neg (by rw [h]; exact Bool.false_ne_true), List.append_nil]
theorem bod_succ (e : Exp) (k : Nat) (hk : k < (lstE e).length) : flT (bodL e) (k + 1) = flT (bodL e) k ++ partsE (lstE e)[k] := by
  rw [flT_succ _ _ (by simpa using hk), bodL_at e k hk]
theorem bod_all (e : Exp) : flT (bodL e) (lstE e).length = tysE e := by
  have h := flT_all (bodL e)
  rw [bodL_len] at h
  exact h
theorem bod_le (e : Exp) (k : Nat) (hk : k < (lstE e).length) : flN (bodL e) k + (partsE (lstE e)[k]).length ≤ wtE e := by
  have h1 := flN_succ (bodL e) k (by simpa using hk)
  rw [bodL_at e k hk] at h1
  have h2 := flN_le (bodL e) (k + 1)
  have h3 := wts_len (tysE e)
  have h4 := wts_tysE e
  rw [tysE_bod] at h3 h4
  omega
theorem ta_le (x : Exp) : x.ta.length ≤ (partsE x).length := by rw [partsE, List.length_append]; omega

def headD (d : Dc) : List Ty := d.fms.map Fm.ty ++ d.flds.map Fm.ty
def sigL (d : Dc) : List (List Ty) := d.sigs.map tysG
def tailD (d : Dc) : List Ty := if d.kind == 3 then tysG d.sig ++ tysE d.body else []
def declL (p : Pg) : List (List Ty) := p.decls.map tysD
def sigA (d : Dc) : List Ty := (sigL d).flatten
def declA (p : Pg) : List Ty := (declL p).flatten
theorem tysD_parts (d : Dc) : tysD d = headD d ++ sigA d ++ tailD d := by simp [tysD, headD, sigA, sigL, tailD]
theorem tysP_parts (p : Pg) : tysP p = declA p ++ tysE p.main := rfl
@[simp] theorem sigL_len (d : Dc) : (sigL d).length = d.sigs.length := by simp [sigL]
@[simp] theorem declL_len (p : Pg) : (declL p).length = p.decls.length := by simp [declL]
theorem tailD_yes {d : Dc} (h : d.kind = 3) : tailD d = tysG d.sig ++ tysE d.body := by simp [tailD, h]
theorem tailD_no {d : Dc} (h : (d.kind == 3) = false) : tailD d = [] := by simp [tailD, h]
theorem sig_succ (d : Dc) (m : Nat) (hm : m < d.sigs.length) : flT (sigL d) (m + 1) = flT (sigL d) m ++ tysG d.sigs[m] := by
  rw [flT_succ _ _ (by simpa using hm)]; simp [sigL]
theorem sig_all (d : Dc) : flT (sigL d) d.sigs.length = sigA d := by
  have h := flT_all (sigL d)
  rwa [sigL_len] at h
theorem sig_le (d : Dc) (m : Nat) (hm : m < d.sigs.length) : flN (sigL d) m + (tysG d.sigs[m]).length ≤ (sigA d).length := by
  unfold sigA
  have h1 := flN_succ (sigL d) m (by simpa using hm)
  have h2 := flN_le (sigL d) (m + 1)
  have h3 : (sigL d)[m]'(by simpa using hm) = tysG d.sigs[m] := by simp [sigL]
  rw [h3] at h1
  omega
theorem decl_succ (p : Pg) (k : Nat) (hk : k < p.decls.length) : flT (declL p) (k + 1) = flT (declL p) k ++ (headD p.decls[k] ++ sigA p.decls[k] ++ tailD p.decls[k]) := by
  rw [flT_succ _ _ (by simpa using hk), ← tysD_parts]; simp [declL]
theorem decl_all (p : Pg) : flT (declL p) p.decls.length = declA p := by
  have h := flT_all (declL p)
  rwa [declL_len] at h
theorem decl_le (p : Pg) (k : Nat) (hk : k < p.decls.length) : flN (declL p) k + ((headD p.decls[k]).length + (sigA p.decls[k]).length + (tailD p.decls[k]).length) ≤ (declA p).length := by
  unfold declA
  have h1 := flN_succ (declL p) k (by simpa using hk)
  have h2 := flN_le (declL p) (k + 1)
  have h3 : (declL p)[k]'(by simpa using hk) = tysD p.decls[k] := by simp [declL]
  rw [h3, tysD_parts, List.length_append, List.length_append] at h1
  omega
theorem tysP_len (p : Pg) : (declA p).length + (tysE p.main).length ≤ wtPg p := by
  have h1 := wts_len (tysP p)
  have h2 := wts_tysP p
  have h3 : (tysP p).length = (declA p).length + (tysE p.main).length := by rw [tysP_parts, List.length_append]
  omega
theorem headD_len (d : Dc) : (headD d).length = d.fms.length + d.flds.length := by simp [headD]
def flatTy (t : Ty) : Bool := t.args.isEmpty
def bareX (x : Exp) : Bool := x.ta.isEmpty
theorem flatTy_mk (n : Str) (ls : List Ty) (p : Int) : flatTy (.mk n ls p) = ls.isEmpty := rfl
theorem bareX_mk (k : Int) (n : Str) (t : Ty) (a : List Ty) (l : List Exp) (p : Int) : bareX (.mk k n t a l p) = a.isEmpty := rfl
theorem bareE_all (e : Exp) : bareE e = (lstE e).all bareX := rfl
def bareS (s : Sg) : Bool := s.fms.isEmpty
def plainD (d : Dc) : Bool := d.fms.isEmpty && d.vars.isEmpty && d.sigs.all bareS && bareS d.sig && bareE d.body
theorem plainP_eq (p : Pg) : plainP p = ((tysP p).all flatTy && bareE p.main && p.decls.all plainD) := rfl
theorem len_is0 {α : Type} (l : List α) : ((l.length : Int) == 0) = l.isEmpty := by
  cases l with
  | nil => rfl
  | cons x r => simp <;> omega
theorem ne0 {α : Type} {l : List α} (h : 0 < l.length) : l.isEmpty = false := by
  cases l with
  | nil => cases h
  | cons x r => rfl
theorem rows_take {n : Nat} {l : List (List AV)} (k : Nat) (h : Rows n l) : Rows n (l.take k) := fun r hr => h r (List.mem_of_mem_take hr)
theorem nn_add (a b : Nat) : 0 ≤ (a : Int) + b := by omega

end Go.Pv
end

section
/- Counting soon stops: how much it counts at most. -/
namespace Go.Pv
open Go

theorem cnt_ub : ∀ t : Ty, fit t → ∀ k : Nat, cnt t k ≤ max k 2000 + 3000000000000 := by
  intro t
  induction t using Ty.ind with
  | h n ts p ih =>
  intro hf k
  rw [fit] at hf
  obtain ⟨hf1, hf2, hf3⟩ := hf
  have key : ∀ l : List Ty, (∀ x ∈ l, x ∈ ts) → ∀ c : Nat, cnts l c ≤ max c 3000000002000 := by
    intro l
    induction l with
    | nil => intro _ c; rw [cnts]; omega
    | cons x r ihr =>
      intro hx c
      rw [cnts_cons]
      split
      · have h1 := ih x (hx x (by simp)) (fits_mem hf3 (hx x (by simp))) c
        have h2 := ihr (fun y hy => hx y (by simp [hy])) (cnt x c)
        omega
      · omega
  rw [cnt]
  have := key ts (fun x h => h) (k + 1 + n.length / 50)
  omega
theorem cntFs_ub {l : List Fm} (hf : ∀ f ∈ l, fitF f) (c : Nat) : cntFs l c ≤ max c 6000000002000 := by
  induction l generalizing c with
  | nil => rw [cntFs]; omega
  | cons x r ih =>
    rw [cntFs]
    split
    · have h0 := hf x (by simp)
      have h1 := cnt_ub x.ty h0.2 (c + 1 + x.name.length / 50)
      have h2 := ih (fun f h => hf f (by simp [h])) (cnt x.ty (c + 1 + x.name.length / 50))
      have h3 := h0.1
      omega
    · omega
theorem cntG_ub {s : Sg} (hf : fitG s) (c : Nat) : cntG s c ≤ max c 2000 + 12000000000000 := by
  obtain ⟨h1, ⟨-, h2⟩, ⟨-, h3⟩, h4⟩ := hf
  have e1 := cntFs_ub h2 (c + s.name.length / 50)
  have e2 := cntFs_ub h3 (cntFs s.fms (c + s.name.length / 50))
  have e3 := cnt_ub s.res h4 (cntFs s.pms (cntFs s.fms (c + s.name.length / 50)))
  rw [cntG]
  omega
theorem cntFs_cons (f : Fm) (r : List Fm) (n : Nat) : cntFs (f :: r) n = if n ≤ 2000 then cntFs r (cnt f.ty (n + 1 + f.name.length / 50)) else n := rfl
theorem cntGs_cons (f : Sg) (r : List Sg) (n : Nat) : cntGs (f :: r) n = if n ≤ 2000 then cntGs r (cntG f n) else n := rfl
theorem cntVs_cons (f : Str) (r : List Str) (n : Nat) : cntVs (f :: r) n = if n ≤ 2000 then cntVs r (n + 1 + f.length / 50) else n := rfl
theorem cntDs_cons (f : Dc) (r : List Dc) (n : Nat) : cntDs (f :: r) n = if n ≤ 2000 then cntDs r (cntD f n) else n := rfl

end Go.Pv
end

section
/- Functions that read with an object that a frozen box leads to. -/
namespace Go.Pv
open Go

def ValidD (P : Program) (gl : Gl) (f : FuncId) (args : List AV) (b : Nat) (c : List AV) (r : AV) (c' : List AV) : Prop :=
  ValidH P gl f args [(b, c)] fun r' sh' => r' = r ∧ sh' = [(b, c')]

section
variable {P : Program} {gl : Gl} {ops : Array Oper} {o : Oper} {rest : List Oper} {σ : AS} {K : AS → Prop}
end
end Go.Pv
end

import Derived.Test.YtocmdbojefgpbaaGreatDoorPvMd
set_option linter.all false
section
/- The sizes of expressions behind substituting and replacing. -/
namespace Go.Pv
open Go

end Go.Pv
end

section
/- Declarations and programs as plain data, as values, and what the functions on them compute. -/
namespace Go.Pv
open Go

structure Fm where
  name : Str
  ty : Ty
  pos : Int

structure Sg where
  name : Str
  fms : List Fm
  pms : List Fm
  res : Ty
  pos : Int

structure Dc where
  kind : Int
  name : Str
  fms : List Fm
  flds : List Fm
  sigs : List Sg
  recv : Str
  vars : List Str
  sig : Sg
  body : Exp
  pos : Int

structure Pg where
  decls : List Dc
  main : Exp

def encF (f : Fm) : List AV := [.str f.name, .str f.ty.name, .slice (f.ty.args.map encTy), .int .i64 f.ty.pos, .int .i64 f.pos]
def encG (s : Sg) : List AV := [.str s.name, .slice (s.fms.map encF), .slice (s.pms.map encF), .str s.res.name, .slice (s.res.args.map encTy), .int .i64 s.res.pos, .int .i64 s.pos]
def encD (d : Dc) : List AV := [.int .i64 d.kind, .str d.name, .slice (d.fms.map encF), .slice (d.flds.map encF), .slice (d.sigs.map encG), .str d.recv, .slice (d.vars.map encS),
  .str d.sig.name, .slice (d.sig.fms.map encF), .slice (d.sig.pms.map encF), .str d.sig.res.name, .slice (d.sig.res.args.map encTy), .int .i64 d.sig.res.pos, .int .i64 d.sig.pos,
  .int .i64 d.body.kind, .str d.body.name, .str d.body.ty.name, .slice (d.body.ty.args.map encTy), .int .i64 d.body.ty.pos, .slice (d.body.ta.map encTy), .slice (d.body.kids.map encE), .int .i64 d.body.pos, .int .i64 d.pos]
def encPg (p : Pg) : List AV := [.slice (p.decls.map encD), .int .i64 p.main.kind, .str p.main.name, .str p.main.ty.name, .slice (p.main.ty.args.map encTy), .int .i64 p.main.ty.pos, .slice (p.main.ta.map encTy), .slice (p.main.kids.map encE), .int .i64 p.main.pos]

@[simp] theorem encF_len (f : Fm) : (encF f).length = 5 := rfl
@[simp] theorem encF_one (f : Fm) : (encF f).all AV.one = true := rfl
@[simp] theorem encG_len (f : Sg) : (encG f).length = 7 := rfl
@[simp] theorem encG_one (f : Sg) : (encG f).all AV.one = true := rfl
@[simp] theorem encD_len (f : Dc) : (encD f).length = 23 := rfl
@[simp] theorem encD_one (f : Dc) : (encD f).all AV.one = true := rfl
@[simp] theorem encPg_len (f : Pg) : (encPg f).length = 9 := rfl
@[simp] theorem encPg_one (f : Pg) : (encPg f).all AV.one = true := rfl
@[simp] theorem encF_rows (l : List Fm) : Rows 5 (l.map encF) := Rows_map 5 encF (fun t => ⟨encF_len t, encF_one t⟩) l
@[simp] theorem encG_rows (l : List Sg) : Rows 7 (l.map encG) := Rows_map 7 encG (fun t => ⟨encG_len t, encG_one t⟩) l
@[simp] theorem encD_rows (l : List Dc) : Rows 23 (l.map encD) := Rows_map 23 encD (fun t => ⟨encD_len t, encD_one t⟩) l
@[simp] theorem encF_take (f : Fm) : (encF f).take 5 = encF f := rfl
@[simp] theorem encF_drop (f : Fm) : (encF f).drop 5 = [] := rfl
@[simp] theorem encG_take (f : Sg) : (encG f).take 7 = encG f := rfl
@[simp] theorem encG_drop (f : Sg) : (encG f).drop 7 = [] := rfl
@[simp] theorem encD_take (f : Dc) : (encD f).take 23 = encD f := rfl
@[simp] theorem encD_drop (f : Dc) : (encD f).drop 23 = [] := rfl
@[simp] theorem encPg_take (f : Pg) : (encPg f).take 9 = encPg f := rfl
@[simp] theorem encPg_drop (f : Pg) : (encPg f).drop 9 = [] := rfl
def wtF (f : Fm) : Nat := f.name.length + 1 + wt f.ty
def wtFs : List Fm → Nat | [] => 0 | f :: r => wtF f + wtFs r
def wtG (s : Sg) : Nat := s.name.length + 1 + wtFs s.fms + wtFs s.pms + wt s.res
def wtGs : List Sg → Nat | [] => 0 | f :: r => wtG f + wtGs r
def wtSs : List Str → Nat | [] => 0 | f :: r => f.length + 1 + wtSs r
def wtD (d : Dc) : Nat := d.name.length + 1 + wtFs d.fms + wtFs d.flds + wtGs d.sigs + d.recv.length + wtSs d.vars + wtG d.sig + wtE d.body
def wtDs : List Dc → Nat | [] => 0 | f :: r => wtD f + wtDs r
def wtPg (p : Pg) : Nat := wtDs p.decls + wtE p.main

def eqL {α β : Type} (f : α → β → Bool) : List α → List β → Bool
  | [], [] => true
  | t :: r, u :: s => f t u && eqL f r s
  | _, _ => false
section
variable {α β : Type} {f : α → β → Bool}
end
def sameF (a b : Fm) : Bool := a.name == b.name && cmpT a.ty b.ty == 0
def sameG (a b : Sg) : Bool := a.name == b.name && eqL sameF a.fms b.fms && eqL sameF a.pms b.pms && cmpT a.res b.res == 0
def sameD (a b : Dc) : Bool := a.kind == b.kind && a.name == b.name && eqL sameF a.fms b.fms && eqL sameF a.flds b.flds && eqL sameG a.sigs b.sigs && a.recv == b.recv && eqL (· == ·) a.vars b.vars && sameG a.sig b.sig && sameE a.body b.body
def sameP (a b : Pg) : Bool := eqL sameD a.decls b.decls && sameE a.main b.main
def eqF (ex : Bool) (a b : Fm) : Bool := a.name == b.name && cmpT a.ty b.ty == 0 && (!ex || (a.pos == b.pos && eqT a.ty b.ty))
def eqG (ex : Bool) (a b : Sg) : Bool := a.name == b.name && eqL (eqF ex) a.fms b.fms && eqL (eqF ex) a.pms b.pms && cmpT a.res b.res == 0 && (!ex || (a.pos == b.pos && eqT a.res b.res))
def eqD (ex : Bool) (a b : Dc) : Bool := a.kind == b.kind && a.name == b.name && a.recv == b.recv && eqL (eqF ex) a.fms b.fms && eqL (eqF ex) a.flds b.flds && eqL (eqG ex) a.sigs b.sigs && eqL (· == ·) a.vars b.vars && eqG ex a.sig b.sig && sameE a.body b.body && (!ex || (a.pos == b.pos && eqE a.body b.body))
def sg0 : Sg := ⟨[], [], [], ty0, 0⟩
def dc0 : Dc := ⟨0, [], [], [], [], [], [], sg0, ex0, 0⟩
def rightF (f : Fm) : Bool := isName f.name && rightT f.ty
def rightG (s : Sg) : Bool := isName s.name && s.fms.all rightF && s.pms.all rightF && rightT s.res
def rightD (d : Dc) : Bool := isName d.name &&
  (if d.kind == 3 then sameD d { dc0 with kind := d.kind, name := d.name, recv := d.recv, vars := d.vars, sig := d.sig, body := d.body } && isName d.recv && d.vars.all isName && rightG d.sig && rightE d.body
   else if d.kind == 1 then sameD d { dc0 with kind := d.kind, name := d.name, fms := d.fms, flds := d.flds } && d.fms.all rightF && d.flds.all rightF && d.sigs.all rightG
   else if d.kind == 2 then sameD d { dc0 with kind := d.kind, name := d.name, fms := d.fms, sigs := d.sigs } && d.fms.all rightF && d.flds.all rightF && d.sigs.all rightG
   else false)
def rightDR (d : Dc) : Bool := isName d.name && d.fms.all rightF && d.flds.all rightF && d.sigs.all rightG && d.vars.all isName &&
  (if d.kind == 3 then isName d.recv && (d.fms.length + d.flds.length + d.sigs.length == 0) && rightG d.sig && rightE d.body
   else (d.recv.isEmpty && d.vars.length == 0 && eqG false d.sig sg0 && sameE d.body ex0) && ((d.kind == 1 && d.sigs.length == 0) || (d.kind == 2 && d.flds.length == 0)))
def rightPg (p : Pg) : Bool := p.decls.all rightD && rightE p.main

def tysG (s : Sg) : List Ty := s.fms.map Fm.ty ++ s.pms.map Fm.ty ++ [s.res]
def tysE (e : Exp) : List Ty := ((lstE e).map fun x => x.ta ++ if typedE x.kind then [x.ty] else []).flatten
def tysD (d : Dc) : List Ty := d.fms.map Fm.ty ++ d.flds.map Fm.ty ++ (d.sigs.map tysG).flatten ++ if d.kind == 3 then tysG d.sig ++ tysE d.body else []
def tysP (p : Pg) : List Ty := (p.decls.map tysD).flatten ++ tysE p.main
def depP (p : Pg) : Nat := max (max (depE p.main) (deps (tysP p))) ((p.decls.map fun d => if d.kind == 3 then depE d.body else 0).foldr max 0)
def bareE (e : Exp) : Bool := (lstE e).all fun x => x.ta.isEmpty
def plainP (p : Pg) : Bool := (tysP p).all (fun t => t.args.isEmpty) && bareE p.main &&
  p.decls.all fun d => d.fms.isEmpty && d.vars.isEmpty && d.sigs.all (fun s => s.fms.isEmpty) && d.sig.fms.isEmpty && bareE d.body

def cntFs : List Fm → Nat → Nat | [], n => n | f :: r, n => if n ≤ 2000 then cntFs r (cnt f.ty (n + 1 + f.name.length / 50)) else n
def cntG (s : Sg) (n : Nat) : Nat := cnt s.res (cntFs s.pms (cntFs s.fms (n + s.name.length / 50)))
def cntGs : List Sg → Nat → Nat | [], n => n | s :: r, n => if n ≤ 2000 then cntGs r (cntG s n) else n
def cntVs : List Str → Nat → Nat | [], n => n | v :: r, n => if n ≤ 2000 then cntVs r (n + 1 + v.length / 50) else n
def cntD (d : Dc) (n : Nat) : Nat :=
  let m := cntVs d.vars (cntGs d.sigs (cntFs d.flds (cntFs d.fms (n + 1 + d.name.length / 50 + d.recv.length / 50))))
  if m ≤ 2000 then cntE d.body (cntG d.sig m) else m
def cntDs : List Dc → Nat → Nat | [], n => n | d :: r, n => if n ≤ 2000 then cntDs r (cntD d n) else n
def cntPg (p : Pg) : Nat := cntDs p.decls (cntE p.main 0)

end Go.Pv
end

section
/- The sizes of declarations that a law keeps. -/
namespace Go.Pv
open Go

def fitF (f : Fm) : Prop := f.name.length ≤ 140737488355328 ∧ fit f.ty
def fitFs (l : List Fm) : Prop := l.length ≤ 140737488355328 ∧ ∀ f ∈ l, fitF f
def fitG (s : Sg) : Prop := s.name.length ≤ 140737488355328 ∧ fitFs s.fms ∧ fitFs s.pms ∧ fit s.res
def fitD (d : Dc) : Prop := d.name.length ≤ 140737488355328 ∧ fitFs d.fms ∧ fitFs d.flds ∧ (d.sigs.length ≤ 140737488355328 ∧ ∀ s ∈ d.sigs, fitG s) ∧ d.recv.length ≤ 140737488355328 ∧ (d.vars.length ≤ 140737488355328 ∧ ∀ v ∈ d.vars, v.length ≤ 140737488355328) ∧ fitG d.sig ∧ fitE d.body
def fitPg (p : Pg) : Prop := (p.decls.length ≤ 140737488355328 ∧ ∀ d ∈ p.decls, fitD d) ∧ fitE p.main

def fsum (f : Fm) : Nat := 1 + f.name.length / 50 + csum f.ty
def fsums : List Fm → Nat | [] => 0 | f :: r => fsum f + fsums r
def gsum (s : Sg) : Nat := s.name.length / 50 + fsums s.fms + fsums s.pms + csum s.res
def gsums : List Sg → Nat | [] => 0 | f :: r => gsum f + gsums r
def vsums : List Str → Nat | [] => 0 | f :: r => 1 + f.length / 50 + vsums r
def dsum (d : Dc) : Nat := 1 + d.name.length / 50 + d.recv.length / 50 + fsums d.fms + fsums d.flds + gsums d.sigs + vsums d.vars + gsum d.sig + esum d.body
def dsums : List Dc → Nat | [] => 0 | f :: r => dsum f + dsums r

theorem cntFs_sum : ∀ (l : List Fm) (k : Nat), k ≤ cntFs l k ∧ (cntFs l k ≤ 2000 → cntFs l k = k + fsums l)
  | [], k => by simp [cntFs, fsums]
  | f :: l, k => by
    have h1 := cnt_sum f.ty (k + 1 + f.name.length / 50)
    have h2 := cntFs_sum l (cnt f.ty (k + 1 + f.name.length / 50))
    rw [cntFs, fsums, fsum]
    split
    · refine ⟨by omega, fun h3 => ?_⟩
      have h4 := h2.2 h3
      have h5 := h1.2 (by omega)
      omega
    · exact ⟨Nat.le_refl _, fun h3 => by omega⟩
theorem cntG_sum (s : Sg) (k : Nat) : k ≤ cntG s k ∧ (cntG s k ≤ 2000 → cntG s k = k + gsum s) := by
  have h1 := cntFs_sum s.fms (k + s.name.length / 50)
  have h2 := cntFs_sum s.pms (cntFs s.fms (k + s.name.length / 50))
  have h3 := cnt_sum s.res (cntFs s.pms (cntFs s.fms (k + s.name.length / 50)))
  rw [cntG, gsum]
  refine ⟨by omega, fun h => ?_⟩
  have h4 := h3.2 h
  have h5 := h2.2 (by omega)
  have h6 := h1.2 (by omega)
  omega
theorem cntGs_sum : ∀ (l : List Sg) (k : Nat), k ≤ cntGs l k ∧ (cntGs l k ≤ 2000 → cntGs l k = k + gsums l)
  | [], k => by simp [cntGs, gsums]
  | f :: l, k => by
    have h1 := cntG_sum f k
    have h2 := cntGs_sum l (cntG f k)
    rw [cntGs, gsums]
    split
    · refine ⟨by omega, fun h3 => ?_⟩
      have h4 := h2.2 h3
      have h5 := h1.2 (by omega)
      omega
    · exact ⟨Nat.le_refl _, fun h3 => by omega⟩
theorem cntVs_sum : ∀ (l : List Str) (k : Nat), k ≤ cntVs l k ∧ (cntVs l k ≤ 2000 → cntVs l k = k + vsums l)
  | [], k => by simp [cntVs, vsums]
  | f :: l, k => by
    have h2 := cntVs_sum l (k + 1 + f.length / 50)
    rw [cntVs, vsums]
    split
    · refine ⟨by omega, fun h3 => ?_⟩
      have h4 := h2.2 h3
      omega
    · exact ⟨Nat.le_refl _, fun h3 => by omega⟩
theorem cntD_sum (d : Dc) (k : Nat) : k ≤ cntD d k ∧ (cntD d k ≤ 2000 → cntD d k = k + dsum d) := by
  have h1 := cntFs_sum d.fms (k + 1 + d.name.length / 50 + d.recv.length / 50)
  have h2 := cntFs_sum d.flds (cntFs d.fms (k + 1 + d.name.length / 50 + d.recv.length / 50))
  have h3 := cntGs_sum d.sigs (cntFs d.flds (cntFs d.fms (k + 1 + d.name.length / 50 + d.recv.length / 50)))
  have h4 := cntVs_sum d.vars (cntGs d.sigs (cntFs d.flds (cntFs d.fms (k + 1 + d.name.length / 50 + d.recv.length / 50))))
  rw [cntD, dsum]
  generalize hm : cntVs d.vars (cntGs d.sigs (cntFs d.flds (cntFs d.fms (k + 1 + d.name.length / 50 + d.recv.length / 50)))) = m at *
  have h5 := cntG_sum d.sig m
  have h6 := cntE_sum d.body (cntG d.sig m)
  split
  · refine ⟨by omega, fun h => ?_⟩
    have h7 := h6.2 h
    have h8 := h5.2 (by omega)
    have h9 := h4.2 (by omega)
    have h10 := h3.2 (by omega)
    have h11 := h2.2 (by omega)
    have h12 := h1.2 (by omega)
    omega
  · exact ⟨by omega, fun h => by omega⟩
theorem cntDs_sum : ∀ (l : List Dc) (k : Nat), k ≤ cntDs l k ∧ (cntDs l k ≤ 2000 → cntDs l k = k + dsums l)
  | [], k => by simp [cntDs, dsums]
  | f :: l, k => by
    have h1 := cntD_sum f k
    have h2 := cntDs_sum l (cntD f k)
    rw [cntDs, dsums]
    split
    · refine ⟨by omega, fun h3 => ?_⟩
      have h4 := h2.2 h3
      have h5 := h1.2 (by omega)
      omega
    · exact ⟨Nat.le_refl _, fun h3 => by omega⟩

theorem wtF_sum (f : Fm) : wtF f ≤ 50 * fsum f := by have := wt_sum f.ty; rw [wtF, fsum]; omega
theorem wtFs_sum : ∀ l : List Fm, wtFs l ≤ 50 * fsums l
  | [] => by simp [wtFs, fsums]
  | f :: l => by have h1 := wtF_sum f; have h2 := wtFs_sum l; simp only [wtFs, fsums]; omega
theorem wtG_sum (s : Sg) : wtG s ≤ 100 * gsum s := by
  have h1 := wtFs_sum s.fms; have h2 := wtFs_sum s.pms; have h3 := wt_sum s.res; have h4 := csum_pos s.res
  rw [wtG, gsum]; omega
theorem wtFs_mem {l : List Fm} {f : Fm} (h : f ∈ l) : wtF f ≤ wtFs l := by
  induction l with
  | nil => cases h
  | cons x l ih =>
    simp only [wtFs]
    rcases List.mem_cons.1 h with rfl | h
    · omega
    · have := ih h; omega
theorem wtFs_len : ∀ l : List Fm, l.length ≤ wtFs l
  | [] => by simp [wtFs]
  | x :: l => by have := wtFs_len l; simp only [wtFs, wtF, List.length_cons]; omega
def mxT : Nat → List Ty → Nat | n, [] => n | n, t :: r => mxT (max n (dep t)) r
def mxD : Nat → List Dc → Nat | n, [] => n | n, d :: r => mxD (if d.kind == 3 then max n (depE d.body) else n) r
def dpP (p : Pg) : Nat := mxD (mxT (depE p.main) (tysP p)) p.decls

end Go.Pv
end

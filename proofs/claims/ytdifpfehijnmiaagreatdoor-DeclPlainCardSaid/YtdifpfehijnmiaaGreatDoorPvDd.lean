import Derived.Test.YtdifpfehijnmiaaGreatDoorPvDa
import Derived.Test.YtdifpfehijnmiaaGreatDoorPvV
import Derived.Shelf.Spec.SlicesGrow
import Derived.Test.YtdifpfehijnmiaaGreatDoorPvMc
set_option linter.all false
section
/- The sizes of declarations that a law keeps. -/
namespace Go.Pv
open Go

def fitF (f : Fm) : Prop := f.name.length ≤ 140737488355328 ∧ fit f.ty
def fitFs (l : List Fm) : Prop := l.length ≤ 140737488355328 ∧ ∀ f ∈ l, fitF f
def fitG (s : Sg) : Prop := s.name.length ≤ 140737488355328 ∧ fitFs s.fms ∧ fitFs s.pms ∧ fit s.res
def fitD (d : Dc) : Prop := d.name.length ≤ 140737488355328 ∧ fitFs d.fms ∧ fitFs d.flds ∧ (d.sigs.length ≤ 140737488355328 ∧ ∀ s ∈ d.sigs, fitG s) ∧ d.recv.length ≤ 140737488355328 ∧ (d.vars.length ≤ 140737488355328 ∧ ∀ v ∈ d.vars, v.length ≤ 140737488355328) ∧ fitG d.sig ∧ fitE d.body
def fitPg (p : Pg) : Prop := (p.decls.length ≤ 140737488355328 ∧ ∀ d ∈ p.decls, fitD d) ∧ fitE p.main

def fsum (f : Fm) : Nat := 1 + f.name.length / 50 + csum f.ty
def fsums : List Fm → Nat | [] => 0 | f :: r => fsum f + fsums r
def gsum (s : Sg) : Nat := s.name.length / 50 + fsums s.fms + fsums s.pms + csum s.res
def gsums : List Sg → Nat | [] => 0 | f :: r => gsum f + gsums r
def vsums : List Str → Nat | [] => 0 | f :: r => 1 + f.length / 50 + vsums r
def dsum (d : Dc) : Nat := 1 + d.name.length / 50 + d.recv.length / 50 + fsums d.fms + fsums d.flds + gsums d.sigs + vsums d.vars + gsum d.sig + esum d.body
def dsums : List Dc → Nat | [] => 0 | f :: r => dsum f + dsums r

theorem cntFs_sum : ∀ (l : List Fm) (k : Nat), k ≤ cntFs l k ∧ (cntFs l k ≤ 2000 → cntFs l k = k + fsums l)
  | [], k => by simp [cntFs, fsums]
  | f :: l, k => by
    have h1 := cnt_sum f.ty (k + 1 + f.name.length / 50)
    have h2 := cntFs_sum l (cnt f.ty (k + 1 + f.name.length / 50))
    rw [cntFs, fsums, fsum]
    split
    · refine ⟨by omega, fun h3 => ?_⟩
      have h4 := h2.2 h3
      have h5 := h1.2 (by omega)
      omega
    · exact ⟨Nat.le_refl _, fun h3 => by omega⟩
theorem cntG_sum (s : Sg) (k : Nat) : k ≤ cntG s k ∧ (cntG s k ≤ 2000 → cntG s k = k + gsum s) := by
  have h1 := cntFs_sum s.fms (k + s.name.length / 50)
  have h2 := cntFs_sum s.pms (cntFs s.fms (k + s.name.length / 50))
  have h3 := cnt_sum s.res (cntFs s.pms (cntFs s.fms (k + s.name.length / 50)))
  rw [cntG, gsum]
  refine ⟨by omega, fun h => ?_⟩
  have h4 := h3.2 h
  have h5 := h2.2 (by omega)
  have h6 := h1.2 (by omega)
  omega
theorem cntGs_sum : ∀ (l : List Sg) (k : Nat), k ≤ cntGs l k ∧ (cntGs l k ≤ 2000 → cntGs l k = k + gsums l)
  | [], k => by simp [cntGs, gsums]
  | f :: l, k => by
    have h1 := cntG_sum f k
    have h2 := cntGs_sum l (cntG f k)
    rw [cntGs, gsums]
    split
    · refine ⟨by omega, fun h3 => ?_⟩
      have h4 := h2.2 h3
      have h5 := h1.2 (by omega)
      omega
    · exact ⟨Nat.le_refl _, fun h3 => by omega⟩
theorem cntVs_sum : ∀ (l : List Str) (k : Nat), k ≤ cntVs l k ∧ (cntVs l k ≤ 2000 → cntVs l k = k + vsums l)
  | [], k => by simp [cntVs, vsums]
  | f :: l, k => by
    have h2 := cntVs_sum l (k + 1 + f.length / 50)
    rw [cntVs, vsums]
    split
    · refine ⟨by omega, fun h3 => ?_⟩
      have h4 := h2.2 h3
      omega
    · exact ⟨Nat.le_refl _, fun h3 => by omega⟩
theorem cntD_sum (d : Dc) (k : Nat) : k ≤ cntD d k ∧ (cntD d k ≤ 2000 → cntD d k = k + dsum d) := by
  have h1 := cntFs_sum d.fms (k + 1 + d.name.length / 50 + d.recv.length / 50)
  have h2 := cntFs_sum d.flds (cntFs d.fms (k + 1 + d.name.length / 50 + d.recv.length / 50))
  have h3 := cntGs_sum d.sigs (cntFs d.flds (cntFs d.fms (k + 1 + d.name.length / 50 + d.recv.length / 50)))
  have h4 := cntVs_sum d.vars (cntGs d.sigs (cntFs d.flds (cntFs d.fms (k + 1 + d.name.length / 50 + d.recv.length / 50))))
  rw [cntD, dsum]
  generalize hm : cntVs d.vars (cntGs d.sigs (cntFs d.flds (cntFs d.fms (k + 1 + d.name.length / 50 + d.recv.length / 50)))) = m at *
  have h5 := cntG_sum d.sig m
  have h6 := cntE_sum d.body (cntG d.sig m)
  split
  · refine ⟨by omega, fun h => ?_⟩
    have h7 := h6.2 h
    have h8 := h5.2 (by omega)
    have h9 := h4.2 (by omega)
    have h10 := h3.2 (by omega)
    have h11 := h2.2 (by omega)
    have h12 := h1.2 (by omega)
    omega
  · exact ⟨by omega, fun h => by omega⟩
theorem cntDs_sum : ∀ (l : List Dc) (k : Nat), k ≤ cntDs l k ∧ (cntDs l k ≤ 2000 → cntDs l k = k + dsums l)
  | [], k => by simp [cntDs, dsums]
  | f :: l, k => by
    have h1 := cntD_sum f k
    have h2 := cntDs_sum l (cntD f k)
    rw [cntDs, dsums]
    split
    · refine ⟨by omega, fun h3 => ?_⟩
      have h4 := h2.2 h3
      have h5 := h1.2 (by omega)
      omega
    · exact ⟨Nat.le_refl _, fun h3 => by omega⟩

theorem wtF_sum (f : Fm) : wtF f ≤ 50 * fsum f := by have := wt_sum f.ty; rw [wtF, fsum]; omega
theorem wtFs_sum : ∀ l : List Fm, wtFs l ≤ 50 * fsums l
  | [] => by simp [wtFs, fsums]
  | f :: l => by have h1 := wtF_sum f; have h2 := wtFs_sum l; simp only [wtFs, fsums]; omega
theorem wtG_sum (s : Sg) : wtG s ≤ 100 * gsum s := by
  have h1 := wtFs_sum s.fms; have h2 := wtFs_sum s.pms; have h3 := wt_sum s.res; have h4 := csum_pos s.res
  rw [wtG, gsum]; omega
theorem wtGs_sum : ∀ l : List Sg, wtGs l ≤ 100 * gsums l
  | [] => by simp [wtGs, gsums]
  | f :: l => by have h1 := wtG_sum f; have h2 := wtGs_sum l; simp only [wtGs, gsums]; omega
theorem wtSs_sum : ∀ l : List Str, wtSs l ≤ 50 * vsums l
  | [] => by simp [wtSs, vsums]
  | f :: l => by have h2 := wtSs_sum l; simp only [wtSs, vsums]; omega
theorem wtD_sum (d : Dc) : wtD d ≤ 100 * dsum d := by
  have h1 := wtFs_sum d.fms; have h2 := wtFs_sum d.flds; have h3 := wtGs_sum d.sigs; have h4 := wtSs_sum d.vars; have h5 := wtG_sum d.sig; have h6 := wtE_sum d.body
  rw [wtD, dsum]; omega
theorem wtDs_sum : ∀ l : List Dc, wtDs l ≤ 100 * dsums l
  | [] => by simp [wtDs, dsums]
  | f :: l => by have h1 := wtD_sum f; have h2 := wtDs_sum l; simp only [wtDs, dsums]; omega
theorem fewPg_wt {p : Pg} (h : cntPg p ≤ 600) : wtPg p ≤ 60000 := by
  rw [cntPg] at h
  have h1 := cntDs_sum p.decls (cntE p.main 0)
  have h2 := cntE_sum p.main 0
  have h3 := h1.2 (by omega)
  have h4 := h2.2 (by omega)
  have h5 := wtDs_sum p.decls
  have h6 := wtE_sum p.main
  rw [wtPg]; omega

theorem wtFs_mem {l : List Fm} {f : Fm} (h : f ∈ l) : wtF f ≤ wtFs l := by
  induction l with
  | nil => cases h
  | cons x l ih =>
    simp only [wtFs]
    rcases List.mem_cons.1 h with rfl | h
    · omega
    · have := ih h; omega
theorem wtGs_mem {l : List Sg} {f : Sg} (h : f ∈ l) : wtG f ≤ wtGs l := by
  induction l with
  | nil => cases h
  | cons x l ih =>
    simp only [wtGs]
    rcases List.mem_cons.1 h with rfl | h
    · omega
    · have := ih h; omega
theorem wtSs_mem {l : List Str} {f : Str} (h : f ∈ l) : f.length + 1 ≤ wtSs l := by
  induction l with
  | nil => cases h
  | cons x l ih =>
    simp only [wtSs]
    rcases List.mem_cons.1 h with rfl | h
    · omega
    · have := ih h; omega
theorem wtDs_mem {l : List Dc} {f : Dc} (h : f ∈ l) : wtD f ≤ wtDs l := by
  induction l with
  | nil => cases h
  | cons x l ih =>
    simp only [wtDs]
    rcases List.mem_cons.1 h with rfl | h
    · omega
    · have := ih h; omega
theorem wtFs_len : ∀ l : List Fm, l.length ≤ wtFs l
  | [] => by simp [wtFs]
  | x :: l => by have := wtFs_len l; simp only [wtFs, wtF, List.length_cons]; omega
theorem wtGs_len : ∀ l : List Sg, l.length ≤ wtGs l
  | [] => by simp [wtGs]
  | x :: l => by have := wtGs_len l; simp only [wtGs, wtG, List.length_cons]; omega
theorem wtSs_len : ∀ l : List Str, l.length ≤ wtSs l
  | [] => by simp [wtSs]
  | x :: l => by have := wtSs_len l; simp only [wtSs, List.length_cons]; omega
theorem wtDs_len : ∀ l : List Dc, l.length ≤ wtDs l
  | [] => by simp [wtDs]
  | x :: l => by have := wtDs_len l; simp only [wtDs, wtD, List.length_cons]; omega

theorem wts_app2 : ∀ a b : List Ty, wts (a ++ b) = wts a + wts b
  | [], b => by simp [wts]
  | x :: a, b => by simp [wts, wts_app2 a b]; omega
theorem wts_fms : ∀ l : List Fm, wts (l.map Fm.ty) ≤ wtFs l
  | [] => by simp [wts, wtFs]
  | x :: l => by have := wts_fms l; simp only [List.map_cons, wts, wtFs, wtF]; omega
theorem wts_tysG (s : Sg) : wts (tysG s) ≤ wtG s := by
  have h1 := wts_fms s.fms; have h2 := wts_fms s.pms
  rw [tysG, wts_app2, wts_app2, wtG]; simp only [wts]; omega
theorem wts_tysGs : ∀ l : List Sg, wts (l.map tysG).flatten ≤ wtGs l
  | [] => by simp [wts, wtGs]
  | x :: l => by have h1 := wts_tysG x; have h2 := wts_tysGs l; rw [List.map_cons, List.flatten_cons, wts_app2, wtGs]; omega
theorem wts_tysE : ∀ e : Exp, wts (tysE e) ≤ wtE e := by
  intro e
  induction e using Exp.ind with
  | h k n t a l p ih =>
    have key : ∀ l : List Exp, (∀ e ∈ l, wts (tysE e) ≤ wtE e) → wts (((lstEs l).map fun x => x.ta ++ if typedE x.kind then [x.ty] else []).flatten) ≤ wtEs l := by
      intro l
      induction l with
      | nil => intro _; simp [lstEs, wts, wtEs]
      | cons x l ihl =>
        intro h
        have h1 := h x (by simp)
        have h2 := ihl fun y hy => h y (by simp [hy])
        rw [tysE] at h1
        rw [lstEs, List.map_append, List.flatten_append, wts_app2, wtEs]; omega
    have h1 := key l ih
    rw [tysE, lstE, List.map_cons, List.flatten_cons, wts_app2, wts_app2, wtE_mk]
    have h2 : wts (if typedE (Exp.mk k n t a l p).kind = true then [(Exp.mk k n t a l p).ty] else []) ≤ wt t := by
      split <;> simp [wts]
    simp only [Exp.ta] at *
    omega
theorem wts_tysD (d : Dc) : wts (tysD d) ≤ wtD d := by
  have h1 := wts_fms d.fms; have h2 := wts_fms d.flds; have h3 := wts_tysGs d.sigs; have h4 := wts_tysG d.sig; have h5 := wts_tysE d.body
  rw [tysD, wts_app2, wts_app2, wts_app2, wtD]
  have h6 : wts (if d.kind == 3 then tysG d.sig ++ tysE d.body else []) ≤ wtG d.sig + wtE d.body := by
    split
    · rw [wts_app2]; omega
    · simp [wts]
  omega
theorem wts_tysDs : ∀ l : List Dc, wts (l.map tysD).flatten ≤ wtDs l
  | [] => by simp [wts, wtDs]
  | x :: l => by have h1 := wts_tysD x; have h2 := wts_tysDs l; rw [List.map_cons, List.flatten_cons, wts_app2, wtDs]; omega
theorem wts_tysP (p : Pg) : wts (tysP p) ≤ wtPg p := by
  have h1 := wts_tysDs p.decls; have h2 := wts_tysE p.main
  rw [tysP, wts_app2, wtPg]; omega

theorem dkinds (k : Int) : k = 1 ∨ k = 2 ∨ k = 3 ∨ (¬ k = 1 ∧ ¬ k = 2 ∧ ¬ k = 3) := by omega

def mxT : Nat → List Ty → Nat | n, [] => n | n, t :: r => mxT (max n (dep t)) r
def mxD : Nat → List Dc → Nat | n, [] => n | n, d :: r => mxD (if d.kind == 3 then max n (depE d.body) else n) r
def dpP (p : Pg) : Nat := mxD (mxT (depE p.main) (tysP p)) p.decls

end Go.Pv
end

section
/- slices.Grow at the nil slice: it hands back a row of its own. -/
namespace Go.Pv
open Go Go.Shelf Go.Proofs

theorem grow_validO {P : Program} {ρ : Ren} {gl : Gl} (L : Lays8.n4 P ρ) (i0 : TypeInfo) (z : Value) (hok : fnOk P (ρ.f 4) = true) (hi0 : P.info? (ρ.t 25) = some i0) (hz0 : i0.zero = some z) (hzs : z.cells.size = i0.size) (hs0 : 0 < i0.size)
    (n : Nat) (hb : n * i0.bytes ≤ 140737488355328) (hn : n ≤ 140737488355328) : ValidO P gl (ρ.f 4) [.nilS, .int .i64 n] (.slice []) (ρ.t 25) := by
  refine ⟨hok, fun lim w cargs hgl hargs => ?_⟩
  obtain ⟨v, u, rfl⟩ : ∃ v u, cargs = [v, u] := by
    have := hargs.1
    match cargs, this with
    | [v, u], _ => exact ⟨v, u, rfl⟩
  have hv : v = .slice none 0 0 := by have := hargs.head; cases this; rfl
  have hu : u = .int .i64 n := by have := hargs.tail.head; cases this; rfl
  subst hv; subst hu
  by_cases h0 : n = 0
  · subst h0
    refine (Any8.slices_Grow_room L none 0 0 0 w (by omega) (by omega) (by omega) (by omega)).mono fun e w' => ?_
    rintro ⟨rfl, rfl⟩
    exact ⟨_, 0, [], lim, rfl, Frm.refl _ _ _, fun _ _ => rfl, .slice0 _ _, World.ownsRow_nil _ _ _ _, fun b hb => by cases hb⟩
  · refine (Any8.slices_Grow_grow L i0 z hi0 hz0 hs0 none 0 0 n [] w (by omega) (by omega) (by simpa using hb) (by omega) (by simp) (fun _ => rfl) (fun a ha => by cases ha)).mono fun e w' => ?_
    rintro ⟨rfl, rfl⟩
    have hG := grownCap_ge w (0 + n) 0 (ρ.t 25)
    have hG2 := grownCap_le_maxLen w (0 + n) 0 (ρ.t 25) (by unfold maxLen; omega)
    refine ⟨_, 0, [], fun b => if b = w.heap.size then some 0 else lim b, rfl, ?_, fun b hb => ?_, .slice0 _ _, ?_, fun b hb => ?_⟩
    · have h1 := Frm.alloc w (.cells ((#[] : Array Value) ++ Builtin.zeroCells z.cells (0 + n - 0) ++ Builtin.zeroCells z.cells (grownCap w (0 + n) 0 (ρ.t 25) - (0 + n))) (ρ.t 25))
      exact ⟨h1.os, h1.tape, h1.output, h1.size, h1.block⟩
    · exact if_neg (by omega)
    · refine World.ownsRow_made w.drew _ _ (Nat.le_refl _) hG2 ?_
      simp only [Array.size_append, size_zeroCells, hzs]
      show 0 + _ + _ = _
      have he : esz P (ρ.t 25) = i0.size := by simp [esz, hi0]
      rw [he, Nat.zero_add, ← Nat.add_mul]
      congr 1
      omega
    · have : w.heap.size = b := by injection hb
      subst this
      simp

end Go.Pv
end

section
/- Types of declarations: lists of lists. -/
namespace Go.Pv
open Go

def encTL (l : List Ty) : List AV := [.slice (l.map encTy)]
@[simp] theorem encTL_len (l : List Ty) : (encTL l).length = 1 := rfl
@[simp] theorem encTL_one (l : List Ty) : (encTL l).all AV.one = true := rfl
@[simp] theorem encTL_rows (l : List (List Ty)) : Rows 1 (l.map encTL) := Rows_map 1 encTL (fun t => ⟨encTL_len t, encTL_one t⟩) l

def flT {α : Type} (l : List (List α)) (k : Nat) : List α := (l.take k).flatten
def flN {α : Type} (l : List (List α)) (k : Nat) : Nat := (flT l k).length
theorem flT_nil {α : Type} (l : List (List α)) : flT l 0 = [] := rfl
theorem flN_nil {α : Type} (l : List (List α)) : flN l 0 = 0 := rfl
theorem flT_succ {α : Type} (l : List (List α)) (k : Nat) (hk : k < l.length) : flT l (k + 1) = flT l k ++ l[k] := by
  unfold flT
  rw [List.take_succ_eq_append_getElem hk, List.flatten_append]
  simp
theorem flN_succ {α : Type} (l : List (List α)) (k : Nat) (hk : k < l.length) : flN l (k + 1) = flN l k + l[k].length := by
  unfold flN
  rw [flT_succ l k hk, List.length_append]
theorem flT_all {α : Type} (l : List (List α)) : flT l l.length = l.flatten := by simp [flT]
theorem flN_all {α : Type} (l : List (List α)) : flN l l.length = l.flatten.length := by unfold flN; rw [flT_all]
theorem flT_len {α : Type} (l : List (List α)) (k : Nat) : (flT l k).length = flN l k := rfl
theorem flN_le {α : Type} (l : List (List α)) (k : Nat) : flN l k ≤ l.flatten.length := by
  have h := congrArg (fun x => x.flatten.length) (List.take_append_drop k l)
  simp only [List.flatten_append, List.length_append] at h
  unfold flN flT
  omega

def partsE (x : Exp) : List Ty := x.ta ++ if typedE x.kind then [x.ty] else []
def bodL (e : Exp) : List (List Ty) := (lstE e).map partsE
theorem tysE_bod (e : Exp) : tysE e = (bodL e).flatten := rfl
@[simp] theorem bodL_len (e : Exp) : (bodL e).length = (lstE e).length := by simp [bodL]
theorem bodL_at (e : Exp) (k : Nat) (hk : k < (lstE e).length) : (bodL e)[k]'(by simpa using hk) = partsE (lstE e)[k] := by simp [bodL]
theorem partsE_yes {x : Exp} (h : typedE x.kind = true) : partsE x = x.ta ++ [x.ty] := by rw [partsE, if_pos h]
theorem partsE_no {x : Exp} (h : typedE x.kind = false) : partsE x = x.ta := by rw [partsE, if_neg (by rw [h]; exact Bool.false_ne_true), List.append_nil]
theorem bod_succ (e : Exp) (k : Nat) (hk : k < (lstE e).length) : flT (bodL e) (k + 1) = flT (bodL e) k ++ partsE (lstE e)[k] := by
  rw [flT_succ _ _ (by simpa using hk), bodL_at e k hk]
theorem bod_all (e : Exp) : flT (bodL e) (lstE e).length = tysE e := by
  have h := flT_all (bodL e)
  rw [bodL_len] at h
  exact h
theorem bod_le (e : Exp) (k : Nat) (hk : k < (lstE e).length) : flN (bodL e) k + (partsE (lstE e)[k]).length ≤ wtE e := by
  have h1 := flN_succ (bodL e) k (by simpa using hk)
  rw [bodL_at e k hk] at h1
  have h2 := flN_le (bodL e) (k + 1)
  have h3 := wts_len (tysE e)
  have h4 := wts_tysE e
  rw [tysE_bod] at h3 h4
  omega
theorem ta_le (x : Exp) : x.ta.length ≤ (partsE x).length := by rw [partsE, List.length_append]; omega

def headD (d : Dc) : List Ty := d.fms.map Fm.ty ++ d.flds.map Fm.ty
def sigL (d : Dc) : List (List Ty) := d.sigs.map tysG
def tailD (d : Dc) : List Ty := if d.kind == 3 then tysG d.sig ++ tysE d.body else []
def declL (p : Pg) : List (List Ty) := p.decls.map tysD
def sigA (d : Dc) : List Ty := (sigL d).flatten
def declA (p : Pg) : List Ty := (declL p).flatten
theorem tysD_parts (d : Dc) : tysD d = headD d ++ sigA d ++ tailD d := by simp [tysD, headD, sigA, sigL, tailD]
theorem tysP_parts (p : Pg) : tysP p = declA p ++ tysE p.main := rfl
@[simp] theorem sigL_len (d : Dc) : (sigL d).length = d.sigs.length := by simp [sigL]
@[simp] theorem declL_len (p : Pg) : (declL p).length = p.decls.length := by simp [declL]
theorem tailD_yes {d : Dc} (h : d.kind = 3) : tailD d = tysG d.sig ++ tysE d.body := by simp [tailD, h]
theorem tailD_no {d : Dc} (h : (d.kind == 3) = false) : tailD d = [] := by simp [tailD, h]
theorem sig_succ (d : Dc) (m : Nat) (hm : m < d.sigs.length) : flT (sigL d) (m + 1) = flT (sigL d) m ++ tysG d.sigs[m] := by
  rw [flT_succ _ _ (by simpa using hm)]; simp [sigL]
theorem sig_all (d : Dc) : flT (sigL d) d.sigs.length = sigA d := by
  have h := flT_all (sigL d)
  rwa [sigL_len] at h
theorem sig_le (d : Dc) (m : Nat) (hm : m < d.sigs.length) : flN (sigL d) m + (tysG d.sigs[m]).length ≤ (sigA d).length := by
  unfold sigA
  have h1 := flN_succ (sigL d) m (by simpa using hm)
  have h2 := flN_le (sigL d) (m + 1)
  have h3 : (sigL d)[m]'(by simpa using hm) = tysG d.sigs[m] := by simp [sigL]
  rw [h3] at h1
  omega
theorem decl_succ (p : Pg) (k : Nat) (hk : k < p.decls.length) : flT (declL p) (k + 1) = flT (declL p) k ++ (headD p.decls[k] ++ sigA p.decls[k] ++ tailD p.decls[k]) := by
  rw [flT_succ _ _ (by simpa using hk), ← tysD_parts]; simp [declL]
theorem decl_all (p : Pg) : flT (declL p) p.decls.length = declA p := by
  have h := flT_all (declL p)
  rwa [declL_len] at h
theorem decl_le (p : Pg) (k : Nat) (hk : k < p.decls.length) : flN (declL p) k + ((headD p.decls[k]).length + (sigA p.decls[k]).length + (tailD p.decls[k]).length) ≤ (declA p).length := by
  unfold declA
  have h1 := flN_succ (declL p) k (by simpa using hk)
  have h2 := flN_le (declL p) (k + 1)
  have h3 : (declL p)[k]'(by simpa using hk) = tysD p.decls[k] := by simp [declL]
  rw [h3, tysD_parts, List.length_append, List.length_append] at h1
  omega
theorem tysP_len (p : Pg) : (declA p).length + (tysE p.main).length ≤ wtPg p := by
  have h1 := wts_len (tysP p)
  have h2 := wts_tysP p
  have h3 : (tysP p).length = (declA p).length + (tysE p.main).length := by rw [tysP_parts, List.length_append]
  omega
theorem headD_len (d : Dc) : (headD d).length = d.fms.length + d.flds.length := by simp [headD]
def flatTy (t : Ty) : Bool := t.args.isEmpty
def bareX (x : Exp) : Bool := x.ta.isEmpty
theorem flatTy_mk (n : Str) (ls : List Ty) (p : Int) : flatTy (.mk n ls p) = ls.isEmpty := rfl
theorem bareX_mk (k : Int) (n : Str) (t : Ty) (a : List Ty) (l : List Exp) (p : Int) : bareX (.mk k n t a l p) = a.isEmpty := rfl
theorem bareE_all (e : Exp) : bareE e = (lstE e).all bareX := rfl
def bareS (s : Sg) : Bool := s.fms.isEmpty
def plainD (d : Dc) : Bool := d.fms.isEmpty && d.vars.isEmpty && d.sigs.all bareS && bareS d.sig && bareE d.body
theorem plainP_eq (p : Pg) : plainP p = ((tysP p).all flatTy && bareE p.main && p.decls.all plainD) := rfl
theorem len_is0 {α : Type} (l : List α) : ((l.length : Int) == 0) = l.isEmpty := by
  cases l with
  | nil => rfl
  | cons x r => simp <;> omega
theorem ne0 {α : Type} {l : List α} (h : 0 < l.length) : l.isEmpty = false := by
  cases l with
  | nil => cases h
  | cons x r => rfl
theorem rows_take {n : Nat} {l : List (List AV)} (k : Nat) (h : Rows n l) : Rows n (l.take k) := fun r hr => h r (List.mem_of_mem_take hr)
theorem nn_add (a b : Nat) : 0 ≤ (a : Int) + b := by omega

end Go.Pv
end

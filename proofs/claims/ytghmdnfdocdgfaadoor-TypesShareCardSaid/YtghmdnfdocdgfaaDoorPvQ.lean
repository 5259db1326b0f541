import Derived.Test.YtghmdnfdocdgfaaDoorPvO
set_option linter.all false
section
/- The walk by simp: what is evaluated, in which form. -/
namespace Go.Pv
open Go

def RVn (P : Program) (gl : Gl) (ops : Array Oper) (d : Bool) (g : Option Bool) (r : OR) (o : Oper) (rest : List Oper) (σ : AS) (K : AS → Prop) : Prop :=
  d = true ∧ match g with
    | some true => orV P gl o σ (fun s => RV P gl ops rest s K) r
    | some false => RV P gl ops rest (σ.put o.dst (.v (.tup []) none)) K
    | none => False

def RVdn (P : Program) (gl : Gl) (ops : Array Oper) (d : Bool) (g : Option Bool) (r : OR) (o : Oper) (rest : List Oper) (σ : AS) (K : AS → Prop) : Prop :=
  d = true ∧ match g with
    | some true => orVd P gl o σ (fun s => RVd P gl ops rest s K) r
    | some false => RVd P gl ops rest (σ.put o.dst (.v (.tup []) none)) K
    | none => False

section
variable {P : Program} {gl : Gl} {ops : Array Oper} {o : Oper} {rest : List Oper} {σ : AS} {K : AS → Prop}

theorem RV_nil : RV P gl ops [] σ K = K σ := rfl
theorem RV_cons : RV P gl ops (o :: rest) σ K = RVn P gl ops (dstOk P o σ) (guardB ops o σ) (opR P gl σ o) o rest σ K := rfl
theorem RVd_nil : RVd P gl ops [] σ K = K σ := rfl
theorem RVd_cons : RVd P gl ops (o :: rest) σ K = RVdn P gl ops (dstOk P o σ) (guardB ops o σ) (opR P gl σ o) o rest σ K := rfl

theorem RVn_val (c : Prop) (x : TV) : RVn P gl ops true (some true) (.val c x) o rest σ K = (c ∧ RV P gl ops rest (σ.put o.dst x) K) := by simp [RVn, orV]
theorem RVn_eff (c : Prop) (s : AS) : RVn P gl ops true (some true) (.eff c s) o rest σ K = (c ∧ gl.y = none ∧ RV P gl ops rest s K) := by simp [RVn, orV]
theorem RVn_skip (r : OR) : RVn P gl ops true (some false) r o rest σ K = RV P gl ops rest (σ.put o.dst (.v (.tup []) none)) K := by simp [RVn]
theorem RVn_call {f : FuncId} {args : List AV} {r : AV} (h : Valid P gl f args r) (k : RV P gl ops rest (σ.put o.dst (.v r none)) K) (hy : gl.y = none := by rfl) : RVn P gl ops true (some true) (.call f args) o rest σ K := by
  unfold RVn
  simp only [orV, true_and]
  exact callV_pure hy r h k
theorem RVn_callY {f : FuncId} {args : List AV} {Y : Ys} {r : AV} {ys' : List AV × Bool} (hY : gl.y = some Y) (hb : σ.bare = true) (h : ValidY P gl Y f args σ.ys r ys') (k : RV P gl ops rest ({ σ with ys := ys' }.put o.dst (.v r none)) K) : RVn P gl ops true (some true) (.call f args) o rest σ K := by
  unfold RVn
  simp only [orV, true_and]
  exact .inr (.inl ⟨Y, r, ys', hY, hb, h, k⟩)
theorem RVn_yld {l : Nat} {x : AV} {Y : Ys} (hY : gl.y = some Y) (hl : Y.l = l) (hb : σ.bare = true) (hon : σ.ys.2 = true) (he : Y.el σ.ys.1 x) (k : RV P gl ops rest ({ σ with ys := (σ.ys.1 ++ [x], Y.go σ.ys.1 x) }.put o.dst (.v (.bool (Y.go σ.ys.1 x)) none)) K) : RVn P gl ops true (some true) (.yld l x) o rest σ K := by
  unfold RVn
  simp only [orV, true_and]
  exact ⟨Y, hY, hl, hb, ⟨hon, he⟩, k⟩
theorem RVdn_val (c : Prop) (x : TV) : RVdn P gl ops true (some true) (.val c x) o rest σ K = (c ∧ RVd P gl ops rest (σ.put o.dst x) K) := by simp [RVdn, orVd]
theorem RVdn_eff (c : Prop) (s : AS) : RVdn P gl ops true (some true) (.eff c s) o rest σ K = (quietOp o = false ∧ (c ∧ gl.y = none) ∧ RVd P gl ops rest s K) := by simp [RVdn, orVd]
theorem RVdn_skip (r : OR) : RVdn P gl ops true (some false) r o rest σ K = RVd P gl ops rest (σ.put o.dst (.v (.tup []) none)) K := by simp [RVdn]
theorem RVdn_call {f : FuncId} {args : List AV} {r : AV} (h : Valid P gl f args r) (k : RVd P gl ops rest (σ.put o.dst (.v r none)) K) (hy : gl.y = none := by rfl) : RVdn P gl ops true (some true) (.call f args) o rest σ K := ⟨rfl, r, ⟨hy, h⟩, k⟩
end

attribute [simp] RV_nil RV_cons RVd_nil RVd_cons RVn_val RVn_eff RVn_skip RVdn_val RVdn_eff RVdn_skip
attribute [simp] dstOk guardB opR ev AS.get AS.put look cv cv1 cvL nilSR isNilS TV.av isNil assignR fieldAddrR indexAddrR loadOpR indexR nilCheckR convertR buildR makeFuncR makeIfaceR extractR fieldR boxR allocR evN ownRes tagOf nsOf storeR rowsOf buildSliceR appendR callR orR
attribute [simp] TV.strip TV.nit froz frozR rangeR nextR TV.bareT AS.bare
theorem noClP_true {k : Nat} {tm : List (Nat × TV)} (h : noCl k tm = true) : noClP k tm ↔ True := ⟨fun _ => trivial, fun _ => noClP_of h⟩
section
variable (k t : Nat) (r : List (Nat × TV))
theorem noCl_nil : noCl k [] = true ↔ True := by constructor <;> intro _ <;> first | trivial | rfl
theorem noCl_un : noCl k ((t, .un) :: r) = true ↔ noCl k r = true := by constructor <;> intro h <;> exact h
theorem noCl_v (x : AV) (g : Option (Nat × Nat)) : noCl k ((t, .v x g) :: r) = true ↔ noCl k r = true := by constructor <;> intro h <;> exact h
theorem noCl_bld (x : List AV) (g : List Nat) : noCl k ((t, .bld x g) :: r) = true ↔ noCl k r = true := by constructor <;> intro h <;> exact h
theorem noCl_it (x : ItK) : noCl k ((t, .it x) :: r) = true ↔ noCl k r = true := by constructor <;> intro h <;> exact h
theorem noCl_lp (x g : Nat) : noCl k ((t, .lp x g) :: r) = true ↔ noCl k r = true := by constructor <;> intro h <;> exact h
theorem noCl_cl (f : FuncId) (ks : List Nat) : noCl k ((t, .cl f ks) :: r) = true ↔ ks.contains k = false ∧ noCl k r = true := by simp only [noCl, Bool.and_eq_true, Bool.not_eq_true']
end
attribute [simp] noGotoA entryB mkTmB fxs keepB stayB stayAll TV.stay
attribute [simp] noCl_nil noCl_un noCl_v noCl_bld noCl_it noCl_lp noCl_cl lps makeClR noClP_true
attribute [simp] rowNums strOp intOp binR eqR eqV eqK eqCells isC pickR unR flat avs fillA nilsLeft loadR sliceR lenR mxR AS.usesB gid AS.openB retag tagAt clr tbOf AS.purge TV.untag splice quietOp AS.keep pick lpOk entry mkTm thenA inBlockA done resOk resOne resAll

theorem inR_i64 (n : Int) : inR .i64 n ↔ -9223372036854775808 ≤ n ∧ n ≤ 9223372036854775807 := by unfold inR; rw [IntKind.wrap_i64]; omega
theorem inR_i32 (n : Int) : inR .i32 n ↔ -2147483648 ≤ n ∧ n ≤ 2147483647 := by unfold inR; rw [IntKind.wrap_i32]; omega
theorem inR_u8 (n : Int) : inR .u8 n ↔ 0 ≤ n ∧ n ≤ 255 := by unfold inR; rw [IntKind.wrap_u8]; omega
attribute [simp] inR_i64 inR_i32 inR_u8

theorem Rows_nil (sz : Nat) : Rows sz [] := fun r h => by cases h
theorem Rows_cons (sz : Nat) (r : List AV) (l : List (List AV)) : Rows sz (r :: l) ↔ (r.length = sz ∧ r.all AV.one = true) ∧ Rows sz l := by simp [Rows]
theorem Rows_append (sz : Nat) (a b : List (List AV)) : Rows sz (a ++ b) ↔ Rows sz a ∧ Rows sz b := by simp only [Rows, List.mem_append]; exact ⟨fun h => ⟨fun r hr => h r (.inl hr), fun r hr => h r (.inr hr)⟩, fun h r hr => hr.elim (h.1 r) (h.2 r)⟩
theorem Rows_map {α : Type} (sz : Nat) (f : α → List AV) (h : ∀ x, (f x).length = sz ∧ (f x).all AV.one = true) (l : List α) : Rows sz (l.map f) := fun r hr => by
  obtain ⟨x, _, rfl⟩ := List.mem_map.1 hr; exact h x
attribute [simp] Rows_nil Rows_cons Rows_append
attribute [simp] AV.one

theorem row_map {α : Type} (f : α → List AV) (l : List α) (i : Nat) (h : i < l.length) : row (l.map f) i = f l[i] := by simp [row, h]

attribute [irreducible] RVn RVdn
end Go.Pv
end

section
/- The program's types as plain data, and as values. -/
namespace Go.Pv
open Go

abbrev Str := List UInt8

inductive Ty where
  | mk (name : Str) (args : List Ty) (pos : Int)

@[simp] def Ty.name : Ty → Str | .mk n _ _ => n
@[simp] def Ty.args : Ty → List Ty | .mk _ a _ => a
@[simp] def Ty.pos : Ty → Int | .mk _ _ p => p

mutual
def encTy : Ty → List AV
  | .mk n as p => [.str n, .slice (encTys as), .int .i64 p]
def encTys : List Ty → List (List AV)
  | [] => []
  | t :: r => encTy t :: encTys r
end

theorem encTys_map (l : List Ty) : encTys l = l.map encTy := by
  induction l with
  | nil => simp [encTys]
  | cons t l ih => simp [encTys, ih]

theorem encTy_def (t : Ty) : encTy t = [.str t.name, .slice (t.args.map encTy), .int .i64 t.pos] := by
  cases t with
  | mk n as p => simp [encTy, encTys_map, Ty.name, Ty.args, Ty.pos]

theorem encTy_mk (n : Str) (as : List Ty) (p : Int) : encTy (.mk n as p) = [.str n, .slice (as.map encTy), .int .i64 p] := by rw [encTy_def]; rfl

@[simp] theorem encTy_len (t : Ty) : (encTy t).length = 3 := by rw [encTy_def]; rfl
@[simp] theorem encTy_one (t : Ty) : (encTy t).all AV.one = true := by rw [encTy_def]; rfl
@[simp] theorem encTy_0 (t : Ty) : (encTy t)[0]? = some (.str t.name) := by rw [encTy_def]; rfl
@[simp] theorem encTy_1 (t : Ty) : (encTy t)[1]? = some (.slice (t.args.map encTy)) := by rw [encTy_def]; rfl
@[simp] theorem encTy_2 (t : Ty) : (encTy t)[2]? = some (.int .i64 t.pos) := by rw [encTy_def]; rfl
@[simp] theorem encTy_g0 (t : Ty) (h : 0 < (encTy t).length) : (encTy t)[0] = .str t.name := by have := encTy_0 t; rw [List.getElem?_eq_getElem h] at this; injection this
@[simp] theorem encTy_g1 (t : Ty) (h : 1 < (encTy t).length) : (encTy t)[1] = .slice (t.args.map encTy) := by have := encTy_1 t; rw [List.getElem?_eq_getElem h] at this; injection this
@[simp] theorem encTy_g2 (t : Ty) (h : 2 < (encTy t).length) : (encTy t)[2] = .int .i64 t.pos := by have := encTy_2 t; rw [List.getElem?_eq_getElem h] at this; injection this
@[simp] theorem encTy_take (t : Ty) : (encTy t).take 3 = encTy t := by rw [encTy_def]; rfl
@[simp] theorem encTy_drop (t : Ty) : (encTy t).drop 3 = [] := by rw [encTy_def]; rfl
@[simp] theorem encTy_take2 (t : Ty) : (encTy t).take 2 = [.str t.name, .slice (t.args.map encTy)] := by rw [encTy_def]; rfl
@[simp] theorem encTy_take1 (t : Ty) : (encTy t).take 1 = [.str t.name] := by rw [encTy_def]; rfl
@[simp] theorem encTy_drop2 (t : Ty) : (encTy t).drop 2 = [.int .i64 t.pos] := by rw [encTy_def]; rfl
@[simp] theorem encTys_rows (l : List Ty) : Rows 3 (l.map encTy) := Rows_map 3 encTy (fun t => ⟨encTy_len t, encTy_one t⟩) l

def encS (s : Str) : List AV := [.str s]
@[simp] theorem encS_len (s : Str) : (encS s).length = 1 := rfl
@[simp] theorem encS_one (s : Str) : (encS s).all AV.one = true := rfl
@[simp] theorem encS_0 (s : Str) : (encS s)[0]? = some (.str s) := rfl
@[simp] theorem encS_rows (l : List Str) : Rows 1 (l.map encS) := Rows_map 1 encS (fun _ => ⟨rfl, rfl⟩) l

theorem Ty.ind {p : Ty → Prop} (h : ∀ n as pos, (∀ t ∈ as, p t) → p (.mk n as pos)) : ∀ t, p t := by
  intro t
  exact Ty.rec (motive_1 := p) (motive_2 := fun l => ∀ t ∈ l, p t) (fun n as pos ih => h n as pos ih) (fun t ht => by cases ht) (fun t l h1 h2 x hx => by
    rcases List.mem_cons.1 hx with rfl | hx
    · exact h1
    · exact h2 x hx) t

end Go.Pv
end

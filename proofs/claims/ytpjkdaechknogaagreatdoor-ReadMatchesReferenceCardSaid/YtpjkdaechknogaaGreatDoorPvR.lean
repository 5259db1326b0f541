import Derived.Test.YtpjkdaechknogaaGreatDoorPvOc
set_option linter.all false
section
/- The walk by simp: what is evaluated, in which form. -/
namespace Go.Pv
open Go

def RVn (P : Program) (gl : Gl) (ops : Array Oper) (d : Bool) (g : Option Bool) (r : OR) (o : Oper) (rest : List Oper) (σ : AS) (K : AS → Prop) : Prop :=
  d = true ∧ match g with
    | some true => orV P gl o σ (fun s => RV P gl ops rest s K) r
    | some false => RV P gl ops rest (σ.put o.dst (.v (.tup []) none)) K
    | none => False

def RVdn (P : Program) (gl : Gl) (ops : Array Oper) (d : Bool) (g : Option Bool) (r : OR) (o : Oper) (rest : List Oper) (σ : AS) (K : AS → Prop) : Prop :=
  d = true ∧ match g with
    | some true => orVd P gl o σ (fun s => RVd P gl ops rest s K) r
    | some false => RVd P gl ops rest (σ.put o.dst (.v (.tup []) none)) K
    | none => False

section
variable {P : Program} {gl : Gl} {ops : Array Oper} {o : Oper} {rest : List Oper} {σ : AS} {K : AS → Prop}

theorem RV_nil : RV P gl ops [] σ K = K σ := rfl
theorem RV_cons : RV P gl ops (o :: rest) σ K = RVn P gl ops (dstOk P o σ) (guardB ops o σ) (opR P gl σ o) o rest σ K := rfl
theorem RVd_nil : RVd P gl ops [] σ K = K σ := rfl
theorem RVd_cons : RVd P gl ops (o :: rest) σ K = RVdn P gl ops (dstOk P o σ) (guardB ops o σ) (opR P gl σ o) o rest σ K := rfl

theorem RVn_val (c : Prop) (x : TV) : RVn P gl ops true (some true) (.val c x) o rest σ K = (c ∧ RV P gl ops rest (σ.put o.dst x) K) := by simp [RVn, orV]
theorem RVn_eff (c : Prop) (s : AS) : RVn P gl ops true (some true) (.eff c s) o rest σ K = (c ∧ gl.y = none ∧ RV P gl ops rest s K) := by simp [RVn, orV]
theorem RVn_skip (r : OR) : RVn P gl ops true (some false) r o rest σ K = RV P gl ops rest (σ.put o.dst (.v (.tup []) none)) K := by simp [RVn]
theorem RVn_call {f : FuncId} {args : List AV} {r : AV} (h : Valid P gl f args r) (k : RV P gl ops rest (σ.put o.dst (.v r none)) K) (hy : gl.y = none := by rfl) : RVn P gl ops true (some true) (.call f args) o rest σ K := by
  unfold RVn
  simp only [orV, true_and]
  exact callV_pure hy r h k
theorem RVn_callY {f : FuncId} {args : List AV} {Y : Ys} {r : AV} {ys' : List AV × Bool} (hY : gl.y = some Y) (hb : σ.bare = true) (h : ValidY P gl Y f args σ.ys r ys') (k : RV P gl ops rest ({ σ with ys := ys' }.put o.dst (.v r none)) K) : RVn P gl ops true (some true) (.call f args) o rest σ K := by
  unfold RVn
  simp only [orV, true_and]
  exact .inr ⟨Y, r, ys', hY, hb, h, k⟩
theorem RVn_yld {l : Nat} {x : AV} {Y : Ys} (hY : gl.y = some Y) (hl : Y.l = l) (hb : σ.bare = true) (hon : σ.ys.2 = true) (he : Y.el σ.ys.1 x) (k : RV P gl ops rest ({ σ with ys := (σ.ys.1 ++ [x], Y.go σ.ys.1 x) }.put o.dst (.v (.bool (Y.go σ.ys.1 x)) none)) K) : RVn P gl ops true (some true) (.yld l x) o rest σ K := by
  unfold RVn
  simp only [orV, true_and]
  exact ⟨Y, hY, hl, hb, ⟨hon, he⟩, k⟩
theorem RVn_callB {f : FuncId} {args : List AV} {ks : List Nat} {x : AV} {bx' : List (Nat × List AV)} {tb' : List (Nat × Nat × Nat × Nat)} (h : ValidB P gl f args ks σ.bx σ.tb x bx' tb') (hs : stayB σ ks bx' = true) (k : RV P gl ops rest ({ σ with bx := bx', tb := tb' }.put o.dst (.v x none)) K) (hy : gl.y = none := by rfl) : RVn P gl ops true (some true) (.callB f args ks) o rest σ K := by
  unfold RVn
  simp only [orV, true_and]
  exact ⟨x, bx', tb', hy, hs, h, k⟩
theorem RVdn_val (c : Prop) (x : TV) : RVdn P gl ops true (some true) (.val c x) o rest σ K = (c ∧ RVd P gl ops rest (σ.put o.dst x) K) := by simp [RVdn, orVd]
theorem RVdn_eff (c : Prop) (s : AS) : RVdn P gl ops true (some true) (.eff c s) o rest σ K = (quietOp o = false ∧ (c ∧ gl.y = none) ∧ RVd P gl ops rest s K) := by simp [RVdn, orVd]
theorem RVdn_skip (r : OR) : RVdn P gl ops true (some false) r o rest σ K = RVd P gl ops rest (σ.put o.dst (.v (.tup []) none)) K := by simp [RVdn]
theorem RVdn_call {f : FuncId} {args : List AV} {r : AV} (h : Valid P gl f args r) (k : RVd P gl ops rest (σ.put o.dst (.v r none)) K) (hy : gl.y = none := by rfl) : RVdn P gl ops true (some true) (.call f args) o rest σ K := ⟨rfl, r, ⟨hy, h⟩, k⟩
end

attribute [simp] RV_nil RV_cons RVd_nil RVd_cons RVn_val RVn_eff RVn_skip RVdn_val RVdn_eff RVdn_skip
attribute [simp] dstOk guardB opR ev AS.get AS.put look cv TV.av isNil assignR fieldAddrR indexAddrR loadOpR indexR nilCheckR convertR buildR makeFuncR makeIfaceR extractR fieldR boxR allocR tagOf nsOf storeR rowsOf buildSliceR appendR callR orR
attribute [simp] TV.strip TV.nit froz frozR rangeR nextR TV.bareT AS.bare
theorem noClP_true {k : Nat} {tm : List (Nat × TV)} (h : noCl k tm = true) : noClP k tm ↔ True := ⟨fun _ => trivial, fun _ => noClP_of h⟩
section
variable (k t : Nat) (r : List (Nat × TV))
theorem noCl_nil : noCl k [] = true ↔ True := by constructor <;> intro _ <;> first | trivial | rfl
theorem noCl_un : noCl k ((t, .un) :: r) = true ↔ noCl k r = true := by constructor <;> intro h <;> exact h
theorem noCl_v (x : AV) (g : Option (Nat × Nat)) : noCl k ((t, .v x g) :: r) = true ↔ noCl k r = true := by constructor <;> intro h <;> exact h
theorem noCl_bld (x : List AV) (g : List Nat) : noCl k ((t, .bld x g) :: r) = true ↔ noCl k r = true := by constructor <;> intro h <;> exact h
theorem noCl_it (x : List UInt8) (g : Nat) : noCl k ((t, .it x g) :: r) = true ↔ noCl k r = true := by constructor <;> intro h <;> exact h
theorem noCl_lp (x g : Nat) : noCl k ((t, .lp x g) :: r) = true ↔ noCl k r = true := by constructor <;> intro h <;> exact h
theorem noCl_cl (f : FuncId) (ks : List Nat) : noCl k ((t, .cl f ks) :: r) = true ↔ ks.contains k = false ∧ noCl k r = true := by simp only [noCl, Bool.and_eq_true, Bool.not_eq_true']
end
attribute [simp] noGotoA entryB mkTmB fxs keepB stayB stayAll TV.stay
attribute [simp] noCl_nil noCl_un noCl_v noCl_bld noCl_it noCl_lp noCl_cl lps makeClR noClP_true
attribute [simp] rowNums strOp intOp binR eqR eqV eqK eqCells isC pickR unR flat avs fillA nilsLeft loadR sliceR lenR mxR AS.usesB gid AS.openB retag tagAt clr tbOf AS.purge TV.untag splice quietOp AS.keep pick lpOk entry mkTm thenA inBlockA done resOk resOne resAll

theorem inR_i64 (n : Int) : inR .i64 n ↔ -9223372036854775808 ≤ n ∧ n ≤ 9223372036854775807 := by unfold inR; rw [IntKind.wrap_i64]; omega
theorem inR_i32 (n : Int) : inR .i32 n ↔ -2147483648 ≤ n ∧ n ≤ 2147483647 := by unfold inR; rw [IntKind.wrap_i32]; omega
theorem inR_u8 (n : Int) : inR .u8 n ↔ 0 ≤ n ∧ n ≤ 255 := by unfold inR; rw [IntKind.wrap_u8]; omega
attribute [simp] inR_i64 inR_i32 inR_u8

theorem Rows_nil (sz : Nat) : Rows sz [] := fun r h => by cases h
theorem Rows_cons (sz : Nat) (r : List AV) (l : List (List AV)) : Rows sz (r :: l) ↔ (r.length = sz ∧ r.all AV.one = true) ∧ Rows sz l := by simp [Rows]
theorem Rows_append (sz : Nat) (a b : List (List AV)) : Rows sz (a ++ b) ↔ Rows sz a ∧ Rows sz b := by simp only [Rows, List.mem_append]; exact ⟨fun h => ⟨fun r hr => h r (.inl hr), fun r hr => h r (.inr hr)⟩, fun h r hr => hr.elim (h.1 r) (h.2 r)⟩
theorem Rows_map {α : Type} (sz : Nat) (f : α → List AV) (h : ∀ x, (f x).length = sz ∧ (f x).all AV.one = true) (l : List α) : Rows sz (l.map f) := fun r hr => by
  obtain ⟨x, _, rfl⟩ := List.mem_map.1 hr; exact h x
attribute [simp] Rows_nil Rows_cons Rows_append
attribute [simp] AV.one

theorem row_map {α : Type} (f : α → List AV) (l : List α) (i : Nat) (h : i < l.length) : row (l.map f) i = f l[i] := by simp [row, h]

attribute [irreducible] RVn RVdn
end Go.Pv
end

section
/- The program's types as plain data, and as values. -/
namespace Go.Pv
open Go

abbrev Str := List UInt8

inductive Ty where
  | mk (name : Str) (args : List Ty) (pos : Int)

@[simp] def Ty.name : Ty → Str | .mk n _ _ => n
@[simp] def Ty.args : Ty → List Ty | .mk _ a _ => a
@[simp] def Ty.pos : Ty → Int | .mk _ _ p => p

mutual
def encTy : Ty → List AV
  | .mk n as p => [.str n, .slice (encTys as), .int .i64 p]
def encTys : List Ty → List (List AV)
  | [] => []
  | t :: r => encTy t :: encTys r
end

theorem encTys_map (l : List Ty) : encTys l = l.map encTy := by
  induction l with
  | nil => simp [encTys]
  | cons t l ih => simp [encTys, ih]

theorem encTy_def (t : Ty) : encTy t = [.str t.name, .slice (t.args.map encTy), .int .i64 t.pos] := by
  cases t with
  | mk n as p => simp [encTy, encTys_map, Ty.name, Ty.args, Ty.pos]

theorem encTy_mk (n : Str) (as : List Ty) (p : Int) : encTy (.mk n as p) = [.str n, .slice (as.map encTy), .int .i64 p] := by rw [encTy_def]; rfl

@[simp] theorem encTy_len (t : Ty) : (encTy t).length = 3 := by rw [encTy_def]; rfl
@[simp] theorem encTy_one (t : Ty) : (encTy t).all AV.one = true := by rw [encTy_def]; rfl
@[simp] theorem encTy_0 (t : Ty) : (encTy t)[0]? = some (.str t.name) := by rw [encTy_def]; rfl
@[simp] theorem encTy_1 (t : Ty) : (encTy t)[1]? = some (.slice (t.args.map encTy)) := by rw [encTy_def]; rfl
@[simp] theorem encTy_2 (t : Ty) : (encTy t)[2]? = some (.int .i64 t.pos) := by rw [encTy_def]; rfl
@[simp] theorem encTy_g0 (t : Ty) (h : 0 < (encTy t).length) : (encTy t)[0] = .str t.name := by have := encTy_0 t; rw [List.getElem?_eq_getElem h] at this; injection this
@[simp] theorem encTy_g1 (t : Ty) (h : 1 < (encTy t).length) : (encTy t)[1] = .slice (t.args.map encTy) := by have := encTy_1 t; rw [List.getElem?_eq_getElem h] at this; injection this
@[simp] theorem encTy_g2 (t : Ty) (h : 2 < (encTy t).length) : (encTy t)[2] = .int .i64 t.pos := by have := encTy_2 t; rw [List.getElem?_eq_getElem h] at this; injection this
@[simp] theorem encTy_take (t : Ty) : (encTy t).take 3 = encTy t := by rw [encTy_def]; rfl
@[simp] theorem encTy_drop (t : Ty) : (encTy t).drop 3 = [] := by rw [encTy_def]; rfl
@[simp] theorem encTy_take2 (t : Ty) : (encTy t).take 2 = [.str t.name, .slice (t.args.map encTy)] := by rw [encTy_def]; rfl
@[simp] theorem encTy_take1 (t : Ty) : (encTy t).take 1 = [.str t.name] := by rw [encTy_def]; rfl
@[simp] theorem encTy_drop2 (t : Ty) : (encTy t).drop 2 = [.int .i64 t.pos] := by rw [encTy_def]; rfl
@[simp] theorem encTys_rows (l : List Ty) : Rows 3 (l.map encTy) := Rows_map 3 encTy (fun t => ⟨encTy_len t, encTy_one t⟩) l

def encS (s : Str) : List AV := [.str s]
@[simp] theorem encS_len (s : Str) : (encS s).length = 1 := rfl
@[simp] theorem encS_one (s : Str) : (encS s).all AV.one = true := rfl
@[simp] theorem encS_0 (s : Str) : (encS s)[0]? = some (.str s) := rfl
@[simp] theorem encS_rows (l : List Str) : Rows 1 (l.map encS) := Rows_map 1 encS (fun _ => ⟨rfl, rfl⟩) l

theorem Ty.ind {p : Ty → Prop} (h : ∀ n as pos, (∀ t ∈ as, p t) → p (.mk n as pos)) : ∀ t, p t := by
  intro t
  exact Ty.rec (motive_1 := p) (motive_2 := fun l => ∀ t ∈ l, p t) (fun n as pos ih => h n as pos ih) (fun t ht => by cases ht) (fun t l h1 h2 x hx => by
    rcases List.mem_cons.1 hx with rfl | hx
    · exact h1
    · exact h2 x hx) t

end Go.Pv
end

section
/- Ranges over functions. -/
namespace Go.Pv
open Go

theorem RR.recx {cxA cxB : Cx} {gh : Gh} {τ : AS} {a : Act} {w w' : World} (r : RR cxA gh τ a w) (hP : cxB.P = cxA.P) (hB : cxB.B = cxA.B) (hS : cxB.S = cxA.S) (hg : cxB.gl.g = cxA.gl.g) (hy : cxB.gl.y = none) (hlim : cxB.lim = gh.lim) (hw : cxB.w0 = w')
    (hc : ∀ (k : Nat) (cs : Array Value) (e : TypeId) (g : Nat × Nat), w.heap[k]? = some (.cells cs e g) → w'.heap[k]? = w.heap[k]?) (hi : ∀ (k : Nat) (s : ByteArray) (p : Nat), w.heap[k]? = some (.stringIter s p) → w'.heap[k]? = w.heap[k]?) (hsz : w.heap.size ≤ w'.heap.size)
    (m : Nat) (fx' : List Nat) (ds : List Deferred) (hfx : ∀ t v, cxB.fx t = some v → t ∈ fx' ∧ a.tmps.getD t undef = v) (hd : DefOk cxB.B cxB.df m ds w') : RR cxB gh { τ with mks := m, fx := fx' } { a with defers := ds } w' := by
  have hkeep : Keep gh.lim w.heap gh.lim w'.heap := Keep.of_cells hc _
  refine { frm := by rw [hw]; exact Frm.refl _ _ _, base := by rw [hB]; exact Nat.le_trans r.base hsz, limB := fun b _ => by rw [hlim], size := r.size, ex := ⟨by rw [hw, hlim]; exact Keep.refl _ _, hd, fun Y hY => (by rw [hy] at hY; cases hY), ⟨fun t s p h => ?_, r.ex.its.inj⟩, hfx, fun _ k o hk _ _ => by rw [← hw]; exact hk⟩, gl := fun g c h => (r.gl g c (by rw [← hg]; exact h)).mono hkeep, tmps := ?_, boxes := ?_, inj := r.inj, shs := ?_, apart := r.apart, tbs := ?_, own := ?_, alone := r.alone }
  · obtain ⟨b, q1, q2, q3⟩ := r.ex.its.at_ t s p h
    exact ⟨b, q1, by rw [hB]; exact q2, (hi b _ _ q3).trans q3⟩
  · intro t x h
    have h' := r.tmps t x h
    refine ⟨?_, h'.2⟩
    cases x with
    | un => trivial
    | v y g => exact ⟨h'.1.1.mono hkeep, h'.1.2⟩
    | bld l ns => exact ⟨h'.1.1.mono hkeep, h'.1.2⟩
    | lp k off => exact h'.1
    | it s p => trivial
    | cl f ks => exact h'.1
  · intro k cells h
    obtain ⟨q1, q2, cs, e, q3, q4⟩ := r.boxes k cells h
    exact ⟨by rw [hB]; exact q1, q2, cs, e, (hc _ _ _ _ q3).trans q3, q4.mono hkeep⟩
  · intro b cells h
    obtain ⟨q1, q2, cs, e, q3, q4⟩ := r.shs b cells h
    exact ⟨by rw [hB, hS]; exact q1, q2, cs, e, (hc _ _ _ _ q3).trans q3, q4.mono hkeep⟩
  · intro k j g e h
    obtain ⟨q1, q2⟩ := r.tbs k j g e h
    exact ⟨q1, (hkeepC hc q2).trans rfl⟩
  · intro g e h
    obtain ⟨⟨m', xs, q1, q2⟩, q3⟩ := r.own g e h
    rw [hP, hB]
    refine ⟨⟨m', xs, ⟨q1.1, ?_⟩, q2⟩, q3⟩
    rcases q1.2 with hn | ⟨g', cap, cur, hv, hbg, hg', rest⟩
    · exact .inl hn
    · exact .inr ⟨g', cap, cur, hv, hbg, (hc _ _ _ _ hg').trans hg', rest⟩
where
  hkeepC {w w' : World} (hc : ∀ (k : Nat) (cs : Array Value) (e : TypeId) (g : Nat × Nat), w.heap[k]? = some (.cells cs e g) → w'.heap[k]? = w.heap[k]?) {b o : Nat} {v : Value} (hcell : cellAt w.heap b o = some v) : cellAt w'.heap b o = some v := by
    unfold cellAt at hcell ⊢
    cases hb : w.heap[b]? with
    | none => rw [hb] at hcell; cases hcell
    | some x =>
      rw [hb] at hcell
      cases x <;> first | cases hcell | skip
      rename_i cs e g
      rw [hc b cs e g hb, hb]; exact hcell

def tmOk (T : List Nat) (tm0 tm : List (Nat × TV)) : Bool := tm0.all fun q => q.2.bareT || (match q.2 with
  | .lp k o => T.contains q.1 && (match look q.1 tm with | some (.lp k' o') => k' == k && o' == o | _ => false)
  | _ => false)

theorem tmOk_spec {T : List Nat} {tm0 tm : List (Nat × TV)} (h : tmOk T tm0 tm = true) {t : Nat} {x : TV} (hx : look t tm0 = some x) : x.bareT = true ∨ ∃ k o, x = .lp k o ∧ t ∈ T ∧ look t tm = some (.lp k o) := by
  unfold tmOk at h
  induction tm0 with
  | nil => cases hx
  | cons q l ih =>
    obtain ⟨j, y⟩ := q
    simp only [List.all_cons, Bool.and_eq_true] at h
    simp only [look] at hx
    split at hx
    · rename_i he
      injection hx with hx
      subst hx; subst he
      have h1 := h.1
      simp only [Bool.or_eq_true] at h1
      rcases h1 with h1 | h1
      · exact .inl h1
      · right
        split at h1
        · rename_i k o
          simp only [Bool.and_eq_true, List.contains_eq_mem, decide_eq_true_eq] at h1
          refine ⟨k, o, rfl, h1.1, ?_⟩
          have h2 := h1.2
          split at h2
          · rename_i k' o' he
            simp only [Bool.and_eq_true, beq_iff_eq] at h2
            rw [he, h2.1, h2.2]
          · cases h2
        · cases h1
    · exact ih h.2 hx

def AS.out (σ : AS) (bs : List Nat) (τ : AS) (m : Nat) : AS := { σ with bx := pick bs τ.bx, tb := τ.tb.filter fun q => (look q.1 (pick bs τ.bx)).isSome, sh := [], mks := m }

theorem RR.mix {cx cxR : Cx} {gh0 gh2 : Gh} {σ0 τ : AS} {a a2 : Act} {w w4 : World} (r0 : RR cx gh0 σ0 a w) (hy : cx.gl.y = none) (hf : Frm cx.B cx.S w w4) (hk : Keep gh0.lim w.heap gh2.lim w4.heap) (hl : ∀ b, b < cx.B → gh2.lim b = gh0.lim b)
    (ho : ∀ (k : Nat) (o : Obj), cx.w0.heap[k]? = some o → o.isCells = false → o.isWalk = false → w4.heap[k]? = some o) (r2 : RR cxR gh2 τ a2 w4) (hP : cxR.P = cx.P) (hB : cxR.B = cx.B) (T : List Nat) (hT : ∀ t ∈ T, a2.tmps.getD t undef = a.tmps.getD t undef)
    (htm : tmOk T σ0.tm τ.tm = true) (bs : List Nat) (hlp : lpOk (pick bs τ.bx) σ0.tm = true) (m : Nat) (ds : List Deferred) (hd : DefOk cx.B cx.df m ds w4) : RR cx gh2 (σ0.out bs τ m) { a with defers := ds } w4 := by
  have hsome : ∀ {k}, (look k (pick bs τ.bx)).isSome = true → (look k τ.bx).isSome = true := fun h => by
    obtain ⟨c, hc⟩ := Option.isSome_iff_exists.1 h
    simp [look_pick τ.bx _ c bs hc]
  have huses : ∀ {g e}, (σ0.out bs τ m).uses g e → τ.uses g e ∧ ∃ k j, (k, j, g, e) ∈ τ.tb := by
    rintro g e (⟨t, x, h⟩ | ⟨k, j, h⟩)
    · rcases tmOk_spec htm (show look t σ0.tm = _ from h) with h1 | ⟨k, o, h1, -⟩
      · cases h1
      · cases h1
    · have := (List.mem_filter.1 h).1
      exact ⟨.inr ⟨k, j, this⟩, k, j, this⟩
  refine { frm := r0.frm.trans hf, base := Nat.le_trans r0.base hf.size, limB := fun b hb => (hl b hb).trans (r0.limB b hb), size := r0.size, ex := ⟨r0.ex.keep.trans hk, hd, fun Y hY => (by rw [hy] at hY; cases hY), ⟨fun t s p h => ?_, fun t t' s p s' p' h => ?_⟩, r0.ex.fx, fun _ => ho⟩, gl := fun g c h => (r0.gl g c h).mono hk, tmps := ?_, boxes := fun k c h => ?_, inj := fun k k' h h' => r2.inj k k' (hsome h) (hsome h'), shs := fun b c h => (by cases h), apart := fun b k h => (by cases h), tbs := ?_, own := ?_, alone := fun g e g' e' h h' => r2.alone g e g' e' (huses h).1 (huses h').1 }
  · rcases tmOk_spec htm (show look t σ0.tm = _ from h) with h1 | ⟨k, o, h1, -⟩ <;> cases h1
  · rcases tmOk_spec htm (show look t σ0.tm = _ from h) with h1 | ⟨k, o, h1, -⟩ <;> cases h1
  · intro t x h
    have h0 : look t σ0.tm = some x := h
    have hs := tmOk_spec htm h0
    refine ⟨?_, fun k off he => by subst he; exact lpOk_spec hlp t k off h0⟩
    have h' := (r0.tmps t x h0).1
    cases x with
    | un => trivial
    | v y g =>
      rcases hs with hs | ⟨k, o, hs, -⟩
      · cases g with
        | none => exact ⟨h'.1.mono hk, by simp⟩
        | some g => cases hs
      · cases hs
    | bld l ns => exact ⟨h'.1.mono hk, h'.2⟩
    | it s p => trivial
    | cl f ks => rcases hs with hs | ⟨_, _, hs, -⟩ <;> cases hs
    | lp k off =>
      rcases hs with hs | ⟨k', o', hs, ht, hl2⟩
      · cases hs
      · injection hs with e1 e2
        subst e1; subst e2
        have := (r2.tmps t _ hl2).1
        simp only [TRep] at this ⊢
        rw [hT t ht] at this
        exact this
  · have := r2.boxes k c (look_pick τ.bx k c bs h)
    rw [hB] at this
    exact this
  · intro k j g e h
    obtain ⟨h1, h2⟩ := List.mem_filter.1 h
    exact ⟨h2, (r2.tbs k j g e h1).2⟩
  · intro g e h
    have := r2.own g e (huses h).1
    rw [hP, hB] at this
    exact ⟨this.1, fun b hb => ⟨fun k hk' => (this.2 b hb).1 k (hsome hk'), rfl⟩⟩

end Go.Pv
end

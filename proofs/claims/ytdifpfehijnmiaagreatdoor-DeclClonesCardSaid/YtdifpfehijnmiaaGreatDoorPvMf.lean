import Derived.Test.YtdifpfehijnmiaaGreatDoorPvXb
import Derived.Test.YtdifpfehijnmiaaGreatDoorPvY
import Derived.Test.YtdifpfehijnmiaaGreatDoorPvV
import Derived.Test.YtdifpfehijnmiaaGreatDoorPvMe
import Derived.Test.YtdifpfehijnmiaaGreatDoorPvOc
set_option linter.all false
section
/- Laws that write: the arguments lie in region 0. -/
namespace Go.Pv
open Go Go.ChangeShapes Go.WideShapes Go.RowKit

mutual
def AV.s0 : AV → AV
  | .slice l => .sr 0 (AV.s0LL l)
  | .agg l => .agg (AV.s0L l)
  | x => AV.rg none x
def AV.s0L : List AV → List AV
  | [] => []
  | x :: r => AV.s0 x :: AV.s0L r
def AV.s0LL : List (List AV) → List (List AV)
  | [] => []
  | x :: r => AV.s0L x :: AV.s0LL r
end
theorem s0L_map (l : List AV) : AV.s0L l = l.map AV.s0 := by
  induction l with
  | nil => rfl
  | cons x r ih => simp [AV.s0L, ih]
theorem s0LL_map (l : List (List AV)) : AV.s0LL l = l.map AV.s0L := by
  induction l with
  | nil => rfl
  | cons x r ih => simp [AV.s0LL, ih]
theorem s0L_get {l : List AV} {j : Nat} {x : AV} (h : (AV.s0L l)[j]? = some x) : ∃ y, l[j]? = some y ∧ x = AV.s0 y := by
  rw [s0L_map, List.getElem?_map] at h
  obtain ⟨y, h1, h2⟩ := Option.map_eq_some_iff.1 h
  exact ⟨y, h1, h2.symm⟩
theorem s0LL_get {l : List (List AV)} {j : Nat} {x : List AV} (h : (AV.s0LL l)[j]? = some x) : ∃ y, l[j]? = some y ∧ x = AV.s0L y := by
  rw [s0LL_map, List.getElem?_map] at h
  obtain ⟨y, h1, h2⟩ := Option.map_eq_some_iff.1 h
  exact ⟨y, h1, h2.symm⟩
theorem s0LL_len (l : List (List AV)) : (AV.s0LL l).length = l.length := by rw [s0LL_map, List.length_map]
theorem s0L_len (l : List AV) : (AV.s0L l).length = l.length := by rw [s0L_map, List.length_map]
def reg0 : Lim := fun _ => .reg 0
theorem reg0_ok (b o : Nat) : Lim.ok reg0 b o := fun n h => by cases h

theorem Rep.s0 {lim : Lim} {h : Array Obj} {v : Value} {x : AV} (r : Rep lim h v x) : Rep reg0 h v x.s0 := by
  have hk : ∀ b o, lim.ok b o → Lim.ok reg0 b o := fun b o _ => reg0_ok b o
  induction r with
  | slice0 p cap => exact .sr 0 _ _ (.slice0 p cap) fun b off n c _ hl => absurd rfl hl
  | slice b off cap sz l vs hcap hrow hc hr ih =>
    have e := s0LL_len l
    have h1 := Rep.slice (lim := reg0) (h := h) b off cap sz (AV.s0LL l) vs (by rw [e]; exact hcap) (fun i r hi => by obtain ⟨y, h1, rfl⟩ := s0LL_get hi; rw [s0L_len]; exact hrow i y h1)
      (by rw [e]; exact fun j hj => ⟨reg0_ok _ _, (hc j hj).2⟩) (fun i j r x hi hj => by obtain ⟨y, h1, rfl⟩ := s0LL_get hi; obtain ⟨z, h2, rfl⟩ := s0L_get hj; exact ih i j y z h1 h2)
    rw [e] at h1
    refine .sr 0 _ _ h1 fun b' off' n' cap' hv hl => ?_
    injection hv with hv; injection hv with hv; injection hv with hv
    subst hv
    refine ⟨?_, rfl⟩
    have hlen : (AV.s0LL l).flatten.length = l.length * sz := by
      rw [← e]
      exact flat_len_rows (sz := sz) fun i r hi => by obtain ⟨y, h1, rfl⟩ := s0LL_get hi; rw [s0L_len]; exact hrow i y h1
    have hpos := List.length_pos_iff.2 hl
    rw [hlen] at hpos
    exact cellAt_B (hc 0 hpos).2
  | agg cs l hl hr ih => exact .agg cs _ (by rw [s0L_len]; exact hl) fun j x hj => by obtain ⟨y, h1, rfl⟩ := s0L_get hj; exact ih j y h1
  | bool b => exact .bool b
  | int k n => exact .int k n
  | str l => exact .str l
  | tup cs l hl hr ih => exact (Rep.tup cs l hl hr).weak hk
  | func f cs l hl hr ih => exact (Rep.func f cs l hl hr).weak hk
  | nilFunc => exact .nilFunc
  | yld l => exact .yld l
  | ro b off l vs hc hr ih => exact (Rep.ro b off l vs hc hr).weak hk
  | nilPtr => exact .nilPtr
  | gp b off => exact .gp b off
  | iface t v x hx ih => exact (Rep.iface t v x hx).weak hk
  | nilIface => exact .nilIface
  | nilS => exact .nilS
  | bfn f cs l hl hr ih => exact (Rep.bfn f cs l hl hr).weak hk
  | slX p l hx ih => exact (Rep.slX p l hx).weak hk
  | anyB b => exact .anyB b
  | fr r e z v l hx hr ih => exact (Rep.fr r e z v l hx hr).weak hk
  | sr r v l hx hr ih => exact (Rep.sr r v l hx hr).weak hk
  | any v hv => exact .any v hv
  | gs b n cap => exact .gs b n cap
theorem RepL.s0 {lim : Lim} {h : Array Obj} {vs : List Value} {l : List AV} (r : RepL lim h vs l) : RepL reg0 h vs (AV.s0L l) :=
  ⟨by rw [s0L_len]; exact r.1, fun j x hj => by obtain ⟨y, h1, rfl⟩ := s0L_get hj; exact (r.2 j y h1).s0⟩

theorem law_callsT {H : Type} {enc : TypeId × Value → H} {P : Program} {fn : Func} {f : FuncId} {s : ChangeSpec} {T : List Nat} {gl : Gl} {W : World} {base : Nat} {args : Array Value} {ds gs : List (DataW H)} {before : List MemPlace} {tb : TypeId} {fresh handsOn again : Bool}
    (hT : (T.all fun t => plainT P T t) = true) (hlaid : laidOutB P = true) (hpar : (fn.params.toList.all fun t => T.contains t && P.readableRec t && decide (t < P.types.size)) = true) (hres : fn.resultTypes = #[tb]) (hb : P.underlying tb = some .bool) (hvars : s.vars = [])
    (hval : ∀ (j : Nat) t v, fn.params[j]? = some t → args[j]? = some v → Value.okWide P W .any base t v)
    (hW : DataW.Whole enc P fn.params.toList s.vars false W args.toList ds gs before) (hgl : GlOk gl allL W.heap) (hvt : s.plain.varTypes P = [])
    (hwt : (DataW.weightsEach P (fn.params.toList ++ s.plain.varTypes P) (ds ++ gs)).all (· ≤ reachBytes) = true)
    (hv : typedAll P fn.params.toList ds → (DataW.weightsEach P fn.params.toList ds).all (· ≤ reachBytes) = true → ValidT P gl f (AV.s0L (argAVs P fn.params.toList ds)) (.bool true)) (hp : GlPlain gl)
    (hspec : typedAll P fn.params.toList ds → s.fn H (ds ++ []) = { results := [.lit (.bool true)], args := ds }) :
    Calls P f args W fun e W' => ∃ v, e = .returned v ∧ s.post enc P fn false fresh handsOn again W args v W' := by
  have hW0 := hW
  obtain ⟨p, q, hA, hV, rfl, hfz, hnd⟩ := hW
  rw [hvars] at hV
  obtain ⟨rfl, rfl⟩ : gs = [] ∧ q = [] := by
    cases gs with
    | nil => exact ⟨rfl, hV⟩
    | cons g r => exact hV.elim
  have hpar' : ∀ t ∈ fn.params.toList, T.contains t = true ∧ P.readableRec t = true ∧ t < P.types.size := fun t ht => by
    have := List.all_eq_true.1 hpar t ht
    simp only [Bool.and_eq_true, decide_eq_true_eq] at this
    exact ⟨this.1.1, this.1.2, this.2⟩
  obtain ⟨hrep, hty⟩ := args_rep (w := W) hT fn.params.toList args.toList ds p (List.all_eq_true.2 fun t ht => (hpar' t ht).1) (fun j t v a b => hval j t v (by simpa using a) (by simpa using b)) hA
  obtain ⟨-, hcall⟩ := hv hty (by simpa [hvt] using hwt)
  refine (hcall reg0 W args.toList (fun b r h => by cases h; rfl) (hgl.weak hp fun _ _ _ => reg0_ok _ _) hrep.s0).mono fun e W' => ?_
  rintro ⟨v, lim', rfl, hf, hr⟩
  have hbv := rep_bool hr
  subst hbv
  have hbel : Below W.heap.size W W' := ⟨hf.os, hf.tape, hf.output, hf.size, fun k hk => hf.block k hk (fun h => h)⟩
  have e1 := hspec hty
  simp only [List.append_nil] at hW0 ⊢
  have hlt : ∀ x ∈ p, x.block < W.heap.size := fun x hx => hW0.lt x hx
  have hold : ∀ x ∈ p, (fun b => decide (b < W.heap.size)) x.block = true := fun x hx => by simpa using hlt x hx
  have hresT : ∀ (b : Nat) (sp : Nat → Bool) (hd : Bool), DataW.TrodAll enc P W' b sp hd fn.resultTypes.toList ((Value.bool true).resultList fn.resultTypes.size) (s.fn H (ds ++ [])).results [] := fun b sp hd => by
    rw [e1, hres]
    exact trodAll_mk1 (shut_bool hb true)
  have hargs : ∀ sp : Nat → Bool, (∀ x ∈ p, sp x.block = true) → DataW.TrodAll enc P W' 0 sp true fn.params.toList args.toList (s.fn H (ds ++ [])).args p := fun sp hsp => by
    rw [e1]
    exact keep_args hlaid hbel fn.params.toList args.toList ds p (fun t ht => (hpar' t ht).2) hA hlt sp hsp
  refine ⟨_, rfl, ds, [], p, [], p, [], by simpa using hW0, hresT _ _ _, hargs _ hold, ?_, World.keptBut_mono (fun x hx => hx.elim) (hbel.frame fun _ => False), fun _ => ⟨fun j t' r hj hv => ?_, ?_⟩⟩
  · rw [hvars, e1]; rfl
  · rw [hres] at hj hv
    match j, hj, hv with
    | 0, hj, hv =>
      simp only [List.getElem?_toArray, List.getElem?_cons_zero, Option.some.injEq] at hj
      subst hj
      simp only [List.size_toArray, List.length_cons, List.length_nil, Value.resultList] at hv
      injection hv with hv; subst hv
      exact okWide_bool_mk hb true
  · refine ⟨_, [], ([] ++ p) ++ [], ⟨[] ++ p, [], trodAll_append (hargs (fun _ => true) (fun _ _ => rfl)) (hresT 0 (fun _ => true) true), by rw [hvars]; rfl, rfl, fun b off hx => ?_, fun h => by cases h⟩, fun x hx _ => ?_⟩
    · skip
      rw [hbel.frozen (hlt _ (by simpa using hx))]
      exact hfz b off (by simpa using hx)
    · simpa using hx

end Go.Pv
end

section
/- Types whose rows belong to a region. -/
namespace Go.Pv
open Go

mutual
def encM (f : List (List AV) → AV) : Ty → List AV
  | .mk n az p => [.str n, f (encMs f az), .int .i64 p]
def encMs (f : List (List AV) → AV) : List Ty → List (List AV)
  | [] => []
  | t :: r => encM f t :: encMs f r
end
theorem encMs_map (f : List (List AV) → AV) (l : List Ty) : encMs f l = l.map (encM f) := by
  induction l with
  | nil => simp [encMs]
  | cons t l ih => simp [encMs, ih]
theorem encM_def (f : List (List AV) → AV) (t : Ty) : encM f t = [.str t.name, f (t.args.map (encM f)), .int .i64 t.pos] := by
  cases t with
  | mk n az p => simp [encM, encMs_map]
theorem mapM {F : AV → AV} {FL : List AV → List AV} {FLL : List (List AV) → List (List AV)} {f g : List (List AV) → AV} (h1 : ∀ s, F (.str s) = .str s) (h2 : ∀ n, F (.int .i64 n) = .int .i64 n) (hL : ∀ l, FL l = l.map F) (hLL : ∀ l, FLL l = l.map FL)
    (hf : ∀ l, F (f l) = g (FLL l)) (t : Ty) : FL (encM f t) = encM g t := by
  induction t using Ty.ind with
  | h n ts p ih =>
    rw [encM_def, encM_def, hL]
    simp only [List.map_cons, List.map_nil, h1, h2, hf, hLL, List.map_map, Ty.name, Ty.args, Ty.pos]
    rw [show ts.map (FL ∘ encM f) = ts.map (encM g) from List.map_congr_left fun t ht => ih t ht]
theorem allM {F : AV → Bool} {FL : List AV → Bool} {FLL : List (List AV) → Bool} {f : List (List AV) → AV} (h1 : ∀ s, F (.str s) = true) (h2 : ∀ n, F (.int .i64 n) = true) (hL : ∀ l, FL l = l.all F) (hLL : ∀ l, FLL l = l.all FL)
    (hf : ∀ l, F (f l) = FLL l) (t : Ty) : FL (encM f t) = true := by
  induction t using Ty.ind with
  | h n ts p ih =>
    rw [encM_def, hL]
    simp only [List.all_cons, List.all_nil, h1, h2, hf, hLL, Ty.name, Ty.args, Ty.pos, Bool.true_and, Bool.and_true, List.all_map, List.all_eq_true]
    exact fun t ht => ih t ht
theorem encTy_M : encTy = encM .slice := funext fun t => by
  induction t using Ty.ind with
  | h n ts p ih =>
    rw [encM_def, encTy_def]
    simp only [Ty.args]
    rw [show ts.map encTy = ts.map (encM .slice) from List.map_congr_left fun t ht => ih t ht]
def encR (e ρ : Nat) : Ty → List AV := encM (AV.fr ρ e 3)
def encZ : Ty → List AV := encM (AV.sr 0)
theorem encR_def (e ρ : Nat) (t : Ty) : encR e ρ t = [.str t.name, .fr ρ e 3 (t.args.map (encR e ρ)), .int .i64 t.pos] := by unfold encR; rw [encM_def]
theorem encR_mk (e ρ : Nat) (n : Str) (az : List Ty) (p : Int) : encR e ρ (.mk n az p) = [.str n, .fr ρ e 3 (az.map (encR e ρ)), .int .i64 p] := by rw [encR_def]; rfl
@[simp] theorem encR_len (e ρ : Nat) (t : Ty) : (encR e ρ t).length = 3 := by rw [encR_def]; rfl
@[simp] theorem encR_one (e ρ : Nat) (t : Ty) : (encR e ρ t).all AV.one = true := by rw [encR_def]; rfl
@[simp] theorem encR_0 (e ρ : Nat) (t : Ty) : (encR e ρ t)[0]? = some (.str t.name) := by rw [encR_def]; rfl
@[simp] theorem encR_1 (e ρ : Nat) (t : Ty) : (encR e ρ t)[1]? = some (.fr ρ e 3 (t.args.map (encR e ρ))) := by rw [encR_def]; rfl
@[simp] theorem encR_2 (e ρ : Nat) (t : Ty) : (encR e ρ t)[2]? = some (.int .i64 t.pos) := by rw [encR_def]; rfl
@[simp] theorem encR_g0 (e ρ : Nat) (t : Ty) (h : 0 < (encR e ρ t).length) : (encR e ρ t)[0] = .str t.name := by have := encR_0 e ρ t; rw [List.getElem?_eq_getElem h] at this; injection this
@[simp] theorem encR_g1 (e ρ : Nat) (t : Ty) (h : 1 < (encR e ρ t).length) : (encR e ρ t)[1] = .fr ρ e 3 (t.args.map (encR e ρ)) := by have := encR_1 e ρ t; rw [List.getElem?_eq_getElem h] at this; injection this
@[simp] theorem encR_g2 (e ρ : Nat) (t : Ty) (h : 2 < (encR e ρ t).length) : (encR e ρ t)[2] = .int .i64 t.pos := by have := encR_2 e ρ t; rw [List.getElem?_eq_getElem h] at this; injection this
@[simp] theorem encR_take (e ρ : Nat) (t : Ty) : (encR e ρ t).take 3 = encR e ρ t := by rw [encR_def]; rfl
@[simp] theorem encR_drop (e ρ : Nat) (t : Ty) : (encR e ρ t).drop 3 = [] := by rw [encR_def]; rfl
@[simp] theorem encR_take2 (e ρ : Nat) (t : Ty) : (encR e ρ t).take 2 = [.str t.name, .fr ρ e 3 (t.args.map (encR e ρ))] := by rw [encR_def]; rfl
@[simp] theorem encR_take1 (e ρ : Nat) (t : Ty) : (encR e ρ t).take 1 = [.str t.name] := by rw [encR_def]; rfl
@[simp] theorem encR_drop2 (e ρ : Nat) (t : Ty) : (encR e ρ t).drop 2 = [.int .i64 t.pos] := by rw [encR_def]; rfl
@[simp] theorem encR_rows (e ρ : Nat) (l : List Ty) : Rows 3 (l.map (encR e ρ)) := Rows_map 3 (encR e ρ) (fun t => ⟨encR_len e ρ t, encR_one e ρ t⟩) l
@[simp] theorem encR_rows_comp {α : Type} (e ρ : Nat) (f : α → Ty) (l : List α) : Rows 3 (l.map (encR e ρ ∘ f)) := Rows_map 3 _ (fun t => ⟨encR_len e ρ (f t), encR_one e ρ (f t)⟩) l
@[simp] theorem encR_rows_take {α : Type} (e ρ : Nat) (f : α → Ty) (l : List α) (k : Nat) : Rows 3 (List.take k (l.map (encR e ρ ∘ f))) := Rows_take (encR_rows_comp e ρ f l) k
@[simp] theorem encR_rows_take0 (e ρ : Nat) (l : List Ty) (k : Nat) : Rows 3 (List.take k (l.map (encR e ρ))) := Rows_take (encR_rows e ρ l) k
@[simp] theorem encR_oo (e ρ : Nat) (r : Nat) (t : Ty) : ((encR e ρ t).all fun x => x.off r || x.one) = true := by rw [encR_def]; simp [AV.one]
theorem encZ_def (t : Ty) : encZ t = [.str t.name, .sr 0 (t.args.map (encZ)), .int .i64 t.pos] := by unfold encZ; rw [encM_def]
@[simp] theorem encZ_len (t : Ty) : (encZ t).length = 3 := by rw [encZ_def]; rfl
@[simp] theorem encZ_one (t : Ty) : (encZ t).all AV.one = true := by rw [encZ_def]; rfl
@[simp] theorem encZ_0 (t : Ty) : (encZ t)[0]? = some (.str t.name) := by rw [encZ_def]; rfl
@[simp] theorem encZ_1 (t : Ty) : (encZ t)[1]? = some (.sr 0 (t.args.map (encZ))) := by rw [encZ_def]; rfl
@[simp] theorem encZ_2 (t : Ty) : (encZ t)[2]? = some (.int .i64 t.pos) := by rw [encZ_def]; rfl
@[simp] theorem encZ_g0 (t : Ty) (h : 0 < (encZ t).length) : (encZ t)[0] = .str t.name := by have := encZ_0  t; rw [List.getElem?_eq_getElem h] at this; injection this
@[simp] theorem encZ_g1 (t : Ty) (h : 1 < (encZ t).length) : (encZ t)[1] = .sr 0 (t.args.map (encZ)) := by have := encZ_1  t; rw [List.getElem?_eq_getElem h] at this; injection this
@[simp] theorem encZ_g2 (t : Ty) (h : 2 < (encZ t).length) : (encZ t)[2] = .int .i64 t.pos := by have := encZ_2  t; rw [List.getElem?_eq_getElem h] at this; injection this
@[simp] theorem encZ_take (t : Ty) : (encZ t).take 3 = encZ t := by rw [encZ_def]; rfl
@[simp] theorem encZ_drop (t : Ty) : (encZ t).drop 3 = [] := by rw [encZ_def]; rfl
@[simp] theorem encZ_take2 (t : Ty) : (encZ t).take 2 = [.str t.name, .sr 0 (t.args.map (encZ))] := by rw [encZ_def]; rfl
@[simp] theorem encZ_take1 (t : Ty) : (encZ t).take 1 = [.str t.name] := by rw [encZ_def]; rfl
@[simp] theorem encZ_drop2 (t : Ty) : (encZ t).drop 2 = [.int .i64 t.pos] := by rw [encZ_def]; rfl
@[simp] theorem encZ_rows (l : List Ty) : Rows 3 (l.map (encZ)) := Rows_map 3 (encZ) (fun t => ⟨encZ_len  t, encZ_one  t⟩) l
@[simp] theorem encZ_rows_comp {α : Type} (f : α → Ty) (l : List α) : Rows 3 (l.map (encZ ∘ f)) := Rows_map 3 _ (fun t => ⟨encZ_len  (f t), encZ_one  (f t)⟩) l
@[simp] theorem encZ_rows_take {α : Type} (f : α → Ty) (l : List α) (k : Nat) : Rows 3 (List.take k (l.map (encZ ∘ f))) := Rows_take (encZ_rows_comp  f l) k
@[simp] theorem encZ_rows_take0 (l : List Ty) (k : Nat) : Rows 3 (List.take k (l.map (encZ))) := Rows_take (encZ_rows  l) k
@[simp] theorem encZ_oo (r : Nat) (t : Ty) : ((encZ t).all fun x => x.off r || x.one) = true := by rw [encZ_def]; simp [AV.one]
theorem encTy_s0 (t : Ty) : AV.s0L (encTy t) = encZ t := by rw [encTy_M]; exact mapM (fun _ => rfl) (fun _ => rfl) s0L_map s0LL_map (fun _ => rfl) t
theorem kill_off {r : Nat} {l : List AV} (h : AV.offL r l = true) : l.map (AV.kill r) = l := by
  rw [offL_all, List.all_eq_true] at h
  refine (List.map_congr_left fun x hx => ?_).trans (List.map_id l)
  simp [AV.kill, h x hx]
theorem Valid.atM {P : Program} {gl gl' : Gl} {f : FuncId} {args args' : List AV} {x : AV} (hg : gl'.g = gl.g) (h : Valid P gl f args x) (ha : AV.rgL none args' = args) : Valid P gl' f args' x := Valid.plainA (by rw [ha]; exact h.gl hg)
end Go.Pv
end

section
/- Expressions whose rows belong to a region. -/
namespace Go.Pv
open Go

mutual
def encX (f h : List (List AV) → AV) : Exp → List AV
  | .mk k n t a l p => [.int .i64 k, .str n, .str t.name, f (t.args.map (encM f)), .int .i64 t.pos, f (a.map (encM f)), h (encXs f h l), .int .i64 p]
def encXs (f h : List (List AV) → AV) : List Exp → List (List AV)
  | [] => []
  | e :: r => encX f h e :: encXs f h r
end
theorem encXs_map (f h : List (List AV) → AV) (l : List Exp) : encXs f h l = l.map (encX f h) := by
  induction l with
  | nil => rfl
  | cons t r ih => simp [encXs, ih]
theorem encX_def (f h : List (List AV) → AV) (e : Exp) : encX f h e = [.int .i64 e.kind, .str e.name, .str e.ty.name, f (e.ty.args.map (encM f)), .int .i64 e.ty.pos, f (e.ta.map (encM f)), h (e.kids.map (encX f h)), .int .i64 e.pos] := by
  cases e; rw [encX, encXs_map]; rfl
theorem mapX {F : AV → AV} {FL : List AV → List AV} {FLL : List (List AV) → List (List AV)} {f g h q : List (List AV) → AV} (h1 : ∀ s, F (.str s) = .str s) (h2 : ∀ n, F (.int .i64 n) = .int .i64 n) (hL : ∀ l, FL l = l.map F) (hLL : ∀ l, FLL l = l.map FL)
    (hf : ∀ l, F (f l) = g (FLL l)) (hh : ∀ l, F (h l) = q (FLL l)) (e : Exp) : FL (encX f h e) = encX g q e := by
  induction e using Exp.ind with
  | h k n t a l p ih =>
    have hT : ∀ x : List Ty, x.map (FL ∘ encM f) = x.map (encM g) := fun x => List.map_congr_left fun t _ => mapM h1 h2 hL hLL hf t
    rw [encX_def, encX_def, hL]
    simp only [List.map_cons, List.map_nil, h1, h2, hf, hh, hLL, List.map_map, Exp.kind, Exp.name, Exp.ty, Exp.ta, Exp.kids, Exp.pos, hT]
    rw [show l.map (FL ∘ encX f h) = l.map (encX g q) from List.map_congr_left fun t ht => ih t ht]
theorem allX {F : AV → Bool} {FL : List AV → Bool} {FLL : List (List AV) → Bool} {f h : List (List AV) → AV} (h1 : ∀ s, F (.str s) = true) (h2 : ∀ n, F (.int .i64 n) = true) (hL : ∀ l, FL l = l.all F) (hLL : ∀ l, FLL l = l.all FL)
    (hf : ∀ l, F (f l) = FLL l) (hh : ∀ l, F (h l) = FLL l) (e : Exp) : FL (encX f h e) = true := by
  induction e using Exp.ind with
  | h k n t a l p ih =>
    have hT : ∀ x : List Ty, (x.all (FL ∘ encM f)) = true := fun x => List.all_eq_true.2 fun t _ => allM h1 h2 hL hLL hf t
    rw [encX_def, hL]
    simp only [List.all_cons, List.all_nil, h1, h2, hf, hh, hLL, Bool.true_and, Bool.and_true, List.all_map, Exp.kind, Exp.name, Exp.ty, Exp.ta, Exp.kids, Exp.pos, hT]
    exact List.all_eq_true.2 fun t ht => ih t ht
theorem encE_X : encE = encX .slice .slice := funext fun e => by
  induction e using Exp.ind with
  | h k n t a l p ih =>
    rw [encX_def, encE_def, ← encTy_M]
    simp only [Exp.kids]
    rw [show l.map encE = l.map (encX .slice .slice) from List.map_congr_left fun t ht => ih t ht]
def encER (te ee ρ : Nat) : Exp → List AV := encX (AV.fr ρ te 3) (AV.fr ρ ee 8)
def encEZ : Exp → List AV := encX (AV.sr 0) (AV.sr 0)
theorem encER_def (te ee ρ : Nat) (e : Exp) : encER te ee ρ e = [.int .i64 e.kind, .str e.name, .str e.ty.name, .fr ρ te 3 (e.ty.args.map (encR te ρ)), .int .i64 e.ty.pos, .fr ρ te 3 (e.ta.map (encR te ρ)), .fr ρ ee 8 (e.kids.map (encER te ee ρ)), .int .i64 e.pos] := by unfold encER encR; rw [encX_def]
theorem encER_mk (te ee ρ : Nat) (k : Int) (n : Str) (t : Ty) (a : List Ty) (l : List Exp) (p : Int) : encER te ee ρ (.mk k n t a l p) = [.int .i64 k, .str n, .str t.name, .fr ρ te 3 (t.args.map (encR te ρ)), .int .i64 t.pos, .fr ρ te 3 (a.map (encR te ρ)), .fr ρ ee 8 (l.map (encER te ee ρ)), .int .i64 p] := by rw [encER_def]; rfl
@[simp] theorem encER_len (te ee ρ : Nat) (e : Exp) : (encER te ee ρ e).length = 8 := by rw [encER_def]; rfl
@[simp] theorem encER_one (te ee ρ : Nat) (e : Exp) : (encER te ee ρ e).all AV.one = true := by rw [encER_def]; rfl
@[simp] theorem encER_0 (te ee ρ : Nat) (e : Exp) : (encER te ee ρ e)[0]? = some (.int .i64 e.kind) := by rw [encER_def]; rfl
@[simp] theorem encER_g0 (te ee ρ : Nat) (e : Exp) (h : 0 < (encER te ee ρ e).length) : (encER te ee ρ e)[0] = .int .i64 e.kind := by have := encER_0 te ee ρ e; rw [List.getElem?_eq_getElem h] at this; injection this
@[simp] theorem encER_1 (te ee ρ : Nat) (e : Exp) : (encER te ee ρ e)[1]? = some (.str e.name) := by rw [encER_def]; rfl
@[simp] theorem encER_g1 (te ee ρ : Nat) (e : Exp) (h : 1 < (encER te ee ρ e).length) : (encER te ee ρ e)[1] = .str e.name := by have := encER_1 te ee ρ e; rw [List.getElem?_eq_getElem h] at this; injection this
@[simp] theorem encER_2 (te ee ρ : Nat) (e : Exp) : (encER te ee ρ e)[2]? = some (.str e.ty.name) := by rw [encER_def]; rfl
@[simp] theorem encER_g2 (te ee ρ : Nat) (e : Exp) (h : 2 < (encER te ee ρ e).length) : (encER te ee ρ e)[2] = .str e.ty.name := by have := encER_2 te ee ρ e; rw [List.getElem?_eq_getElem h] at this; injection this
@[simp] theorem encER_3 (te ee ρ : Nat) (e : Exp) : (encER te ee ρ e)[3]? = some (.fr ρ te 3 (e.ty.args.map (encR te ρ))) := by rw [encER_def]; rfl
@[simp] theorem encER_g3 (te ee ρ : Nat) (e : Exp) (h : 3 < (encER te ee ρ e).length) : (encER te ee ρ e)[3] = .fr ρ te 3 (e.ty.args.map (encR te ρ)) := by have := encER_3 te ee ρ e; rw [List.getElem?_eq_getElem h] at this; injection this
@[simp] theorem encER_4 (te ee ρ : Nat) (e : Exp) : (encER te ee ρ e)[4]? = some (.int .i64 e.ty.pos) := by rw [encER_def]; rfl
@[simp] theorem encER_g4 (te ee ρ : Nat) (e : Exp) (h : 4 < (encER te ee ρ e).length) : (encER te ee ρ e)[4] = .int .i64 e.ty.pos := by have := encER_4 te ee ρ e; rw [List.getElem?_eq_getElem h] at this; injection this
@[simp] theorem encER_5 (te ee ρ : Nat) (e : Exp) : (encER te ee ρ e)[5]? = some (.fr ρ te 3 (e.ta.map (encR te ρ))) := by rw [encER_def]; rfl
@[simp] theorem encER_g5 (te ee ρ : Nat) (e : Exp) (h : 5 < (encER te ee ρ e).length) : (encER te ee ρ e)[5] = .fr ρ te 3 (e.ta.map (encR te ρ)) := by have := encER_5 te ee ρ e; rw [List.getElem?_eq_getElem h] at this; injection this
@[simp] theorem encER_6 (te ee ρ : Nat) (e : Exp) : (encER te ee ρ e)[6]? = some (.fr ρ ee 8 (e.kids.map (encER te ee ρ))) := by rw [encER_def]; rfl
@[simp] theorem encER_g6 (te ee ρ : Nat) (e : Exp) (h : 6 < (encER te ee ρ e).length) : (encER te ee ρ e)[6] = .fr ρ ee 8 (e.kids.map (encER te ee ρ)) := by have := encER_6 te ee ρ e; rw [List.getElem?_eq_getElem h] at this; injection this
@[simp] theorem encER_7 (te ee ρ : Nat) (e : Exp) : (encER te ee ρ e)[7]? = some (.int .i64 e.pos) := by rw [encER_def]; rfl
@[simp] theorem encER_g7 (te ee ρ : Nat) (e : Exp) (h : 7 < (encER te ee ρ e).length) : (encER te ee ρ e)[7] = .int .i64 e.pos := by have := encER_7 te ee ρ e; rw [List.getElem?_eq_getElem h] at this; injection this
@[simp] theorem encER_take (te ee ρ : Nat) (e : Exp) : (encER te ee ρ e).take 8 = encER te ee ρ e := by rw [encER_def]; rfl
@[simp] theorem encER_drop (te ee ρ : Nat) (e : Exp) : (encER te ee ρ e).drop 8 = [] := by rw [encER_def]; rfl
@[simp] theorem encER_rows (te ee ρ : Nat) (l : List Exp) : Rows 8 (l.map (encER te ee ρ)) := Rows_map 8 (encER te ee ρ) (fun t => ⟨encER_len te ee ρ t, encER_one te ee ρ t⟩) l
@[simp] theorem encER_rows_take0 (te ee ρ : Nat) (l : List Exp) (k : Nat) : Rows 8 (List.take k (l.map (encER te ee ρ))) := Rows_take (encER_rows te ee ρ l) k
@[simp] theorem encER_rows_comp {α : Type} (te ee ρ : Nat) (f : α → Exp) (l : List α) : Rows 8 (l.map (encER te ee ρ ∘ f)) := Rows_map 8 _ (fun t => ⟨encER_len te ee ρ (f t), encER_one te ee ρ (f t)⟩) l
@[simp] theorem encER_rows_take {α : Type} (te ee ρ : Nat) (f : α → Exp) (l : List α) (k : Nat) : Rows 8 (List.take k (l.map (encER te ee ρ ∘ f))) := Rows_take (encER_rows_comp te ee ρ f l) k
@[simp] theorem encER_oo (te ee ρ : Nat) (r : Nat) (e : Exp) : ((encER te ee ρ e).all fun x => x.off r || x.one) = true := by rw [encER_def]; simp [AV.one]
theorem encEZ_def (e : Exp) : encEZ e = [.int .i64 e.kind, .str e.name, .str e.ty.name, .sr 0 (e.ty.args.map (encZ)), .int .i64 e.ty.pos, .sr 0 (e.ta.map (encZ)), .sr 0 (e.kids.map (encEZ)), .int .i64 e.pos] := by unfold encEZ encZ; rw [encX_def]
@[simp] theorem encEZ_len (e : Exp) : (encEZ e).length = 8 := by rw [encEZ_def]; rfl
@[simp] theorem encEZ_one (e : Exp) : (encEZ e).all AV.one = true := by rw [encEZ_def]; rfl
@[simp] theorem encEZ_0 (e : Exp) : (encEZ e)[0]? = some (.int .i64 e.kind) := by rw [encEZ_def]; rfl
@[simp] theorem encEZ_g0 (e : Exp) (h : 0 < (encEZ e).length) : (encEZ e)[0] = .int .i64 e.kind := by have := encEZ_0  e; rw [List.getElem?_eq_getElem h] at this; injection this
@[simp] theorem encEZ_1 (e : Exp) : (encEZ e)[1]? = some (.str e.name) := by rw [encEZ_def]; rfl
@[simp] theorem encEZ_g1 (e : Exp) (h : 1 < (encEZ e).length) : (encEZ e)[1] = .str e.name := by have := encEZ_1  e; rw [List.getElem?_eq_getElem h] at this; injection this
@[simp] theorem encEZ_2 (e : Exp) : (encEZ e)[2]? = some (.str e.ty.name) := by rw [encEZ_def]; rfl
@[simp] theorem encEZ_g2 (e : Exp) (h : 2 < (encEZ e).length) : (encEZ e)[2] = .str e.ty.name := by have := encEZ_2  e; rw [List.getElem?_eq_getElem h] at this; injection this
@[simp] theorem encEZ_3 (e : Exp) : (encEZ e)[3]? = some (.sr 0 (e.ty.args.map (encZ))) := by rw [encEZ_def]; rfl
@[simp] theorem encEZ_g3 (e : Exp) (h : 3 < (encEZ e).length) : (encEZ e)[3] = .sr 0 (e.ty.args.map (encZ)) := by have := encEZ_3  e; rw [List.getElem?_eq_getElem h] at this; injection this
@[simp] theorem encEZ_4 (e : Exp) : (encEZ e)[4]? = some (.int .i64 e.ty.pos) := by rw [encEZ_def]; rfl
@[simp] theorem encEZ_g4 (e : Exp) (h : 4 < (encEZ e).length) : (encEZ e)[4] = .int .i64 e.ty.pos := by have := encEZ_4  e; rw [List.getElem?_eq_getElem h] at this; injection this
@[simp] theorem encEZ_5 (e : Exp) : (encEZ e)[5]? = some (.sr 0 (e.ta.map (encZ))) := by rw [encEZ_def]; rfl
@[simp] theorem encEZ_g5 (e : Exp) (h : 5 < (encEZ e).length) : (encEZ e)[5] = .sr 0 (e.ta.map (encZ)) := by have := encEZ_5  e; rw [List.getElem?_eq_getElem h] at this; injection this
@[simp] theorem encEZ_6 (e : Exp) : (encEZ e)[6]? = some (.sr 0 (e.kids.map (encEZ))) := by rw [encEZ_def]; rfl
@[simp] theorem encEZ_g6 (e : Exp) (h : 6 < (encEZ e).length) : (encEZ e)[6] = .sr 0 (e.kids.map (encEZ)) := by have := encEZ_6  e; rw [List.getElem?_eq_getElem h] at this; injection this
@[simp] theorem encEZ_7 (e : Exp) : (encEZ e)[7]? = some (.int .i64 e.pos) := by rw [encEZ_def]; rfl
@[simp] theorem encEZ_g7 (e : Exp) (h : 7 < (encEZ e).length) : (encEZ e)[7] = .int .i64 e.pos := by have := encEZ_7  e; rw [List.getElem?_eq_getElem h] at this; injection this
@[simp] theorem encEZ_take (e : Exp) : (encEZ e).take 8 = encEZ e := by rw [encEZ_def]; rfl
@[simp] theorem encEZ_drop (e : Exp) : (encEZ e).drop 8 = [] := by rw [encEZ_def]; rfl
@[simp] theorem encEZ_rows (l : List Exp) : Rows 8 (l.map (encEZ)) := Rows_map 8 (encEZ) (fun t => ⟨encEZ_len  t, encEZ_one  t⟩) l
@[simp] theorem encEZ_rows_take0 (l : List Exp) (k : Nat) : Rows 8 (List.take k (l.map (encEZ))) := Rows_take (encEZ_rows  l) k
@[simp] theorem encEZ_rows_comp {α : Type} (f : α → Exp) (l : List α) : Rows 8 (l.map (encEZ ∘ f)) := Rows_map 8 _ (fun t => ⟨encEZ_len  (f t), encEZ_one  (f t)⟩) l
@[simp] theorem encEZ_rows_take {α : Type} (f : α → Exp) (l : List α) (k : Nat) : Rows 8 (List.take k (l.map (encEZ ∘ f))) := Rows_take (encEZ_rows_comp  f l) k
@[simp] theorem encEZ_oo (r : Nat) (e : Exp) : ((encEZ e).all fun x => x.off r || x.one) = true := by rw [encEZ_def]; simp [AV.one]
end Go.Pv
end

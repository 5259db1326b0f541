import Derived.Test.YtocmdbojefgpbaaGreatDoorPvY
import Derived.Handed
import Derived.Shelf.Vars
import Derived.Test.YtocmdbojefgpbaaGreatDoorPvXc
import Derived.Test.YtocmdbojefgpbaaGreatDoorPvV
import Derived.Test.YtocmdbojefgpbaaGreatDoorPvMd
import Derived.Test.YtocmdbojefgpbaaGreatDoorPvOc
set_option linter.all false
section
/- The world's shape behind a row's claim: a variable of an integer's type holds some integer. -/
namespace Go.Pv
open Go Go.ChangeShapes Go.WideShapes Go.RowKit

theorem glAt_int {P : Program} {w : World} {g : Nat} {t : TypeId} {zero : Array Value} {k : IntKind}
    (h : w.ShapedOpen P) (hg : g < P.globals.size) (h0 : ((begin P (fun _ _ => 0) default).world.heap[g]?).bind Obj.row? = some (zero, t)) (hz : zero.size = 1)
    (hb : P.buildable t = true) (hc : P.cellTypes P.depth t = some [t]) (hu : P.underlying t = some (.int k)) : ∃ m, GlAt allL w.heap g [.int k m] := by
  obtain ⟨m, hm⟩ := Go.Proofs.cell_of_shapedOpen_int h hg h0 hz hb hc hu
  obtain ⟨cs, hh, hs, -⟩ := h.1 g zero t hg h0
  rw [cell?_eq] at hm
  refine ⟨m, Rep.ro_iff.2 ⟨g, 0, [.int k m], rfl, .cons (.int k m) (.nil _ _), fun j u hu => ⟨allL_ok _ _, ?_⟩⟩, fun _ => ⟨allL_ok _ _, ?_⟩⟩
  · match j, hu with
    | 0, hu => rw [Nat.zero_add, hm]; simpa using hu
  · have : cellAt w.heap g 1 = none := by
      unfold cellAt
      rw [hh]
      simp only
      rw [Array.getElem?_eq_none (by omega)]
    exact this

variable {H : Type} {enc : TypeId × Value → H}
theorem handed_andS {a : Assume} {C : Checked} {os : Os} {f : FuncId} {fn : Func} {s : ChangeSpec} {conds : List PathCond} {apart fresh handsOn again : Bool} {X : World → Array Value → Prop}
    (hX : ∀ (w w' : World) (args : Array Value), w.heap = w'.heap → X w args → X w' args)
    (own : ownKnob C.prog.godebug = none) (started : os.Started) (noInit : C.prog.inits.idxOf? f = none) (hfn : C.prog.funcs[f]? = some fn)
    (witness : ∃ (w : World) (tape : Tape) (i : Input), w.os = os ∧ (w.forCall tape i).Shaped C.prog ∧ i.vars = [] ∧ Input.okWide C.prog (w.forCall tape i) .any w.heap.size f i ∧
      ((s.pre enc C.prog fn conds apart (w.forCall tape i).memory i.args ∧ X (w.forCall tape i).memory i.args) ∧ sizedMet enc C.prog fn (OpenSpec.ofChange s) apart (w.forCall tape i).memory i.args) ∧ a.holds C.prog (lone (Frame.enter C.prog f i.args .normal) [] (w.forCall tape i)))
    (contract : ∀ (W : World) (base : Nat) (args : Array Value) (ds gs : List (DataW H)) (before : List MemPlace),
      (∀ (j : Nat) t v, fn.params[j]? = some t → args[j]? = some v → Value.okWide C.prog W .any base t v) →
      DataW.Whole enc C.prog fn.params.toList s.vars apart W args.toList ds gs before →
      (DataW.weightsEach C.prog (fn.params.toList ++ s.plain.varTypes C.prog) (ds ++ gs)).all (· ≤ reachBytes) = true → X W args → W.ShapedOpen C.prog →
      Calls C.prog f args W fun e W' => ∃ v, e = .returned v ∧ s.post enc C.prog fn apart fresh handsOn again W args v W') :
    ReturnsInHanded a C os f .any (fun w args => (s.pre enc C.prog fn conds apart w args ∧ X w args) ∧ sizedMet enc C.prog fn (OpenSpec.ofChange s) apart w args) (s.post enc C.prog fn apart fresh handsOn again) := by
  refine returnsInHanded_of_calls own started noInit witness ?_
  intro w tape i _ hsh _ hok hpre _
  obtain ⟨_, _, _, fn', hfn', _, _, _, _, hval⟩ := hok
  obtain rfl := Option.some.inj (hfn'.symm.trans hfn)
  obtain ⟨⟨⟨ds, gs, before, hw, -⟩, hx⟩, hz⟩ := hpre
  refine (contract (w.forCall tape i) w.heap.size i.args ds gs before hval (DataW.Whole.of_heap (w' := w.forCall tape i) (by rfl) hw) (hz.weights hw) (hX _ _ _ (by rfl) hx) hsh).mono fun e W' ⟨v, he, hp⟩ => ?_
  subst he
  exact ChangeSpec.post_blind hp
end Go.Pv
end

section
/- Types whose rows belong to a region. -/
namespace Go.Pv
open Go

mutual
def encM (f : List (List AV) → AV) : Ty → List AV
  | .mk n az p => [.str n, f (encMs f az), .int .i64 p]
def encMs (f : List (List AV) → AV) : List Ty → List (List AV)
  | [] => []
  | t :: r => encM f t :: encMs f r
end
theorem encMs_map (f : List (List AV) → AV) (l : List Ty) : encMs f l = l.map (encM f) := by
  induction l with
  | nil => simp [encMs]
  | cons t l ih => simp [encMs, ih]
theorem encM_def (f : List (List AV) → AV) (t : Ty) : encM f t = [.str t.name, f (t.args.map (encM f)), .int .i64 t.pos] := by
  cases t with
  | mk n az p => simp [encM, encMs_map]
theorem mapM {F : AV → AV} {FL : List AV → List AV} {FLL : List (List AV) → List (List AV)} {f g : List (List AV) → AV} (h1 : ∀ s, F (.str s) = .str s) (h2 : ∀ n, F (.int .i64 n) = .int .i64 n) (hL : ∀ l, FL l = l.map F) (hLL : ∀ l, FLL l = l.map FL)
    (hf : ∀ l, F (f l) = g (FLL l)) (t : Ty) : FL (encM f t) = encM g t := by
  induction t using Ty.ind with
  | h n ts p ih =>
    rw [encM_def, encM_def, hL]
    simp only [List.map_cons, List.map_nil, h1, h2, hf, hLL, List.map_map, Ty.name, Ty.args, Ty.pos]
    rw [show ts.map (FL ∘ encM f) = ts.map (encM g) from List.map_congr_left fun t ht => ih t ht]
theorem allM {F : AV → Bool} {FL : List AV → Bool} {FLL : List (List AV) → Bool} {f : List (List AV) → AV} (h1 : ∀ s, F (.str s) = true) (h2 : ∀ n, F (.int .i64 n) = true) (hL : ∀ l, FL l = l.all F) (hLL : ∀ l, FLL l = l.all FL)
    (hf : ∀ l, F (f l) = FLL l) (t : Ty) : FL (encM f t) = true := by
  induction t using Ty.ind with
  | h n ts p ih =>
    rw [encM_def, hL]
    simp only [List.all_cons, List.all_nil, h1, h2, hf, hLL, Ty.name, Ty.args, Ty.pos, Bool.true_and, Bool.and_true, List.all_map, List.all_eq_true]
    exact fun t ht => ih t ht
theorem encTy_M : encTy = encM .slice := funext fun t => by
  induction t using Ty.ind with
  | h n ts p ih =>
    rw [encM_def, encTy_def]
    simp only [Ty.args]
    rw [show ts.map encTy = ts.map (encM .slice) from List.map_congr_left fun t ht => ih t ht]
def encR (e ρ : Nat) : Ty → List AV := encM (AV.fr ρ e 3)
def encZ : Ty → List AV := encM (AV.sr 0)
theorem encR_def (e ρ : Nat) (t : Ty) : encR e ρ t = [.str t.name, .fr ρ e 3 (t.args.map (encR e ρ)), .int .i64 t.pos] := by unfold encR; rw [encM_def]
theorem encR_mk (e ρ : Nat) (n : Str) (az : List Ty) (p : Int) : encR e ρ (.mk n az p) = [.str n, .fr ρ e 3 (az.map (encR e ρ)), .int .i64 p] := by rw [encR_def]; rfl
@[simp] theorem encR_len (e ρ : Nat) (t : Ty) : (encR e ρ t).length = 3 := by rw [encR_def]; rfl
@[simp] theorem encR_one (e ρ : Nat) (t : Ty) : (encR e ρ t).all AV.one = true := by rw [encR_def]; rfl
@[simp] theorem encR_0 (e ρ : Nat) (t : Ty) : (encR e ρ t)[0]? = some (.str t.name) := by rw [encR_def]; rfl
@[simp] theorem encR_1 (e ρ : Nat) (t : Ty) : (encR e ρ t)[1]? = some (.fr ρ e 3 (t.args.map (encR e ρ))) := by rw [encR_def]; rfl
@[simp] theorem encR_2 (e ρ : Nat) (t : Ty) : (encR e ρ t)[2]? = some (.int .i64 t.pos) := by rw [encR_def]; rfl
@[simp] theorem encR_g0 (e ρ : Nat) (t : Ty) (h : 0 < (encR e ρ t).length) : (encR e ρ t)[0] = .str t.name := by have := encR_0 e ρ t; rw [List.getElem?_eq_getElem h] at this; injection this
@[simp] theorem encR_g1 (e ρ : Nat) (t : Ty) (h : 1 < (encR e ρ t).length) : (encR e ρ t)[1] = .fr ρ e 3 (t.args.map (encR e ρ)) := by have := encR_1 e ρ t; rw [List.getElem?_eq_getElem h] at this; injection this
@[simp] theorem encR_g2 (e ρ : Nat) (t : Ty) (h : 2 < (encR e ρ t).length) : (encR e ρ t)[2] = .int .i64 t.pos := by have := encR_2 e ρ t; rw [List.getElem?_eq_getElem h] at this; injection this
@[simp] theorem encR_take (e ρ : Nat) (t : Ty) : (encR e ρ t).take 3 = encR e ρ t := by rw [encR_def]; rfl
@[simp] theorem encR_drop (e ρ : Nat) (t : Ty) : (encR e ρ t).drop 3 = [] := by rw [encR_def]; rfl
@[simp] theorem encR_take2 (e ρ : Nat) (t : Ty) : (encR e ρ t).take 2 = [.str t.name, .fr ρ e 3 (t.args.map (encR e ρ))] := by rw [encR_def]; rfl
@[simp] theorem encR_take1 (e ρ : Nat) (t : Ty) : (encR e ρ t).take 1 = [.str t.name] := by rw [encR_def]; rfl
@[simp] theorem encR_drop2 (e ρ : Nat) (t : Ty) : (encR e ρ t).drop 2 = [.int .i64 t.pos] := by rw [encR_def]; rfl
@[simp] theorem encR_rows (e ρ : Nat) (l : List Ty) : Rows 3 (l.map (encR e ρ)) := Rows_map 3 (encR e ρ) (fun t => ⟨encR_len e ρ t, encR_one e ρ t⟩) l
@[simp] theorem encR_rows_comp {α : Type} (e ρ : Nat) (f : α → Ty) (l : List α) : Rows 3 (l.map (encR e ρ ∘ f)) := Rows_map 3 _ (fun t => ⟨encR_len e ρ (f t), encR_one e ρ (f t)⟩) l
@[simp] theorem encR_rows_take {α : Type} (e ρ : Nat) (f : α → Ty) (l : List α) (k : Nat) : Rows 3 (List.take k (l.map (encR e ρ ∘ f))) := Rows_take (encR_rows_comp e ρ f l) k
@[simp] theorem encR_rows_take0 (e ρ : Nat) (l : List Ty) (k : Nat) : Rows 3 (List.take k (l.map (encR e ρ))) := Rows_take (encR_rows e ρ l) k
@[simp] theorem encR_oo (e ρ : Nat) (r : Nat) (t : Ty) : ((encR e ρ t).all fun x => x.off r || x.one) = true := by rw [encR_def]; simp [AV.one]
theorem encR_plain (e ρ : Nat) (t : Ty) : AV.rgL none (encR e ρ t) = encTy t := by unfold encR; rw [encTy_M]; exact mapM (fun _ => rfl) (fun _ => rfl) (rgL_map _) (rgLL_map _) (fun _ => rfl) t
theorem encZ_def (t : Ty) : encZ t = [.str t.name, .sr 0 (t.args.map (encZ)), .int .i64 t.pos] := by unfold encZ; rw [encM_def]
@[simp] theorem encZ_len (t : Ty) : (encZ t).length = 3 := by rw [encZ_def]; rfl
@[simp] theorem encZ_one (t : Ty) : (encZ t).all AV.one = true := by rw [encZ_def]; rfl
@[simp] theorem encZ_0 (t : Ty) : (encZ t)[0]? = some (.str t.name) := by rw [encZ_def]; rfl
@[simp] theorem encZ_1 (t : Ty) : (encZ t)[1]? = some (.sr 0 (t.args.map (encZ))) := by rw [encZ_def]; rfl
@[simp] theorem encZ_2 (t : Ty) : (encZ t)[2]? = some (.int .i64 t.pos) := by rw [encZ_def]; rfl
@[simp] theorem encZ_g0 (t : Ty) (h : 0 < (encZ t).length) : (encZ t)[0] = .str t.name := by have := encZ_0  t; rw [List.getElem?_eq_getElem h] at this; injection this
@[simp] theorem encZ_g1 (t : Ty) (h : 1 < (encZ t).length) : (encZ t)[1] = .sr 0 (t.args.map (encZ)) := by have := encZ_1  t; rw [List.getElem?_eq_getElem h] at this; injection this
@[simp] theorem encZ_g2 (t : Ty) (h : 2 < (encZ t).length) : (encZ t)[2] = .int .i64 t.pos := by have := encZ_2  t; rw [List.getElem?_eq_getElem h] at this; injection this
@[simp] theorem encZ_take (t : Ty) : (encZ t).take 3 = encZ t := by rw [encZ_def]; rfl
@[simp] theorem encZ_drop (t : Ty) : (encZ t).drop 3 = [] := by rw [encZ_def]; rfl
@[simp] theorem encZ_take2 (t : Ty) : (encZ t).take 2 = [.str t.name, .sr 0 (t.args.map (encZ))] := by rw [encZ_def]; rfl
@[simp] theorem encZ_take1 (t : Ty) : (encZ t).take 1 = [.str t.name] := by rw [encZ_def]; rfl
@[simp] theorem encZ_drop2 (t : Ty) : (encZ t).drop 2 = [.int .i64 t.pos] := by rw [encZ_def]; rfl
@[simp] theorem encZ_rows (l : List Ty) : Rows 3 (l.map (encZ)) := Rows_map 3 (encZ) (fun t => ⟨encZ_len  t, encZ_one  t⟩) l
@[simp] theorem encZ_rows_comp {α : Type} (f : α → Ty) (l : List α) : Rows 3 (l.map (encZ ∘ f)) := Rows_map 3 _ (fun t => ⟨encZ_len  (f t), encZ_one  (f t)⟩) l
@[simp] theorem encZ_rows_take {α : Type} (f : α → Ty) (l : List α) (k : Nat) : Rows 3 (List.take k (l.map (encZ ∘ f))) := Rows_take (encZ_rows_comp  f l) k
@[simp] theorem encZ_rows_take0 (l : List Ty) (k : Nat) : Rows 3 (List.take k (l.map (encZ))) := Rows_take (encZ_rows  l) k
@[simp] theorem encZ_oo (r : Nat) (t : Ty) : ((encZ t).all fun x => x.off r || x.one) = true := by rw [encZ_def]; simp [AV.one]
theorem encR_fresh (e ρ : Nat) (t : Ty) : AV.freshL (encR e ρ t) = true := allM (fun _ => rfl) (fun _ => rfl) freshL_all freshLL_all (fun _ => rfl) t
theorem encTy_plain (t : Ty) : AV.rgL none (encTy t) = encTy t := by rw [encTy_M]; exact mapM (fun _ => rfl) (fun _ => rfl) (rgL_map _) (rgLL_map _) (fun _ => rfl) t
theorem encR_off (e : Nat) {ρ r : Nat} (h : ρ ≠ r) (t : Ty) : AV.offL r (encR e ρ t) = true := allM (fun _ => rfl) (fun _ => rfl) (offL_all r) (offLL_all r) (fun l => by simp [AV.off, h]) t
end Go.Pv
end

section
/- Expressions whose rows belong to a region. -/
namespace Go.Pv
open Go

mutual
def encX (f h : List (List AV) → AV) : Exp → List AV
  | .mk k n t a l p => [.int .i64 k, .str n, .str t.name, f (t.args.map (encM f)), .int .i64 t.pos, f (a.map (encM f)), h (encXs f h l), .int .i64 p]
def encXs (f h : List (List AV) → AV) : List Exp → List (List AV)
  | [] => []
  | e :: r => encX f h e :: encXs f h r
end
theorem encXs_map (f h : List (List AV) → AV) (l : List Exp) : encXs f h l = l.map (encX f h) := by
  induction l with
  | nil => rfl
  | cons t r ih => simp [encXs, ih]
theorem encX_def (f h : List (List AV) → AV) (e : Exp) : encX f h e = [.int .i64 e.kind, .str e.name, .str e.ty.name, f (e.ty.args.map (encM f)), .int .i64 e.ty.pos, f (e.ta.map (encM f)), h (e.kids.map (encX f h)), .int .i64 e.pos] := by
  cases e; rw [encX, encXs_map]; rfl
def encER (te ee ρ : Nat) : Exp → List AV := encX (AV.fr ρ te 3) (AV.fr ρ ee 8)
def encEZ : Exp → List AV := encX (AV.sr 0) (AV.sr 0)
theorem encER_def (te ee ρ : Nat) (e : Exp) : encER te ee ρ e = [.int .i64 e.kind, .str e.name, .str e.ty.name, .fr ρ te 3 (e.ty.args.map (encR te ρ)), .int .i64 e.ty.pos, .fr ρ te 3 (e.ta.map (encR te ρ)), .fr ρ ee 8 (e.kids.map (encER te ee ρ)), .int .i64 e.pos] := by unfold encER encR; rw [encX_def]
@[simp] theorem encER_len (te ee ρ : Nat) (e : Exp) : (encER te ee ρ e).length = 8 := by rw [encER_def]; rfl
@[simp] theorem encER_one (te ee ρ : Nat) (e : Exp) : (encER te ee ρ e).all AV.one = true := by rw [encER_def]; rfl
@[simp] theorem encER_0 (te ee ρ : Nat) (e : Exp) : (encER te ee ρ e)[0]? = some (.int .i64 e.kind) := by rw [encER_def]; rfl
@[simp] theorem encER_g0 (te ee ρ : Nat) (e : Exp) (h : 0 < (encER te ee ρ e).length) : (encER te ee ρ e)[0] = .int .i64 e.kind := by have := encER_0 te ee ρ e; rw [List.getElem?_eq_getElem h] at this; injection this
@[simp] theorem encER_1 (te ee ρ : Nat) (e : Exp) : (encER te ee ρ e)[1]? = some (.str e.name) := by rw [encER_def]; rfl
@[simp] theorem encER_g1 (te ee ρ : Nat) (e : Exp) (h : 1 < (encER te ee ρ e).length) : (encER te ee ρ e)[1] = .str e.name := by have := encER_1 te ee ρ e; rw [List.getElem?_eq_getElem h] at this; injection this
@[simp] theorem encER_2 (te ee ρ : Nat) (e : Exp) : (encER te ee ρ e)[2]? = some (.str e.ty.name) := by rw [encER_def]; rfl
@[simp] theorem encER_g2 (te ee ρ : Nat) (e : Exp) (h : 2 < (encER te ee ρ e).length) : (encER te ee ρ e)[2] = .str e.ty.name := by have := encER_2 te ee ρ e; rw [List.getElem?_eq_getElem h] at this; injection this
@[simp] theorem encER_3 (te ee ρ : Nat) (e : Exp) : (encER te ee ρ e)[3]? = some (.fr ρ te 3 (e.ty.args.map (encR te ρ))) := by rw [encER_def]; rfl
@[simp] theorem encER_g3 (te ee ρ : Nat) (e : Exp) (h : 3 < (encER te ee ρ e).length) : (encER te ee ρ e)[3] = .fr ρ te 3 (e.ty.args.map (encR te ρ)) := by have := encER_3 te ee ρ e; rw [List.getElem?_eq_getElem h] at this; injection this
@[simp] theorem encER_4 (te ee ρ : Nat) (e : Exp) : (encER te ee ρ e)[4]? = some (.int .i64 e.ty.pos) := by rw [encER_def]; rfl
@[simp] theorem encER_g4 (te ee ρ : Nat) (e : Exp) (h : 4 < (encER te ee ρ e).length) : (encER te ee ρ e)[4] = .int .i64 e.ty.pos := by have := encER_4 te ee ρ e; rw [List.getElem?_eq_getElem h] at this; injection this
@[simp] theorem encER_5 (te ee ρ : Nat) (e : Exp) : (encER te ee ρ e)[5]? = some (.fr ρ te 3 (e.ta.map (encR te ρ))) := by rw [encER_def]; rfl
@[simp] theorem encER_g5 (te ee ρ : Nat) (e : Exp) (h : 5 < (encER te ee ρ e).length) : (encER te ee ρ e)[5] = .fr ρ te 3 (e.ta.map (encR te ρ)) := by have := encER_5 te ee ρ e; rw [List.getElem?_eq_getElem h] at this; injection this
@[simp] theorem encER_6 (te ee ρ : Nat) (e : Exp) : (encER te ee ρ e)[6]? = some (.fr ρ ee 8 (e.kids.map (encER te ee ρ))) := by rw [encER_def]; rfl
@[simp] theorem encER_g6 (te ee ρ : Nat) (e : Exp) (h : 6 < (encER te ee ρ e).length) : (encER te ee ρ e)[6] = .fr ρ ee 8 (e.kids.map (encER te ee ρ)) := by have := encER_6 te ee ρ e; rw [List.getElem?_eq_getElem h] at this; injection this
@[simp] theorem encER_7 (te ee ρ : Nat) (e : Exp) : (encER te ee ρ e)[7]? = some (.int .i64 e.pos) := by rw [encER_def]; rfl
@[simp] theorem encER_g7 (te ee ρ : Nat) (e : Exp) (h : 7 < (encER te ee ρ e).length) : (encER te ee ρ e)[7] = .int .i64 e.pos := by have := encER_7 te ee ρ e; rw [List.getElem?_eq_getElem h] at this; injection this
@[simp] theorem encER_take (te ee ρ : Nat) (e : Exp) : (encER te ee ρ e).take 8 = encER te ee ρ e := by rw [encER_def]; rfl
@[simp] theorem encER_drop (te ee ρ : Nat) (e : Exp) : (encER te ee ρ e).drop 8 = [] := by rw [encER_def]; rfl
@[simp] theorem encER_rows (te ee ρ : Nat) (l : List Exp) : Rows 8 (l.map (encER te ee ρ)) := Rows_map 8 (encER te ee ρ) (fun t => ⟨encER_len te ee ρ t, encER_one te ee ρ t⟩) l
@[simp] theorem encER_rows_take0 (te ee ρ : Nat) (l : List Exp) (k : Nat) : Rows 8 (List.take k (l.map (encER te ee ρ))) := Rows_take (encER_rows te ee ρ l) k
@[simp] theorem encER_rows_comp {α : Type} (te ee ρ : Nat) (f : α → Exp) (l : List α) : Rows 8 (l.map (encER te ee ρ ∘ f)) := Rows_map 8 _ (fun t => ⟨encER_len te ee ρ (f t), encER_one te ee ρ (f t)⟩) l
@[simp] theorem encER_rows_take {α : Type} (te ee ρ : Nat) (f : α → Exp) (l : List α) (k : Nat) : Rows 8 (List.take k (l.map (encER te ee ρ ∘ f))) := Rows_take (encER_rows_comp te ee ρ f l) k
@[simp] theorem encER_oo (te ee ρ : Nat) (r : Nat) (e : Exp) : ((encER te ee ρ e).all fun x => x.off r || x.one) = true := by rw [encER_def]; simp [AV.one]
theorem encEZ_def (e : Exp) : encEZ e = [.int .i64 e.kind, .str e.name, .str e.ty.name, .sr 0 (e.ty.args.map (encZ)), .int .i64 e.ty.pos, .sr 0 (e.ta.map (encZ)), .sr 0 (e.kids.map (encEZ)), .int .i64 e.pos] := by unfold encEZ encZ; rw [encX_def]
@[simp] theorem encEZ_len (e : Exp) : (encEZ e).length = 8 := by rw [encEZ_def]; rfl
@[simp] theorem encEZ_one (e : Exp) : (encEZ e).all AV.one = true := by rw [encEZ_def]; rfl
@[simp] theorem encEZ_0 (e : Exp) : (encEZ e)[0]? = some (.int .i64 e.kind) := by rw [encEZ_def]; rfl
@[simp] theorem encEZ_g0 (e : Exp) (h : 0 < (encEZ e).length) : (encEZ e)[0] = .int .i64 e.kind := by have := encEZ_0  e; rw [List.getElem?_eq_getElem h] at this; injection this
@[simp] theorem encEZ_1 (e : Exp) : (encEZ e)[1]? = some (.str e.name) := by rw [encEZ_def]; rfl
@[simp] theorem encEZ_g1 (e : Exp) (h : 1 < (encEZ e).length) : (encEZ e)[1] = .str e.name := by have := encEZ_1  e; rw [List.getElem?_eq_getElem h] at this; injection this
@[simp] theorem encEZ_2 (e : Exp) : (encEZ e)[2]? = some (.str e.ty.name) := by rw [encEZ_def]; rfl
@[simp] theorem encEZ_g2 (e : Exp) (h : 2 < (encEZ e).length) : (encEZ e)[2] = .str e.ty.name := by have := encEZ_2  e; rw [List.getElem?_eq_getElem h] at this; injection this
@[simp] theorem encEZ_3 (e : Exp) : (encEZ e)[3]? = some (.sr 0 (e.ty.args.map (encZ))) := by rw [encEZ_def]; rfl
@[simp] theorem encEZ_g3 (e : Exp) (h : 3 < (encEZ e).length) : (encEZ e)[3] = .sr 0 (e.ty.args.map (encZ)) := by have := encEZ_3  e; rw [List.getElem?_eq_getElem h] at this; injection this
@[simp] theorem encEZ_4 (e : Exp) : (encEZ e)[4]? = some (.int .i64 e.ty.pos) := by rw [encEZ_def]; rfl
@[simp] theorem encEZ_g4 (e : Exp) (h : 4 < (encEZ e).length) : (encEZ e)[4] = .int .i64 e.ty.pos := by have := encEZ_4  e; rw [List.getElem?_eq_getElem h] at this; injection this
@[simp] theorem encEZ_5 (e : Exp) : (encEZ e)[5]? = some (.sr 0 (e.ta.map (encZ))) := by rw [encEZ_def]; rfl
@[simp] theorem encEZ_g5 (e : Exp) (h : 5 < (encEZ e).length) : (encEZ e)[5] = .sr 0 (e.ta.map (encZ)) := by have := encEZ_5  e; rw [List.getElem?_eq_getElem h] at this; injection this
@[simp] theorem encEZ_6 (e : Exp) : (encEZ e)[6]? = some (.sr 0 (e.kids.map (encEZ))) := by rw [encEZ_def]; rfl
@[simp] theorem encEZ_g6 (e : Exp) (h : 6 < (encEZ e).length) : (encEZ e)[6] = .sr 0 (e.kids.map (encEZ)) := by have := encEZ_6  e; rw [List.getElem?_eq_getElem h] at this; injection this
@[simp] theorem encEZ_7 (e : Exp) : (encEZ e)[7]? = some (.int .i64 e.pos) := by rw [encEZ_def]; rfl
@[simp] theorem encEZ_g7 (e : Exp) (h : 7 < (encEZ e).length) : (encEZ e)[7] = .int .i64 e.pos := by have := encEZ_7  e; rw [List.getElem?_eq_getElem h] at this; injection this
@[simp] theorem encEZ_take (e : Exp) : (encEZ e).take 8 = encEZ e := by rw [encEZ_def]; rfl
@[simp] theorem encEZ_drop (e : Exp) : (encEZ e).drop 8 = [] := by rw [encEZ_def]; rfl
@[simp] theorem encEZ_rows (l : List Exp) : Rows 8 (l.map (encEZ)) := Rows_map 8 (encEZ) (fun t => ⟨encEZ_len  t, encEZ_one  t⟩) l
@[simp] theorem encEZ_rows_take0 (l : List Exp) (k : Nat) : Rows 8 (List.take k (l.map (encEZ))) := Rows_take (encEZ_rows  l) k
@[simp] theorem encEZ_rows_comp {α : Type} (f : α → Exp) (l : List α) : Rows 8 (l.map (encEZ ∘ f)) := Rows_map 8 _ (fun t => ⟨encEZ_len  (f t), encEZ_one  (f t)⟩) l
@[simp] theorem encEZ_rows_take {α : Type} (f : α → Exp) (l : List α) (k : Nat) : Rows 8 (List.take k (l.map (encEZ ∘ f))) := Rows_take (encEZ_rows_comp  f l) k
@[simp] theorem encEZ_oo (r : Nat) (e : Exp) : ((encEZ e).all fun x => x.off r || x.one) = true := by rw [encEZ_def]; simp [AV.one]
end Go.Pv
end

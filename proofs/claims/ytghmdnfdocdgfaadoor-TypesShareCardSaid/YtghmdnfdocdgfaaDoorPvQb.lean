/- Types whose rows belong to a region. -/
import Derived.Test.YtghmdnfdocdgfaaDoorPvXc
import Derived.Test.YtghmdnfdocdgfaaDoorPvXc
import Derived.Test.YtghmdnfdocdgfaaDoorPvU
set_option linter.all false
namespace Go.Pv
open Go

mutual
def encM (f : List (List AV) → AV) : Ty → List AV
  | .mk n as p => [.str n, f (encMs f as), .int .i64 p]
def encMs (f : List (List AV) → AV) : List Ty → List (List AV)
  | [] => []
  | t :: r => encM f t :: encMs f r
end
theorem encMs_map (f : List (List AV) → AV) (l : List Ty) : encMs f l = l.map (encM f) := by
  induction l with
  | nil => simp [encMs]
  | cons t l ih => simp [encMs, ih]
theorem encM_def (f : List (List AV) → AV) (t : Ty) : encM f t = [.str t.name, f (t.args.map (encM f)), .int .i64 t.pos] := by
  cases t with
  | mk n as p => simp [encM, encMs_map]
theorem mapM {F : AV → AV} {FL : List AV → List AV} {FLL : List (List AV) → List (List AV)} {f g : List (List AV) → AV} (h1 : ∀ s, F (.str s) = .str s) (h2 : ∀ n, F (.int .i64 n) = .int .i64 n) (hL : ∀ l, FL l = l.map F) (hLL : ∀ l, FLL l = l.map FL)
    (hf : ∀ l, F (f l) = g (FLL l)) (t : Ty) : FL (encM f t) = encM g t := by
  induction t using Ty.ind with
  | h n ts p ih =>
    rw [encM_def, encM_def, hL]
    simp only [List.map_cons, List.map_nil, h1, h2, hf, hLL, List.map_map, Ty.name, Ty.args, Ty.pos]
    rw [show ts.map (FL ∘ encM f) = ts.map (encM g) from List.map_congr_left fun t ht => ih t ht]
theorem allM {F : AV → Bool} {FL : List AV → Bool} {FLL : List (List AV) → Bool} {f : List (List AV) → AV} (h1 : ∀ s, F (.str s) = true) (h2 : ∀ n, F (.int .i64 n) = true) (hL : ∀ l, FL l = l.all F) (hLL : ∀ l, FLL l = l.all FL)
    (hf : ∀ l, F (f l) = FLL l) (t : Ty) : FL (encM f t) = true := by
  induction t using Ty.ind with
  | h n ts p ih =>
    rw [encM_def, hL]
    simp only [List.all_cons, List.all_nil, h1, h2, hf, hLL, Ty.name, Ty.args, Ty.pos, Bool.true_and, Bool.and_true, List.all_map, List.all_eq_true]
    exact fun t ht => ih t ht
theorem encTy_M : encTy = encM .slice := funext fun t => by
  induction t using Ty.ind with
  | h n ts p ih =>
    rw [encM_def, encTy_def]
    simp only [Ty.args]
    rw [show ts.map encTy = ts.map (encM .slice) from List.map_congr_left fun t ht => ih t ht]
def encR (e ρ : Nat) : Ty → List AV := encM (AV.fr ρ e 3)
def encZ : Ty → List AV := encM (AV.sr 0)
theorem encR_def (e ρ : Nat) (t : Ty) : encR e ρ t = [.str t.name, .fr ρ e 3 (t.args.map (encR e ρ)), .int .i64 t.pos] := by unfold encR; rw [encM_def]
theorem encR_mk (e ρ : Nat) (n : Str) (as : List Ty) (p : Int) : encR e ρ (.mk n as p) = [.str n, .fr ρ e 3 (as.map (encR e ρ)), .int .i64 p] := by rw [encR_def]; rfl
@[simp] theorem encR_len (e ρ : Nat) (t : Ty) : (encR e ρ t).length = 3 := by rw [encR_def]; rfl
@[simp] theorem encR_one (e ρ : Nat) (t : Ty) : (encR e ρ t).all AV.one = true := by rw [encR_def]; rfl
@[simp] theorem encR_0 (e ρ : Nat) (t : Ty) : (encR e ρ t)[0]? = some (.str t.name) := by rw [encR_def]; rfl
@[simp] theorem encR_1 (e ρ : Nat) (t : Ty) : (encR e ρ t)[1]? = some (.fr ρ e 3 (t.args.map (encR e ρ))) := by rw [encR_def]; rfl
@[simp] theorem encR_2 (e ρ : Nat) (t : Ty) : (encR e ρ t)[2]? = some (.int .i64 t.pos) := by rw [encR_def]; rfl
@[simp] theorem encR_g0 (e ρ : Nat) (t : Ty) (h : 0 < (encR e ρ t).length) : (encR e ρ t)[0] = .str t.name := by have := encR_0 e ρ t; rw [List.getElem?_eq_getElem h] at this; injection this
@[simp] theorem encR_g1 (e ρ : Nat) (t : Ty) (h : 1 < (encR e ρ t).length) : (encR e ρ t)[1] = .fr ρ e 3 (t.args.map (encR e ρ)) := by have := encR_1 e ρ t; rw [List.getElem?_eq_getElem h] at this; injection this
@[simp] theorem encR_g2 (e ρ : Nat) (t : Ty) (h : 2 < (encR e ρ t).length) : (encR e ρ t)[2] = .int .i64 t.pos := by have := encR_2 e ρ t; rw [List.getElem?_eq_getElem h] at this; injection this
@[simp] theorem encR_take (e ρ : Nat) (t : Ty) : (encR e ρ t).take 3 = encR e ρ t := by rw [encR_def]; rfl
@[simp] theorem encR_drop (e ρ : Nat) (t : Ty) : (encR e ρ t).drop 3 = [] := by rw [encR_def]; rfl
@[simp] theorem encR_take2 (e ρ : Nat) (t : Ty) : (encR e ρ t).take 2 = [.str t.name, .fr ρ e 3 (t.args.map (encR e ρ))] := by rw [encR_def]; rfl
@[simp] theorem encR_take1 (e ρ : Nat) (t : Ty) : (encR e ρ t).take 1 = [.str t.name] := by rw [encR_def]; rfl
@[simp] theorem encR_drop2 (e ρ : Nat) (t : Ty) : (encR e ρ t).drop 2 = [.int .i64 t.pos] := by rw [encR_def]; rfl
@[simp] theorem encR_rows (e ρ : Nat) (l : List Ty) : Rows 3 (l.map (encR e ρ)) := Rows_map 3 (encR e ρ) (fun t => ⟨encR_len e ρ t, encR_one e ρ t⟩) l
@[simp] theorem encR_rows_comp {α : Type} (e ρ : Nat) (f : α → Ty) (l : List α) : Rows 3 (l.map (encR e ρ ∘ f)) := Rows_map 3 _ (fun t => ⟨encR_len e ρ (f t), encR_one e ρ (f t)⟩) l
@[simp] theorem encR_rows_take {α : Type} (e ρ : Nat) (f : α → Ty) (l : List α) (k : Nat) : Rows 3 (List.take k (l.map (encR e ρ ∘ f))) := Rows_take (encR_rows_comp e ρ f l) k
@[simp] theorem encR_rows_take0 (e ρ : Nat) (l : List Ty) (k : Nat) : Rows 3 (List.take k (l.map (encR e ρ))) := Rows_take (encR_rows e ρ l) k
@[simp] theorem encR_oo (e ρ : Nat) (r : Nat) (t : Ty) : ((encR e ρ t).all fun x => x.off r || x.one) = true := by rw [encR_def]; simp [AV.one]
theorem encR_plain (e ρ : Nat) (t : Ty) : AV.rgL none (encR e ρ t) = encTy t := by unfold encR; rw [encTy_M]; exact mapM (fun _ => rfl) (fun _ => rfl) (rgL_map _) (rgLL_map _) (fun _ => rfl) t
theorem encZ_def (t : Ty) : encZ t = [.str t.name, .sr 0 (t.args.map (encZ)), .int .i64 t.pos] := by unfold encZ; rw [encM_def]
@[simp] theorem encZ_len (t : Ty) : (encZ t).length = 3 := by rw [encZ_def]; rfl
@[simp] theorem encZ_one (t : Ty) : (encZ t).all AV.one = true := by rw [encZ_def]; rfl
@[simp] theorem encZ_0 (t : Ty) : (encZ t)[0]? = some (.str t.name) := by rw [encZ_def]; rfl
@[simp] theorem encZ_1 (t : Ty) : (encZ t)[1]? = some (.sr 0 (t.args.map (encZ))) := by rw [encZ_def]; rfl
@[simp] theorem encZ_2 (t : Ty) : (encZ t)[2]? = some (.int .i64 t.pos) := by rw [encZ_def]; rfl
@[simp] theorem encZ_g0 (t : Ty) (h : 0 < (encZ t).length) : (encZ t)[0] = .str t.name := by have := encZ_0  t; rw [List.getElem?_eq_getElem h] at this; injection this
@[simp] theorem encZ_g1 (t : Ty) (h : 1 < (encZ t).length) : (encZ t)[1] = .sr 0 (t.args.map (encZ)) := by have := encZ_1  t; rw [List.getElem?_eq_getElem h] at this; injection this
@[simp] theorem encZ_g2 (t : Ty) (h : 2 < (encZ t).length) : (encZ t)[2] = .int .i64 t.pos := by have := encZ_2  t; rw [List.getElem?_eq_getElem h] at this; injection this
@[simp] theorem encZ_take (t : Ty) : (encZ t).take 3 = encZ t := by rw [encZ_def]; rfl
@[simp] theorem encZ_drop (t : Ty) : (encZ t).drop 3 = [] := by rw [encZ_def]; rfl
@[simp] theorem encZ_take2 (t : Ty) : (encZ t).take 2 = [.str t.name, .sr 0 (t.args.map (encZ))] := by rw [encZ_def]; rfl
@[simp] theorem encZ_take1 (t : Ty) : (encZ t).take 1 = [.str t.name] := by rw [encZ_def]; rfl
@[simp] theorem encZ_drop2 (t : Ty) : (encZ t).drop 2 = [.int .i64 t.pos] := by rw [encZ_def]; rfl
@[simp] theorem encZ_rows (l : List Ty) : Rows 3 (l.map (encZ)) := Rows_map 3 (encZ) (fun t => ⟨encZ_len  t, encZ_one  t⟩) l
@[simp] theorem encZ_rows_comp {α : Type} (f : α → Ty) (l : List α) : Rows 3 (l.map (encZ ∘ f)) := Rows_map 3 _ (fun t => ⟨encZ_len  (f t), encZ_one  (f t)⟩) l
@[simp] theorem encZ_rows_take {α : Type} (f : α → Ty) (l : List α) (k : Nat) : Rows 3 (List.take k (l.map (encZ ∘ f))) := Rows_take (encZ_rows_comp  f l) k
@[simp] theorem encZ_rows_take0 (l : List Ty) (k : Nat) : Rows 3 (List.take k (l.map (encZ))) := Rows_take (encZ_rows  l) k
@[simp] theorem encZ_oo (r : Nat) (t : Ty) : ((encZ t).all fun x => x.off r || x.one) = true := by rw [encZ_def]; simp [AV.one]
theorem encZ_plain (t : Ty) : AV.rgL none (encZ t) = encTy t := by unfold encZ; rw [encTy_M]; exact mapM (fun _ => rfl) (fun _ => rfl) (rgL_map _) (rgLL_map _) (fun _ => rfl) t
theorem encR_rg (e ρ r : Nat) (t : Ty) : AV.rgL (some r) (encR e ρ t) = encR e r t := mapM (fun _ => rfl) (fun _ => rfl) (rgL_map _) (rgLL_map _) (fun _ => rfl) t
theorem encR_fresh (e ρ : Nat) (t : Ty) : AV.freshL (encR e ρ t) = true := allM (fun _ => rfl) (fun _ => rfl) freshL_all freshLL_all (fun _ => rfl) t
theorem encTy_plain (t : Ty) : AV.rgL none (encTy t) = encTy t := by rw [encTy_M]; exact mapM (fun _ => rfl) (fun _ => rfl) (rgL_map _) (rgLL_map _) (fun _ => rfl) t
theorem encTy_s0 (t : Ty) : AV.s0L (encTy t) = encZ t := by rw [encTy_M]; exact mapM (fun _ => rfl) (fun _ => rfl) s0L_map s0LL_map (fun _ => rfl) t
theorem encR_off (e : Nat) {ρ r : Nat} (h : ρ ≠ r) (t : Ty) : AV.offL r (encR e ρ t) = true := allM (fun _ => rfl) (fun _ => rfl) (offL_all r) (offLL_all r) (fun l => by simp [AV.off, h]) t
theorem encZ_off {r : Nat} (h : 0 ≠ r) (t : Ty) : AV.offL r (encZ t) = true := allM (fun _ => rfl) (fun _ => rfl) (offL_all r) (offLL_all r) (fun l => by simp [AV.off, h]) t
theorem kill_off {r : Nat} {l : List AV} (h : AV.offL r l = true) : l.map (AV.kill r) = l := by
  rw [offL_all, List.all_eq_true] at h
  refine (List.map_congr_left fun x hx => ?_).trans (List.map_id l)
  simp [AV.kill, h x hx]
theorem encR_kill (e : Nat) {ρ r : Nat} (h : ρ ≠ r) (t : Ty) : (encR e ρ t).map (AV.kill r) = encR e ρ t := kill_off (encR_off e h t)
theorem encZ_kill {r : Nat} (h : 0 ≠ r) (t : Ty) : (encZ t).map (AV.kill r) = encZ t := kill_off (encZ_off h t)
theorem Valid.newR {P : Program} {gl gl' : Gl} {f : FuncId} {args args' : List AV} {e : Nat} {t : Ty} (hp : GlPlain gl') (hg : gl'.g = gl.g) (r : Nat) (h : Valid P gl f args (.agg (encR e 0 t))) (ha : AV.rgL none args' = args) : Valid P gl' f args' (.agg (encR e r t)) := by
  have h2 := Valid.region (args := args') hp r (r := .agg (encR e 0 t)) (by show AV.freshL _ = true; exact encR_fresh e 0 t) (by rw [ha]; exact h.gl hg)
  rwa [show AV.rg (some r) (.agg (encR e 0 t)) = .agg (encR e r t) by show AV.agg (AV.rgL _ _) = _; rw [encR_rg]] at h2
theorem Valid.atM {P : Program} {gl gl' : Gl} {f : FuncId} {args args' : List AV} {x : AV} (hg : gl'.g = gl.g) (h : Valid P gl f args x) (ha : AV.rgL none args' = args) : Valid P gl' f args' x := Valid.plainA (by rw [ha]; exact h.gl hg)
end Go.Pv

import Derived.Test.YtdifpfehijnmiaaGreatDoorPvMf
import Derived.Test.YtdifpfehijnmiaaGreatDoorPvOf
import Derived.Test.YtdifpfehijnmiaaGreatDoorPvXb
import Derived.Test.YtdifpfehijnmiaaGreatDoorPvOc
import Derived.ControlIn
set_option linter.all false
section
/- Declarations and programs whose rows belong to a region. -/
namespace Go.Pv
open Go

def encFX (f : Nat → List (List AV) → AV) (a : Fm) : List AV := [.str a.name, .str a.ty.name, f 0 (a.ty.args.map (encM (f 0))), .int .i64 a.ty.pos, .int .i64 a.pos]
def encGX (f : Nat → List (List AV) → AV) (s : Sg) : List AV := [.str s.name, f 2 (s.fms.map (encFX f)), f 3 (s.pms.map (encFX f)), .str s.res.name, f 0 (s.res.args.map (encM (f 0))), .int .i64 s.res.pos, .int .i64 s.pos]
def encDX (f : Nat → List (List AV) → AV) (d : Dc) : List AV := [.int .i64 d.kind, .str d.name, f 2 (d.fms.map (encFX f)), f 3 (d.flds.map (encFX f)), f 4 (d.sigs.map (encGX f)), .str d.recv, f 5 (d.vars.map encS),
  .str d.sig.name, f 2 (d.sig.fms.map (encFX f)), f 3 (d.sig.pms.map (encFX f)), .str d.sig.res.name, f 0 (d.sig.res.args.map (encM (f 0))), .int .i64 d.sig.res.pos, .int .i64 d.sig.pos,
  .int .i64 d.body.kind, .str d.body.name, .str d.body.ty.name, f 0 (d.body.ty.args.map (encM (f 0))), .int .i64 d.body.ty.pos, f 0 (d.body.ta.map (encM (f 0))), f 1 (d.body.kids.map (encX (f 0) (f 1))), .int .i64 d.body.pos, .int .i64 d.pos]
def encPX (f : Nat → List (List AV) → AV) (p : Pg) : List AV := [f 6 (p.decls.map (encDX f)), .int .i64 p.main.kind, .str p.main.name, .str p.main.ty.name, f 0 (p.main.ty.args.map (encM (f 0))), .int .i64 p.main.ty.pos, f 0 (p.main.ta.map (encM (f 0))), f 1 (p.main.kids.map (encX (f 0) (f 1))), .int .i64 p.main.pos]
section
variable {F : AV → AV} {FL : List AV → List AV} {FLL : List (List AV) → List (List AV)} {f g : Nat → List (List AV) → AV}
theorem mapTs (h1 : ∀ s, F (.str s) = .str s) (h2 : ∀ n, F (.int .i64 n) = .int .i64 n) (hL : ∀ l, FL l = l.map F) (hLL : ∀ l, FLL l = l.map FL) (hf : ∀ i l, F (f i l) = g i (FLL l)) (l : List Ty) : l.map (FL ∘ encM (f 0)) = l.map (encM (g 0)) := List.map_congr_left fun t _ => mapM h1 h2 hL hLL (hf 0) t
theorem mapXs (h1 : ∀ s, F (.str s) = .str s) (h2 : ∀ n, F (.int .i64 n) = .int .i64 n) (hL : ∀ l, FL l = l.map F) (hLL : ∀ l, FLL l = l.map FL) (hf : ∀ i l, F (f i l) = g i (FLL l)) (l : List Exp) : l.map (FL ∘ encX (f 0) (f 1)) = l.map (encX (g 0) (g 1)) := List.map_congr_left fun t _ => mapX h1 h2 hL hLL (hf 0) (hf 1) t
theorem mapF (h1 : ∀ s, F (.str s) = .str s) (h2 : ∀ n, F (.int .i64 n) = .int .i64 n) (hL : ∀ l, FL l = l.map F) (hLL : ∀ l, FLL l = l.map FL) (hf : ∀ i l, F (f i l) = g i (FLL l)) (a : Fm) : FL (encFX f a) = encFX g a := by
  unfold encFX
  rw [hL]
  simp only [List.map_cons, List.map_nil, h1, h2, hf, hLL, List.map_map, mapTs h1 h2 hL hLL hf]
theorem mapFs (h1 : ∀ s, F (.str s) = .str s) (h2 : ∀ n, F (.int .i64 n) = .int .i64 n) (hL : ∀ l, FL l = l.map F) (hLL : ∀ l, FLL l = l.map FL) (hf : ∀ i l, F (f i l) = g i (FLL l)) (l : List Fm) : l.map (FL ∘ encFX f) = l.map (encFX g) := List.map_congr_left fun t _ => mapF h1 h2 hL hLL hf t
theorem mapG (h1 : ∀ s, F (.str s) = .str s) (h2 : ∀ n, F (.int .i64 n) = .int .i64 n) (hL : ∀ l, FL l = l.map F) (hLL : ∀ l, FLL l = l.map FL) (hf : ∀ i l, F (f i l) = g i (FLL l)) (a : Sg) : FL (encGX f a) = encGX g a := by
  unfold encGX
  rw [hL]
  simp only [List.map_cons, List.map_nil, h1, h2, hf, hLL, List.map_map, mapTs h1 h2 hL hLL hf, mapFs h1 h2 hL hLL hf]
theorem mapGs (h1 : ∀ s, F (.str s) = .str s) (h2 : ∀ n, F (.int .i64 n) = .int .i64 n) (hL : ∀ l, FL l = l.map F) (hLL : ∀ l, FLL l = l.map FL) (hf : ∀ i l, F (f i l) = g i (FLL l)) (l : List Sg) : l.map (FL ∘ encGX f) = l.map (encGX g) := List.map_congr_left fun t _ => mapG h1 h2 hL hLL hf t
theorem mapSs (h1 : ∀ s, F (.str s) = .str s) (hL : ∀ l, FL l = l.map F) (l : List Str) : l.map (FL ∘ encS) = l.map encS := List.map_congr_left fun s _ => by show FL [.str s] = [.str s]; rw [hL]; simp only [List.map_cons, List.map_nil, h1]
theorem mapD (h1 : ∀ s, F (.str s) = .str s) (h2 : ∀ n, F (.int .i64 n) = .int .i64 n) (hL : ∀ l, FL l = l.map F) (hLL : ∀ l, FLL l = l.map FL) (hf : ∀ i l, F (f i l) = g i (FLL l)) (a : Dc) : FL (encDX f a) = encDX g a := by
  unfold encDX
  rw [hL]
  simp only [List.map_cons, List.map_nil, h1, h2, hf, hLL, List.map_map, mapTs h1 h2 hL hLL hf, mapFs h1 h2 hL hLL hf, mapGs h1 h2 hL hLL hf, mapXs h1 h2 hL hLL hf, mapSs h1 hL]
theorem mapDs (h1 : ∀ s, F (.str s) = .str s) (h2 : ∀ n, F (.int .i64 n) = .int .i64 n) (hL : ∀ l, FL l = l.map F) (hLL : ∀ l, FLL l = l.map FL) (hf : ∀ i l, F (f i l) = g i (FLL l)) (l : List Dc) : l.map (FL ∘ encDX f) = l.map (encDX g) := List.map_congr_left fun t _ => mapD h1 h2 hL hLL hf t
theorem mapP (h1 : ∀ s, F (.str s) = .str s) (h2 : ∀ n, F (.int .i64 n) = .int .i64 n) (hL : ∀ l, FL l = l.map F) (hLL : ∀ l, FLL l = l.map FL) (hf : ∀ i l, F (f i l) = g i (FLL l)) (a : Pg) : FL (encPX f a) = encPX g a := by
  unfold encPX
  rw [hL]
  simp only [List.map_cons, List.map_nil, h1, h2, hf, hLL, List.map_map, mapTs h1 h2 hL hLL hf, mapXs h1 h2 hL hLL hf, mapDs h1 h2 hL hLL hf]
end
section
variable {F : AV → Bool} {FL : List AV → Bool} {FLL : List (List AV) → Bool} {f : Nat → List (List AV) → AV}
theorem allTs (h1 : ∀ s, F (.str s) = true) (h2 : ∀ n, F (.int .i64 n) = true) (hL : ∀ l, FL l = l.all F) (hLL : ∀ l, FLL l = l.all FL) (hf : ∀ i l, F (f i l) = FLL l) (l : List Ty) : l.all (FL ∘ encM (f 0)) = true := List.all_eq_true.2 fun t _ => allM h1 h2 hL hLL (hf 0) t
theorem allXs (h1 : ∀ s, F (.str s) = true) (h2 : ∀ n, F (.int .i64 n) = true) (hL : ∀ l, FL l = l.all F) (hLL : ∀ l, FLL l = l.all FL) (hf : ∀ i l, F (f i l) = FLL l) (l : List Exp) : l.all (FL ∘ encX (f 0) (f 1)) = true := List.all_eq_true.2 fun t _ => allX h1 h2 hL hLL (hf 0) (hf 1) t
theorem allF (h1 : ∀ s, F (.str s) = true) (h2 : ∀ n, F (.int .i64 n) = true) (hL : ∀ l, FL l = l.all F) (hLL : ∀ l, FLL l = l.all FL) (hf : ∀ i l, F (f i l) = FLL l) (a : Fm) : FL (encFX f a) = true := by
  unfold encFX
  rw [hL]
  simp only [List.all_cons, List.all_nil, h1, h2, hf, hLL, List.all_map, allTs h1 h2 hL hLL hf, Bool.and_true]
theorem allFs (h1 : ∀ s, F (.str s) = true) (h2 : ∀ n, F (.int .i64 n) = true) (hL : ∀ l, FL l = l.all F) (hLL : ∀ l, FLL l = l.all FL) (hf : ∀ i l, F (f i l) = FLL l) (l : List Fm) : l.all (FL ∘ encFX f) = true := List.all_eq_true.2 fun t _ => allF h1 h2 hL hLL hf t
theorem allG (h1 : ∀ s, F (.str s) = true) (h2 : ∀ n, F (.int .i64 n) = true) (hL : ∀ l, FL l = l.all F) (hLL : ∀ l, FLL l = l.all FL) (hf : ∀ i l, F (f i l) = FLL l) (a : Sg) : FL (encGX f a) = true := by
  unfold encGX
  rw [hL]
  simp only [List.all_cons, List.all_nil, h1, h2, hf, hLL, List.all_map, allTs h1 h2 hL hLL hf, allFs h1 h2 hL hLL hf, Bool.and_true]
theorem allGs (h1 : ∀ s, F (.str s) = true) (h2 : ∀ n, F (.int .i64 n) = true) (hL : ∀ l, FL l = l.all F) (hLL : ∀ l, FLL l = l.all FL) (hf : ∀ i l, F (f i l) = FLL l) (l : List Sg) : l.all (FL ∘ encGX f) = true := List.all_eq_true.2 fun t _ => allG h1 h2 hL hLL hf t
theorem allSs (h1 : ∀ s, F (.str s) = true) (hL : ∀ l, FL l = l.all F) (l : List Str) : l.all (FL ∘ encS) = true := List.all_eq_true.2 fun s _ => by show FL [.str s] = true; rw [hL]; simp only [List.all_cons, List.all_nil, h1, Bool.and_true]
theorem allD (h1 : ∀ s, F (.str s) = true) (h2 : ∀ n, F (.int .i64 n) = true) (hL : ∀ l, FL l = l.all F) (hLL : ∀ l, FLL l = l.all FL) (hf : ∀ i l, F (f i l) = FLL l) (a : Dc) : FL (encDX f a) = true := by
  unfold encDX
  rw [hL]
  simp only [List.all_cons, List.all_nil, h1, h2, hf, hLL, List.all_map, allTs h1 h2 hL hLL hf, allFs h1 h2 hL hLL hf, allGs h1 h2 hL hLL hf, allXs h1 h2 hL hLL hf, allSs h1 hL, Bool.and_true]
theorem allDs (h1 : ∀ s, F (.str s) = true) (h2 : ∀ n, F (.int .i64 n) = true) (hL : ∀ l, FL l = l.all F) (hLL : ∀ l, FLL l = l.all FL) (hf : ∀ i l, F (f i l) = FLL l) (l : List Dc) : l.all (FL ∘ encDX f) = true := List.all_eq_true.2 fun t _ => allD h1 h2 hL hLL hf t
theorem allP (h1 : ∀ s, F (.str s) = true) (h2 : ∀ n, F (.int .i64 n) = true) (hL : ∀ l, FL l = l.all F) (hLL : ∀ l, FLL l = l.all FL) (hf : ∀ i l, F (f i l) = FLL l) (a : Pg) : FL (encPX f a) = true := by
  unfold encPX
  rw [hL]
  simp only [List.all_cons, List.all_nil, h1, h2, hf, hLL, List.all_map, allTs h1 h2 hL hLL hf, allXs h1 h2 hL hLL hf, allDs h1 h2 hL hLL hf, Bool.and_true]
end
theorem encF_X : encF = encFX fun _ => .slice := by
  funext a; unfold encF encFX; rw [encTy_M]
theorem encG_X : encG = encGX fun _ => .slice := by
  funext a; unfold encG encGX; rw [encTy_M, encF_X]
theorem encD_X : encD = encDX fun _ => .slice := by
  funext a; unfold encD encDX; rw [encE_X, encTy_M, encF_X, encG_X]
theorem encPg_X : encPg = encPX fun _ => .slice := by
  funext a; unfold encPg encPX; rw [encE_X, encTy_M, encD_X]

def szM : Nat → Nat | 0 => 3 | 1 => 8 | 2 => 5 | 3 => 5 | 4 => 7 | 5 => 1 | _ => 23
def fR (ty : Nat → Nat) (ρ i : Nat) : List (List AV) → AV := AV.fr ρ (ty i) (szM i)
def encFR (ty : Nat → Nat) (ρ : Nat) (a : Fm) : List AV := [.str a.name, .str a.ty.name, .fr ρ (ty 0) 3 (a.ty.args.map (encR (ty 0) ρ)), .int .i64 a.ty.pos, .int .i64 a.pos]
def encGR (ty : Nat → Nat) (ρ : Nat) (s : Sg) : List AV := [.str s.name, .fr ρ (ty 2) 5 (s.fms.map (encFR ty ρ)), .fr ρ (ty 3) 5 (s.pms.map (encFR ty ρ)), .str s.res.name, .fr ρ (ty 0) 3 (s.res.args.map (encR (ty 0) ρ)), .int .i64 s.res.pos, .int .i64 s.pos]
def encDR (ty : Nat → Nat) (ρ : Nat) (d : Dc) : List AV := [.int .i64 d.kind, .str d.name, .fr ρ (ty 2) 5 (d.fms.map (encFR ty ρ)), .fr ρ (ty 3) 5 (d.flds.map (encFR ty ρ)), .fr ρ (ty 4) 7 (d.sigs.map (encGR ty ρ)), .str d.recv, .fr ρ (ty 5) 1 (d.vars.map encS),
  .str d.sig.name, .fr ρ (ty 2) 5 (d.sig.fms.map (encFR ty ρ)), .fr ρ (ty 3) 5 (d.sig.pms.map (encFR ty ρ)), .str d.sig.res.name, .fr ρ (ty 0) 3 (d.sig.res.args.map (encR (ty 0) ρ)), .int .i64 d.sig.res.pos, .int .i64 d.sig.pos,
  .int .i64 d.body.kind, .str d.body.name, .str d.body.ty.name, .fr ρ (ty 0) 3 (d.body.ty.args.map (encR (ty 0) ρ)), .int .i64 d.body.ty.pos, .fr ρ (ty 0) 3 (d.body.ta.map (encR (ty 0) ρ)), .fr ρ (ty 1) 8 (d.body.kids.map (encER (ty 0) (ty 1) ρ)), .int .i64 d.body.pos, .int .i64 d.pos]
def encPR (ty : Nat → Nat) (ρ : Nat) (p : Pg) : List AV := [.fr ρ (ty 6) 23 (p.decls.map (encDR ty ρ)), .int .i64 p.main.kind, .str p.main.name, .str p.main.ty.name, .fr ρ (ty 0) 3 (p.main.ty.args.map (encR (ty 0) ρ)), .int .i64 p.main.ty.pos, .fr ρ (ty 0) 3 (p.main.ta.map (encR (ty 0) ρ)), .fr ρ (ty 1) 8 (p.main.kids.map (encER (ty 0) (ty 1) ρ)), .int .i64 p.main.pos]
theorem encPR_X (ty : Nat → Nat) (ρ : Nat) : encPR ty ρ = encPX (fR ty ρ) := rfl
section
variable (ty : Nat → Nat) (ρ : Nat)
@[simp] theorem encFR_len (f : Fm) : (encFR ty ρ f).length = 5 := rfl
@[simp] theorem encFR_one (f : Fm) : (encFR ty ρ f).all AV.one = true := rfl
@[simp] theorem encGR_len (f : Sg) : (encGR ty ρ f).length = 7 := rfl
@[simp] theorem encGR_one (f : Sg) : (encGR ty ρ f).all AV.one = true := rfl
@[simp] theorem encDR_len (f : Dc) : (encDR ty ρ f).length = 23 := rfl
@[simp] theorem encDR_one (f : Dc) : (encDR ty ρ f).all AV.one = true := rfl
@[simp] theorem encPR_len (f : Pg) : (encPR ty ρ f).length = 9 := rfl
@[simp] theorem encPR_one (f : Pg) : (encPR ty ρ f).all AV.one = true := rfl
@[simp] theorem encFR_rows (l : List Fm) : Rows 5 (l.map (encFR ty ρ)) := Rows_map 5 _ (fun _ => ⟨rfl, rfl⟩) l
@[simp] theorem encGR_rows (l : List Sg) : Rows 7 (l.map (encGR ty ρ)) := Rows_map 7 _ (fun _ => ⟨rfl, rfl⟩) l
@[simp] theorem encDR_rows (l : List Dc) : Rows 23 (l.map (encDR ty ρ)) := Rows_map 23 _ (fun _ => ⟨rfl, rfl⟩) l
@[simp] theorem encFR_take (f : Fm) : (encFR ty ρ f).take 5 = encFR ty ρ f := rfl
@[simp] theorem encFR_drop (f : Fm) : (encFR ty ρ f).drop 5 = [] := rfl
@[simp] theorem encGR_take (f : Sg) : (encGR ty ρ f).take 7 = encGR ty ρ f := rfl
@[simp] theorem encGR_drop (f : Sg) : (encGR ty ρ f).drop 7 = [] := rfl
@[simp] theorem encDR_take (f : Dc) : (encDR ty ρ f).take 23 = encDR ty ρ f := rfl
@[simp] theorem encDR_drop (f : Dc) : (encDR ty ρ f).drop 23 = [] := rfl
@[simp] theorem encPR_take (f : Pg) : (encPR ty ρ f).take 9 = encPR ty ρ f := rfl
@[simp] theorem encPR_drop (f : Pg) : (encPR ty ρ f).drop 9 = [] := rfl
end
def encPZ : Pg → List AV := encPX fun _ => .sr 0
@[simp] theorem encPZ_len (f : Pg) : (encPZ f).length = 9 := rfl
@[simp] theorem encPZ_one (f : Pg) : (encPZ f).all AV.one = true := rfl
@[simp] theorem encPZ_take (f : Pg) : (encPZ f).take 9 = encPZ f := rfl
@[simp] theorem encPZ_drop (f : Pg) : (encPZ f).drop 9 = [] := rfl
theorem encPg_s0 (p : Pg) : AV.s0L (encPg p) = encPZ p := by rw [encPg_X]; exact mapP (fun _ => rfl) (fun _ => rfl) s0L_map s0LL_map (fun _ _ => rfl) p
theorem encPZ_plain (p : Pg) : AV.rgL none (encPZ p) = encPg p := by rw [encPg_X]; exact mapP (f := fun _ => .sr 0) (fun _ => rfl) (fun _ => rfl) (rgL_map _) (rgLL_map _) (fun _ _ => rfl) p
theorem encPR_plain (ty : Nat → Nat) (ρ : Nat) (p : Pg) : AV.rgL none (encPR ty ρ p) = encPg p := by rw [encPg_X, encPR_X]; exact mapP (f := fR ty ρ) (fun _ => rfl) (fun _ => rfl) (rgL_map _) (rgLL_map _) (fun _ _ => rfl) p
theorem encPg_plain (p : Pg) : AV.rgL none (encPg p) = encPg p := by rw [encPg_X]; exact mapP (f := fun _ => .slice) (fun _ => rfl) (fun _ => rfl) (rgL_map _) (rgLL_map _) (fun _ _ => rfl) p
theorem encPR_rg (ty : Nat → Nat) (ρ r : Nat) (p : Pg) : AV.rgL (some r) (encPR ty ρ p) = encPR ty r p := by rw [encPR_X, encPR_X]; exact mapP (f := fR ty ρ) (fun _ => rfl) (fun _ => rfl) (rgL_map _) (rgLL_map _) (fun _ _ => rfl) p
theorem encPR_fresh (ty : Nat → Nat) (ρ : Nat) (p : Pg) : AV.freshL (encPR ty ρ p) = true := by rw [encPR_X]; exact allP (f := fR ty ρ) (fun _ => rfl) (fun _ => rfl) freshL_all freshLL_all (fun _ _ => rfl) p
theorem encPR_off (ty : Nat → Nat) {ρ r : Nat} (h : ρ ≠ r) (p : Pg) : AV.offL r (encPR ty ρ p) = true := by rw [encPR_X]; exact allP (f := fR ty ρ) (fun _ => rfl) (fun _ => rfl) (offL_all r) (offLL_all r) (fun _ l => by simp [fR, AV.off, h]) p
theorem encPZ_off {r : Nat} (h : 0 ≠ r) (p : Pg) : AV.offL r (encPZ p) = true := allP (f := fun _ => .sr 0) (fun _ => rfl) (fun _ => rfl) (offL_all r) (offLL_all r) (fun _ l => by simp [AV.off, h]) p
theorem encPR_kill (ty : Nat → Nat) {ρ r : Nat} (h : ρ ≠ r) (p : Pg) : (encPR ty ρ p).map (AV.kill r) = encPR ty ρ p := kill_off (encPR_off ty h p)
theorem encPZ_kill {r : Nat} (h : 0 ≠ r) (p : Pg) : (encPZ p).map (AV.kill r) = encPZ p := kill_off (encPZ_off h p)
theorem all_oo {l : List AV} (h : l.all AV.one = true) (r : Nat) : (l.all fun x => x.off r || x.one) = true := by
  rw [List.all_eq_true] at h ⊢
  exact fun x hx => by rw [h x hx, Bool.or_true]
@[simp] theorem encPR_oo (ty : Nat → Nat) (ρ r : Nat) (p : Pg) : ((encPR ty ρ p).all fun x => x.off r || x.one) = true := all_oo (encPR_one ty ρ p) r
@[simp] theorem encPZ_oo (r : Nat) (p : Pg) : ((encPZ p).all fun x => x.off r || x.one) = true := all_oo (encPZ_one p) r
theorem Valid.newP {P : Program} {gl gl' : Gl} {f : FuncId} {args args' : List AV} {ty : Nat → Nat} {p : Pg} (hp : GlPlain gl') (hg : gl'.g = gl.g) (r : Nat) (h : Valid P gl f args (.agg (encPR ty 0 p))) (ha : AV.rgL none args' = args) : Valid P gl' f args' (.agg (encPR ty r p)) := by
  have h2 := Valid.region (args := args') hp r (r := .agg (encPR ty 0 p)) (by show AV.freshL _ = true; exact encPR_fresh ty 0 p) (by rw [ha]; exact h.gl hg)
  rwa [show AV.rg (some r) (.agg (encPR ty 0 p)) = .agg (encPR ty r p) by show AV.agg (AV.rgL _ _) = _; rw [encPR_rg]] at h2
end Go.Pv
end

section
/- A piece of code walked by the kit's own lemmas on real memory, within a walk over abstract states. -/
namespace Go.Pv
open Go
theorem AT_hand {P : Program} {gl : Gl} {c : Code} {σ : AS} {Q : Exit → AS → Prop} (hr : gl.rnd = false)
    (h : ∀ (cx : Cx) (gh : Gh) (a : Act) (w : World), cx.P = P → cx.gl = gl → RR cx gh σ a w → c.wp P (fun e a' w' => ∃ σ', Q e σ' ∧ R cx σ' a' w') a w) : AT P gl c σ Q := by
  intro cx ro n a w hP hg hro r
  obtain rfl := hro hr
  obtain ⟨gh, r⟩ := r
  exact wpIn_wide.2 (h cx gh a w hP hg r)
theorem RR.act {cx : Cx} {gh : Gh} {σ : AS} {a a' : Act} {w : World} (r : RR cx gh σ a w) (hs : a'.tmps.size = a.tmps.size) (hd : a'.defers = a.defers) (hfx : σ.fx = [])
    (ht : ∀ t, (look t σ.tm).isSome = true → a'.tmps.getD t undef = a.tmps.getD t undef) : RR cx gh σ a' w := by
  have hti : ∀ {t : Nat} {x : TV}, look t σ.tm = some x → a'.tmps.getD t undef = a.tmps.getD t undef := fun h => ht _ (by rw [h]; rfl)
  exact { r with
    size := hs.trans r.size
    ex := { r.ex with
      defers := by rw [hd]; exact r.ex.defers
      its := ⟨fun t k h => by rw [hti h]; exact r.ex.its.at_ t k h, fun t t' k k' h h' he => by rw [hti h, hti h'] at he; exact r.ex.its.inj t t' k k' h h' he⟩
      fx := fun t v h => by have := (r.ex.fx t v h).1; rw [hfx] at this; cases this }
    tmps := fun t x h => by rw [hti h]; exact r.tmps t x h }
theorem RR.changed {cx : Cx} {gh : Gh} {σ : AS} {a a' : Act} {w w' : World} (r : RR cx gh σ a w) (htop : cx.gl.top = true) (hy : cx.gl.y = none) (ρ b0 k : Nat) {c0 : List AV} (hb0 : look b0 σ.sh = some c0) (hρ : ρ ≠ 0) (hok : σ.killOk ρ = true) (hmk : σ.mks = 0) (hfx : σ.fx = [])
    (hm : Altd gh.lim ρ b0 k w.heap w'.heap) (hf : w'.os = w.os ∧ w'.tape = w.tape ∧ w'.output = w.output ∧ w.heap.size ≤ w'.heap.size) (hs : a'.tmps.size = a.tmps.size) (hd : a'.defers = a.defers)
    (ht : ∀ t, (look t (σ.kill ρ b0).tm).isSome = true → a'.tmps.getD t undef = a.tmps.getD t undef) : R cx (σ.kill ρ b0) a' w' := by
  obtain ⟨h1, h2, h3, h4⟩ := hf
  obtain ⟨ht1, ht2, ht3⟩ := r.ex.top htop
  obtain ⟨gh', r'⟩ := r.kill htop hy ρ b0 (by rw [hb0]; rfl) hok hmk h1 h2 h3 h4 hm.validW.1 fun b hb hne hnr => hm.validW.2 b hb hne fun hl => by
    rcases Nat.lt_or_ge b cx.B with hB | hB
    · rw [r.limB b hB] at hl; exact hρ (ht3 b ρ hl)
    · exact hnr ⟨hB, hl⟩
  exact ⟨gh', r'.act hs hd hfx ht⟩
theorem Gives.emptyFr {P : Program} {σ : AS} (t ρ e z : Nat) {q : Option (Nat × Nat)} (ht : look t σ.tm = some (.v (.slice []) q)) : Gives P σ { σ with tm := (t, .v (.fr ρ e z []) none) :: σ.tm } :=
  fun _ _ _ _ ⟨gh, r⟩ => ⟨gh, r.retm t ht (.fr _ _ _ _ _ (r.tmps t _ ht).1.1 (.inl rfl))⟩
theorem arr_lit (t : Array Value) : t = ((List.range t.size).map fun i => t.getD i undef).toArray := by
  apply Array.ext
  · simp
  · intro i h1 h2
    simp [Array.getD, h1]
theorem AT_changed {P : Program} {gl : Gl} {c : Code} {σ : AS} {Q : Exit → AS → Prop} (ts bs : List Nat) (ρ b0 k : Nat) {c0 : List AV} (hkp : lpOk (pick bs σ.bx) (pick ts σ.tm) = true) (hr : gl.rnd = false) (htop : gl.top = true) (hy : gl.y = none)
    (hb0 : look b0 σ.sh = some c0) (hρ : ρ ≠ 0) (hok : (σ.keep ts bs).killOk ρ = true) (hmk : σ.mks = 0) (hfx : σ.fx = []) (hQ : Q .normal ((σ.keep ts bs).kill ρ b0))
    (h : ∀ (lim : Lim) (a : Act) (w : World), a.tmps.size = σ.n → (∀ (t : Nat) (x : AV) q, look t σ.tm = some (.v x q) → Rep lim w.heap (a.tmps.getD t undef) x) → NodeC lim w.heap b0 0 c0 →
      c.wp P (fun e a' w' => e = .normal ∧ Altd lim ρ b0 k w.heap w'.heap ∧ (w'.os = w.os ∧ w'.tape = w.tape ∧ w'.output = w.output ∧ w.heap.size ≤ w'.heap.size) ∧ a'.tmps.size = a.tmps.size ∧ a'.defers = a.defers ∧
        ∀ t, (look t ((σ.keep ts bs).kill ρ b0).tm).isSome = true → a'.tmps.getD t undef = a.tmps.getD t undef) a w) : AT P gl c σ Q := by
  refine AT_hand hr fun cx gh a w hP hg r => ?_
  refine Code.wp_mono (fun e a' w' => ?_) (h gh.lim a w r.size (fun t x q ht => (r.tmps t _ ht).1.1) (NodeC.of_box (r.shs b0 c0 hb0).2))
  rintro ⟨rfl, hm, hf, hs, hd, ht⟩
  exact ⟨_, hQ, (r.weak (AS.keep_le hkp)).changed (by rw [hg]; exact htop) (by rw [hg]; exact hy) ρ b0 k hb0 hρ hok hmk hfx hm hf hs hd ht⟩
theorem NodeC.int {lim : Lim} {ρ b0 k : Nat} {h0 : Array Obj} {w : World} (m : Altd lim ρ b0 k h0 w.heap) {b off j : Nat} {l : List AV} {q : IntKind} {n : Int} (r : NodeC lim h0 b off l) (hj : l[j]? = some (.int q n)) : w.cell? ⟨b, off + j, none⟩ = some (.int q n) := by
  obtain ⟨u, h1, h2⟩ := r.2 j _ hj
  cases h2
  obtain ⟨v', h3, h4⟩ := m.cell h1
  rcases h4 with h4 | ⟨s, s', h4, -⟩
  · subst h4; rw [cell?_eq]; exact h3
  · cases h4
theorem NodeC.intG {lim : Lim} {ρ b0 k : Nat} {h0 : Array Obj} {w : World} (m : Altd lim ρ b0 k h0 w.heap) {b off j : Nat} {l : List AV} {q : IntKind} {n : Int} (r : NodeC lim h0 b off l) (hj : l[j]? = some (.int q n)) : ∃ n, w.cell? ⟨b, off + j, none⟩ = some (.int q n) := ⟨n, r.int m hj⟩
theorem NodeC.strG {lim : Lim} {ρ b0 k : Nat} {h0 : Array Obj} {w : World} (m : Altd lim ρ b0 k h0 w.heap) {b off j : Nat} {l : List AV} {s : List UInt8} (r : NodeC lim h0 b off l) (hj : l[j]? = some (.str s)) : ∃ s, w.cell? ⟨b, off + j, none⟩ = some (.string s) := by
  obtain ⟨-, s', h, -⟩ := r.str m hj
  exact ⟨s', h⟩
theorem NodeC.slG {lim : Lim} {ρ b0 k : Nat} {h0 : Array Obj} {w : World} (m : Altd lim ρ b0 k h0 w.heap) {b off j r e z : Nat} {l : List AV} {q : List (List AV)} (x : NodeC lim h0 b off l) (hj : l[j]? = some (.fr r e z q)) :
    ∃ p n c, w.cell? ⟨b, off + j, none⟩ = some (.slice p n c) ∧ Rep lim h0 (.slice p n c) (.fr r e z q) ∧ n = q.length := by
  obtain ⟨p, c, h1, h2⟩ := x.sl m hj
  exact ⟨p, _, c, h1, h2, rfl⟩
theorem run_loadAgg {P : Program} {w : World} {t b off : Nat} {cs : List Value} (hagg : aggO P t = some true) (hsz : esz P t = cs.length) (hc : ∀ (j : Nat) v, cs[j]? = some v → w.cell? ⟨b, off + j, none⟩ = some v) :
    (loadVar t ⟨b, off, none⟩).run P w = .ok (.agg cs.toArray) w := by
  unfold loadVar
  have := run_loadCells_list (P := P) w ⟨b, off, none⟩ cs (fun j u hu => by rw [Addr.add_lit]; exact hc j u hu)
  simp [run_isAgg hagg, run_sizeOf (info_of_underlying (aggO_some hagg)), hsz, this]
theorem setRow_alloc (w : World) (cur cs : Array Value) (e : TypeId) : (w.alloc (.cells cur e)).setRow w.heap.size cs = w.alloc (.cells cs e) := by
  unfold World.setRow World.alloc
  simp only
  congr 1
  apply Array.ext
  · simp
  · intro i h1 h2
    simp only [Array.getElem_modify]
    split
    · subst_vars; simp
    · rename_i hne
      have : i < w.heap.size := by simp at h2; omega
      simp [Array.getElem_push, this]
theorem run_storeNew {P : Program} {w : World} {t : Nat} {cur : Array Value} {cs : List Value} {e : TypeId} (hn : cur.size = cs.length) (hsz : cs.length = esz P t) (hi : (P.info? t).isSome = true) (h1 : ∀ u ∈ cs, u.oneCell' = true) :
    (storeVar t ⟨w.heap.size, 0, none⟩ (.agg cs.toArray)).run P (w.alloc (.cells cur e)) = .ok () (w.alloc (.cells cs.toArray e)) := by
  have h := run_storeVar (P := P) (w := w.alloc (.cells cur e)) (t := t) (b := w.heap.size) (off := 0) (v := .agg cs.toArray) (cur := cur) (e := e) (by simp only [World.alloc]; exact Array.getElem?_push_size) (by simpa [Value.cells] using hsz) hi (by simp [Value.cells, hn]) (by simpa [Value.cells] using h1)
  rw [h]
  simp only [Value.cells, List.take_zero, List.nil_append, Nat.zero_add]
  rw [List.drop_of_length_le (by simp [hn]), List.append_nil, Array.toArray_toList, setRow_alloc]
theorem wp_loadAgg {P : Program} {o : Oper} {a : Act} {w : World} {K : Act → World → Prop} {Q : Exit → Act → World → Prop} {t b off : Nat} {x : Operand} {cs : List Value} (ho : o.op = .load t x) (hx : a.eval x = .pointer (some ⟨b, off, none⟩)) (hagg : aggO P t = some true) (hsz : esz P t = cs.length)
    (hc : ∀ (j : Nat) v, cs[j]? = some v → w.cell? ⟨b, off + j, none⟩ = some v) (h : K (a.put o.dst (.agg cs.toArray)) w) : o.wp P a w K Q := by
  unfold Oper.wp
  have he : execOp a.eval o = (do let v ← loadVar t ⟨b, off, none⟩; pure (.value v)) := by simp [execOp, ho, hx, Instr.loadAt, Instr.sureAddr]
  rw [he]
  simp only [Sem.run_bind, run_loadAgg hagg hsz hc, Result.andThen_ok, Sem.run_pure]
  exact h
theorem wp_storeNew {P : Program} {o : Oper} {a : Act} {w : World} {K : Act → World → Prop} {Q : Exit → Act → World → Prop} {t : Nat} {x y : Operand} {cur : Array Value} {cs : List Value} {e : TypeId} (ho : o.op = .store t x y) (hx : a.eval x = .pointer (some ⟨w.heap.size, 0, none⟩)) (hy : a.eval y = .agg cs.toArray)
    (hn : cur.size = cs.length) (hsz : cs.length = esz P t) (hi : (P.info? t).isSome = true) (h1 : ∀ u ∈ cs, u.oneCell' = true) (h : K (a.put o.dst undef) (w.alloc (.cells cs.toArray e))) : o.wp P a (w.alloc (.cells cur e)) K Q := by
  unfold Oper.wp
  have he : execOp a.eval o = (do storeVar t ⟨w.heap.size, 0, none⟩ (a.eval y); pure .skip) := by simp [execOp, ho, hx, Instr.storeAt, Instr.sureAddr]
  rw [he, hy]
  simp only [Sem.run_bind, run_storeNew hn hsz hi h1, Result.andThen_ok, Sem.run_pure]
  exact h
end Go.Pv
end

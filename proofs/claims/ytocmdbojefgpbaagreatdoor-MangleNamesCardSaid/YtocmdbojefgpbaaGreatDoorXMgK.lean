import Derived.Test.YtocmdbojefgpbaaGreatDoorPt
import Derived.Test.YtocmdbojefgpbaaGreatDoorPvPb
import Derived.Test.YtocmdbojefgpbaaGreatDoorPvY
import Derived.Test.YtocmdbojefgpbaaGreatDoorXNaC
import Derived.Test.YtocmdbojefgpbaaGreatDoorPvOn
import Derived.Test.YtocmdbojefgpbaaGreatDoorPvKg
import Derived.Test.YtocmdbojefgpbaaGreatDoorPvDb
import Derived.Test.YtocmdbojefgpbaaGreatDoorXMgF
import Derived.Test.YtocmdbojefgpbaaGreatDoorPvOq
import Derived.Test.YtocmdbojefgpbaaGreatDoorXLbJ
section
/- Signatures: types put in. -/
set_option linter.all false
set_option maxHeartbeats 1000000
set_option maxRecDepth 10000
namespace Go.Proofs.YtocmdbojefgpbaaGreatDoor
open Go Go.Pv
variable (g : Nat → Option (List AV)) (rnd : Bool)

@[simp] theorem rows_sc {α : Type} (f : α → Str) (l : List α) (k : Nat) : Pv.Rows 1 (List.take k (l.map (encS ∘ f))) := Rows_take (fun r hr => by obtain ⟨x, _, rfl⟩ := List.mem_map.1 hr; exact ⟨rfl, rfl⟩) k

theorem c_bind_Names (l : List Fm) (hl : l.length ≤ 1000000000) : Valid Tryz.prog (G0 g rnd) 65 [.slice (l.map encF)] (.slice ((l.map Fm.name).map encS)) := by

 refine valid_of [(3, 9)] Tryz.func65 rfl (by kernel_rfl) ?_
 refine sr fun Z z => ?_
 simp [row_map, rows_take, encF, Tryz.f65]
 refine z _ ?_
 clear z Z
 refine sr fun Z z => ?_
 simp [row_map, rows_take, encF]
 refine z _ ?_
 clear z Z
 refine AT_seq_k fun K1 hK1 => ?_
 refine sr fun Z z => ?_
 simp [row_map, rows_take, encF]
 repeat refine sg ?_
 refine z _ ?_
 clear z Z
 refine AT_block ?_
 refine AT_loop_q [3,6,7,8] [] (fun j s => ∃ k, k ≤ l.length ∧ j = l.length - k ∧ s = { n := 19, tm := [(3, .v (.slice (((l.take k).map Fm.name).map encS)) (some (3, 9))), (6, .v (.slice (l.map encF)) none), (7, .v (.int .i64 l.length) none), (8, .v (.int .i64 k) none)], bx := [], tb := [], sh := [], hint := [(3, 9)] }) (l.length) (by first | rfl | simp) ?_ ?_
 exact ⟨0, by simp⟩
 rintro j s ⟨k, hk, rfl, rfl⟩ K2 hK2
 refine sr fun Z z => ?_
 simp [row_map, rows_take, encF]
 repeat refine sg ?_
 refine z _ ?_
 clear z Z
 refine AT_seq_k fun K3 hK3 => ?_
 refine AT_cond (g := none) rfl (fun hb9 => ?_) (fun hb9 => ?_)
 try simp [row_map, rows_take, encF] at hb9
 refine AT_skip ?_
 try simp only [nrm, reduceIte, Nat.reduceEqDiff]
 refine hK3 _ ?_
 refine AT_seq_k fun K4 hK4 => ?_
 refine AT_block ?_
 refine sr fun Z z => ?_
 simp [row_map, rows_take, encF, hb9]
 repeat refine sg ?_
 refine z _ ?_
 clear z Z
 refine AT_region_q fun Z z => ?_
 simp [row_map, rows_take, encF, hb9]
 repeat refine sg ?_
 refine z _ ?_
 clear z Z
 try simp only [nrm, reduceIte, Nat.reduceEqDiff]
 refine hK4 _ ?_
 refine AT_region_q fun Z z => ?_
 simp [row_map, rows_take, encF, hb9]
 repeat refine sg ?_
 refine z _ ?_
 clear z Z
 try simp only [nrm, reduceIte, Nat.reduceEqDiff]
 refine hK2 _ (by first | rfl | simp) (l.length - (k+1)) (by omega) ?_
 have hk9 : k < l.length := by omega
 have hs2 := take_map_succ (encS ∘ Fm.name) l k hk9
 exact ⟨k+1, by omega, by omega, by simp [hs2, encS]⟩
 try simp [row_map, rows_take, encF] at hb9
 refine AT_exit ?_
 try simp only [nrm, reduceIte, Nat.reduceEqDiff]
 refine hK1 _ ?_
 refine sr fun Z z => ?_
 simp [row_map, rows_take, encF, hb9]
 refine z _ ?_
 clear z Z
 refine AT_ret ?_
 simp [row_map, rows_take, encF, Tryz.f65]
 rw [List.take_of_length_le (by simp; omega)]

theorem c_bind_Subst_1 (ns : List Str) (as_ : List Ty) (hns : ns.length ≤ 1099511627776) (has : ∀ a ∈ as_, wt a ≤ 1099511627776) (hal : as_.length ≤ 1099511627776) (t : Ty) (hw : wt t ≤ 1099511627776) : Valid Tryz.prog (G0 g rnd) 86 [.agg (encTy t), .ro [.slice (ns.map encS)], .ro [.slice (as_.map encTy)]] (.agg ((encR 24 0) (sub ns as_ t))) := by

 refine valid_of [] Tryz.func86 rfl (by kernel_rfl) ?_
 refine sr fun Z z => ?_
 simp [Tryz.f86]
 refine z _ ?_
 clear z Z
 refine sr fun Z z => ?_
 simp
 repeat refine sg ?_
 refine RVn_call (c_types_Subst_m g rnd ns as_ hns has hal t hw) ?_
 simp
 repeat refine sg ?_
 refine z _ ?_
 clear z Z
 refine AT_ret ?_
 simp [Tryz.f86]

def encFM (f : Fm) : List AV := [.str f.name, .str f.ty.name, .fr 0 24 3 (f.ty.args.map (encR 24 0)), .int .i64 f.ty.pos, .int .i64 f.pos]
@[simp] theorem encFM_rows (l : List Fm) : Pv.Rows 5 (l.map encFM) := Rows_map 5 _ (fun _ => ⟨rfl, rfl⟩) l
@[simp] theorem encFM_rtake (l : List Fm) (k : Nat) : Pv.Rows 5 (List.take k (l.map encFM)) := Rows_take (encFM_rows l) k
@[simp] theorem encFM_rcomp {α : Type} (f : α → Fm) (l : List α) : Pv.Rows 5 (l.map (encFM ∘ f)) := Rows_map 5 _ (fun _ => ⟨rfl, rfl⟩) l
@[simp] theorem encFM_rctake {α : Type} (f : α → Fm) (l : List α) (k : Nat) : Pv.Rows 5 (List.take k (l.map (encFM ∘ f))) := Rows_take (encFM_rcomp f l) k
def mapFm (F : Ty → Ty) (f : Fm) : Fm := ⟨f.name, F f.ty, f.pos⟩
def encGM (s : Sg) : List AV := [.str s.name, .fr 1 72 5 (s.fms.map encFM), .fr 2 74 5 (s.pms.map encFM), .str s.res.name, .fr 0 24 3 (s.res.args.map (encR 24 0)), .int .i64 s.res.pos, .int .i64 s.pos]
def mapGm (F : Ty → Ty) (s : Sg) : Sg := ⟨s.name, s.fms.map (mapFm F), s.pms.map (mapFm F), F s.res, s.pos⟩
@[simp] theorem encGM_len (s : Sg) : (encGM s).length = 7 := rfl
@[simp] theorem encGM_one (s : Sg) : (encGM s).all AV.one = true := rfl
@[simp] theorem encGM_take (s : Sg) : (encGM s).take 7 = encGM s := rfl
@[simp] theorem encGM_drop (s : Sg) : (encGM s).drop 7 = [] := rfl

theorem c_bind_mapped (F : Ty → Ty) (fid : Nat) (caps : List AV) (hf : ∀ t, wt t ≤ 1000000000 → Valid Tryz.prog (G0 g rnd) fid ([.agg (encTy t)] ++ caps) (.agg ((encR 24 0) (F t)))) (s : Sg) (hw : wtG s ≤ 1000000000) : Valid Tryz.prog (G0 g rnd) 85 [.agg (encG s), .func fid caps] (.agg (encGM (mapGm F s))) := by
 have hw2 : s.name.length + 1 + wtFs s.fms + wtFs s.pms + wt s.res ≤ 1000000000 := hw
 have hl1 := wtFs_len s.fms
 have hl2 := wtFs_len s.pms
 have hez : esz Tryz.prog 72 = 5 := by kernel_rfl
 have hez2 : esz Tryz.prog 74 = 5 := by kernel_rfl
 refine valid_of [(105001, 72), (105002, 74)] Tryz.func85 rfl (by kernel_rfl) ?_
 refine sr fun Z z => ?_
 simp [row_map, encG, encF, Tryz.f85]
 refine z _ ?_
 clear z Z
 refine AT_seq_draw_last (by exact List.cons_ne_nil _ _) true [] Pt.mixed (by kernel_rfl) (by kernel_rfl) ⟨by simp [Im, okP, AS.get, look, TV.strip], fun _ => NoC_of (by simp [isCl])⟩ fun Z z => ?_
 simp [row_map, encG, encF]
 repeat refine sg ?_
 refine RVdn_call ((by have h := hf s.res (by omega); simp only [encTy_def, encR_def] at h; exact h)) ?_
 simp [row_map, encG, encF]
 repeat refine sg ?_
 refine z _ _ (Gives.refl) fun Zb zb => ?_
 simp [row_map, encG, encF]
 repeat refine sg ?_
 refine zb _ ?_
 clear zb Zb
 clear z Z
 refine AT_seq_k fun K1 hK1 => ?_
 refine sr fun Z z => ?_
 simp [row_map, encG, encF]
 repeat refine sg ?_
 refine z _ ?_
 clear z Z
 refine AT_block ?_
 refine AT_loop_q [1,2,4,5,20,21,22] [2,4,5] (fun j st => ∃ k, k ≤ s.fms.length ∧ j = s.fms.length - k ∧ st = { n := 64, tm := [(1, .v (.func fid caps) none), (2, .lp 2 0), (4, .lp 4 0), (5, .lp 5 0), (20, .v (.slice (s.fms.map encF)) none), (21, .v (.int .i64 s.fms.length) none), (22, .v (.int .i64 k) none)], bx := [(2, encG s), (4, [.str [], .slice [], .slice [], .str [], .slice [], .int .i64 0, .int .i64 0]), (5, [.str s.name, .slice (((s.fms.take k).map (mapFm F)).map encFM), .slice [], .str (F s.res).name, .fr 0 24 3 ((F s.res).args.map (encR 24 0)), .int .i64 (F s.res).pos, .int .i64 s.pos])], tb := [(5, 2, 105002, 74), (5, 1, 105001, 72)], sh := [], hint := [(105001, 72), (105002, 74)] }) (s.fms.length) (by first | rfl | simp) ?_ ?_
 exact ⟨0, by simp [encG]⟩
 rintro j st ⟨k, hk, rfl, rfl⟩ K2 hK2
 refine sr fun Z z => ?_
 simp [row_map, encG, encF]
 repeat refine sg ?_
 refine z _ ?_
 clear z Z
 refine AT_seq_k fun K3 hK3 => ?_
 refine AT_cond (g := none) rfl (fun hb23 => ?_) (fun hb23 => ?_)
 try simp [row_map, encG, encF] at hb23
 refine AT_skip ?_
 try simp only [nrm, reduceIte, Nat.reduceEqDiff]
 refine hK3 _ ?_
 refine AT_seq_k fun K4 hK4 => ?_
 refine AT_block ?_
 refine sr fun Z z => ?_
 simp [row_map, encG, encF, hb23]
 repeat refine sg ?_
 refine z _ ?_
 clear z Z
 refine AT_draw_q Pt.mixed (by kernel_rfl) fun Z z => ?_
 have hm9 := wtFs_mem (l := s.fms) (f := s.fms[k]) (by simp)
 have hm8 : wtF s.fms[k] = s.fms[k].name.length + 1 + wt s.fms[k].ty := rfl
 simp [row_map, encG, encF, hb23]
 repeat refine sg ?_
 refine RVdn_call ((by have h := hf s.fms[k].ty (by omega); simp only [encTy_def, encR_def] at h; exact h)) ?_
 simp [row_map, encG, encF, hb23]
 repeat refine sg ?_
 refine z _ ?_
 clear z Z
 try simp only [nrm, reduceIte, Nat.reduceEqDiff]
 refine hK4 _ ?_
 refine AT_str (Gives.tb [(5, 2, 105002, 74), (5, 1, 105001, 72)] (by simp)) ?_
 simp
 refine AT_region_q fun Z z => ?_
 simp [row_map, encG, encF, hb23]
 repeat refine sg ?_
 refine z _ ?_
 clear z Z
 try simp only [nrm, reduceIte, Nat.reduceEqDiff]
 refine hK2 _ (by first | rfl | simp) (s.fms.length - (k+1)) (by omega) ?_
 have hk9 : k < s.fms.length := by omega
 have hs2 := take_map_succ (encFM ∘ mapFm F) s.fms k hk9
 exact ⟨k+1, by omega, by omega, by simp [hs2, encG, encFM, mapFm]⟩
 try simp [row_map, encG, encF] at hb23
 refine AT_exit ?_
 try simp only [nrm, reduceIte, Nat.reduceEqDiff]
 refine hK1 _ ?_
 refine AT_seq_k fun K5 hK5 => ?_
 refine sr fun Z z => ?_
 have hk9 : s.fms.length ≤ k := by omega
 try rw [List.take_of_length_le hk9]
 simp [row_map, encG, encF, hb23]
 repeat refine sg ?_
 refine z _ ?_
 clear z Z
 refine AT_block ?_
 refine AT_loop_q [1,2,4,5,42,43,44] [2,4,5] (fun j st => ∃ k, k ≤ s.pms.length ∧ j = s.pms.length - k ∧ st = { n := 64, tm := [(1, .v (.func fid caps) none), (2, .lp 2 0), (4, .lp 4 0), (5, .lp 5 0), (42, .v (.slice (s.pms.map encF)) none), (43, .v (.int .i64 s.pms.length) none), (44, .v (.int .i64 k) none)], bx := [(2, encG s), (4, [.str [], .slice [], .slice [], .str [], .slice [], .int .i64 0, .int .i64 0]), (5, [.str s.name, .slice ((s.fms.map (mapFm F)).map encFM), .slice (((s.pms.take k).map (mapFm F)).map encFM), .str (F s.res).name, .fr 0 24 3 ((F s.res).args.map (encR 24 0)), .int .i64 (F s.res).pos, .int .i64 s.pos])], tb := [(5, 2, 105002, 74), (5, 1, 105001, 72)], sh := [], hint := [(105001, 72), (105002, 74)] }) (s.pms.length) (by first | rfl | simp) ?_ ?_
 have hk8 : List.take k (List.map (encFM ∘ mapFm F) s.fms) = List.map (encFM ∘ mapFm F) s.fms := List.take_of_length_le (by simp; omega)
 exact ⟨0, by simp [encG, hk8]⟩
 rintro j st ⟨k, hk, rfl, rfl⟩ K6 hK6
 refine sr fun Z z => ?_
 simp [row_map, encG, encF, hb23]
 repeat refine sg ?_
 refine z _ ?_
 clear z Z
 refine AT_seq_k fun K7 hK7 => ?_
 refine AT_cond (g := none) rfl (fun hb45 => ?_) (fun hb45 => ?_)
 try simp [row_map, encG, encF, hb23] at hb45
 refine AT_skip ?_
 try simp only [nrm, reduceIte, Nat.reduceEqDiff]
 refine hK7 _ ?_
 refine AT_seq_k fun K8 hK8 => ?_
 refine AT_block ?_
 refine sr fun Z z => ?_
 simp [row_map, encG, encF, hb23, hb45]
 repeat refine sg ?_
 refine z _ ?_
 clear z Z
 refine AT_draw_q Pt.mixed (by kernel_rfl) fun Z z => ?_
 have hm9 := wtFs_mem (l := s.pms) (f := s.pms[k]) (by simp)
 have hm8 : wtF s.pms[k] = s.pms[k].name.length + 1 + wt s.pms[k].ty := rfl
 simp [row_map, encG, encF, hb23, hb45]
 repeat refine sg ?_
 refine RVdn_call ((by have h := hf s.pms[k].ty (by omega); simp only [encTy_def, encR_def] at h; exact h)) ?_
 simp [row_map, encG, encF, hb23, hb45]
 repeat refine sg ?_
 refine z _ ?_
 clear z Z
 try simp only [nrm, reduceIte, Nat.reduceEqDiff]
 refine hK8 _ ?_
 refine AT_region_q fun Z z => ?_
 simp [row_map, encG, encF, hb23, hb45]
 repeat refine sg ?_
 refine z _ ?_
 clear z Z
 try simp only [nrm, reduceIte, Nat.reduceEqDiff]
 refine hK6 _ (by first | rfl | simp) (s.pms.length - (k+1)) (by omega) ?_
 have hk9 : k < s.pms.length := by omega
 have hs2 := take_map_succ (encFM ∘ mapFm F) s.pms k hk9
 exact ⟨k+1, by omega, by omega, by simp [hs2, encG, encFM, mapFm]⟩
 try simp [row_map, encG, encF, hb23] at hb45
 refine AT_exit ?_
 try simp only [nrm, reduceIte, Nat.reduceEqDiff]
 refine hK5 _ ?_
 refine AT_sealB 5 1 105001 72 1 rfl (by rfl) (by rfl) (by simp) ?_
 simp [AS.purge, hez]
 refine AT_sealB 5 2 105002 74 2 rfl (by rfl) (by rfl) (by simp) ?_
 simp [AS.purge, hez2]
 refine sr fun Z z => ?_
 simp [row_map, encG, encF, hb23, hb45]
 repeat refine sg ?_
 refine z _ ?_
 clear z Z
 refine AT_ret ?_
 simp [row_map, encG, encF, Tryz.f85]
 rw [List.take_of_length_le (by simp; omega)]; simp [encGM, mapGm]

theorem c_bind_Subst (ns : List Str) (as_ : List Ty) (hns : ns.length ≤ 1099511627776) (has : ∀ a ∈ as_, wt a ≤ 1099511627776) (hal : as_.length ≤ 1099511627776) (s : Sg) (hw : wtG s ≤ 1000000000) : Valid Tryz.prog (G0 g rnd) 64 [.agg (encG s), .slice (ns.map encS), .slice (as_.map encTy)] (.agg (encGM (subG ns as_ s))) := by

 refine valid_of [(200004, 0), (200005, 0)] Tryz.func64 rfl (by kernel_rfl) ?_
 refine sr fun Z z => ?_
 simp [Tryz.f64]
 refine z _ ?_
 clear z Z
 refine sr fun Z z => ?_
 simp
 repeat refine sg ?_
 refine RVn_call ((by have h := c_bind_mapped g rnd (sub ns as_) 86 [.ro [.slice (ns.map encS)], .ro [.slice (as_.map encTy)]] (fun t ht => c_bind_Subst_1 g rnd ns as_ hns has hal t (by omega)) s hw; rw [show mapGm (sub ns as_) s = subG ns as_ s from rfl] at h; exact h)) ?_
 simp
 repeat refine sg ?_
 refine z _ ?_
 clear z Z
 refine AT_ret ?_
 simp [Tryz.f64]

end Go.Proofs.YtocmdbojefgpbaaGreatDoor
end

section
/- Canonical signatures. -/
set_option linter.all false
set_option maxHeartbeats 1000000
set_option maxRecDepth 10000
namespace Go.Proofs.YtocmdbojefgpbaaGreatDoor
open Go Go.Pv
variable (g : Nat → Option (List AV)) (rnd : Bool)

def ph3 (r : Nat) : Nat := if r = 0 then 3 else r
theorem rn_encR (t : Ty) : AV.rnL ph3 (encR 24 0 t) = encR 24 3 t := mapM (fun _ => rfl) (fun _ => rfl) (rnL_map _) (rnLL_map _) (fun _ => rfl) t
def encFQ (f : Fm) : List AV := [.str f.name, .str f.ty.name, .fr 3 24 3 (f.ty.args.map (encR 24 3)), .int .i64 f.ty.pos, .int .i64 f.pos]
@[simp] theorem encFQ_len (f : Fm) : (encFQ f).length = 5 := rfl
@[simp] theorem encFQ_one (f : Fm) : (encFQ f).all AV.one = true := rfl
def encGQ (s : Sg) : List AV := [.str s.name, .fr 1 72 5 (s.fms.map encFQ), .fr 2 74 5 (s.pms.map encFQ), .str s.res.name, .fr 3 24 3 (s.res.args.map (encR 24 3)), .int .i64 s.res.pos, .int .i64 s.pos]
@[simp] theorem encGQ_len (s : Sg) : (encGQ s).length = 7 := rfl
@[simp] theorem encGQ_one (s : Sg) : (encGQ s).all AV.one = true := rfl
@[simp] theorem encGQ_take (s : Sg) : (encGQ s).take 7 = encGQ s := rfl
@[simp] theorem encGQ_drop (s : Sg) : (encGQ s).drop 7 = [] := rfl
theorem rn_encFM (f : Fm) : AV.rnL ph3 (encFM f) = encFQ f := by
  simp only [encFM, encFQ, AV.rnL, AV.rn, rnLL_map, List.map_map]
  rw [show (AV.rnL ph3 ∘ encR 24 0) = encR 24 3 from funext rn_encR]
  rfl
theorem rn_encGM (s : Sg) : AV.rnL ph3 (encGM s) = encGQ s := by
  simp only [encGM, encGQ, AV.rnL, AV.rn, rnLL_map, List.map_map]
  rw [show (AV.rnL ph3 ∘ encR 24 0) = encR 24 3 from funext rn_encR, show (AV.rnL ph3 ∘ encFM) = encFQ from funext rn_encFM]
  rfl
theorem encFM_fresh (f : Fm) : AV.freshL (encFM f) = true := by
  simp only [encFM, AV.freshL, AV.fresh, freshLL_all, List.all_map]
  simp only [Bool.true_and, Bool.and_true, List.all_eq_true]
  exact fun t _ => encR_fresh _ _ t
theorem encGM_fresh (s : Sg) : AV.freshL (encGM s) = true := by
  simp only [encGM, AV.freshL, AV.fresh, freshLL_all, List.all_map]
  simp only [Bool.true_and, Bool.and_true, Bool.and_eq_true, List.all_eq_true]
  exact ⟨fun f _ => encFM_fresh f, fun f _ => encFM_fresh f, fun t _ => encR_fresh _ _ t⟩
theorem newG {P : Program} {gl gl' : Gl} {f : FuncId} {args args' : List AV} {s : Sg} (hp : GlPlain gl) (hg : gl'.g = gl.g) (h : Valid P gl f args (.agg (encGM s))) (ha : AV.rgL none args' = args) : Valid P gl' f args' (.agg (encGQ s)) := by
  have h2 := Valid.regions (gl' := gl') (args := args') hp hg ph3 (r := .agg (encGM s)) (by show AV.freshL _ = true; exact encGM_fresh s) (by rw [ha]; exact h)
  rwa [show AV.rn ph3 (.agg (encGM s)) = .agg (encGQ s) by show AV.agg (AV.rnL _ _) = _; rw [rn_encGM]] at h2

end Go.Proofs.YtocmdbojefgpbaaGreatDoor
end

section
/- Canonical signatures: what a change of one name leaves. -/
set_option linter.all false
set_option maxHeartbeats 1000000
set_option maxRecDepth 10000
namespace Go.Proofs.YtocmdbojefgpbaaGreatDoor
open Go Go.Pv
variable (g : Nat → Option (List AV)) (rnd : Bool)

theorem locTs_succ (k : Nat) : locTs (k + 1) = locTs k ++ [.mk (locS (k : Nat)) [] 0] := by simp [locTs, List.range_succ]
@[simp] theorem locTs_len (k : Nat) : (locTs k).length = k := by simp [locTs]
def renF (k : Nat) (l : List Fm) : List Fm := l.mapIdx fun i f => if i < k then ⟨locS (i : Nat), f.ty, f.pos⟩ else f
def barF (k : Nat) (l : List Fm) : List Fm := l.mapIdx fun i f => if i < k then ⟨[], f.ty, f.pos⟩ else f
def can1 (k : Nat) (s : Sg) : Sg := ⟨s.name, renF k s.fms, s.pms, s.res, s.pos⟩
def can2 (k : Nat) (s : Sg) : Sg := ⟨s.name, s.fms, barF k s.pms, s.res, s.pos⟩
@[simp] theorem renF_len (k : Nat) (l : List Fm) : (renF k l).length = l.length := by simp [renF]
@[simp] theorem barF_len (k : Nat) (l : List Fm) : (barF k l).length = l.length := by simp [barF]
theorem renF_zero (l : List Fm) : renF 0 l = l := by
  apply List.ext_getElem?
  intro i
  simp only [renF, List.getElem?_mapIdx]
  cases l[i]? <;> simp
theorem barF_zero (l : List Fm) : barF 0 l = l := by
  apply List.ext_getElem?
  intro i
  simp only [barF, List.getElem?_mapIdx]
  cases l[i]? <;> simp
theorem renF_full (l : List Fm) : renF l.length l = locFs l := by
  apply List.ext_getElem?
  intro i
  simp only [renF, locFs, List.getElem?_mapIdx]
  cases h : l[i]? with
  | none => rfl
  | some f => simp [(List.getElem?_eq_some_iff.1 h).1]
theorem barF_full (l : List Fm) : barF l.length l = bareFs l := by
  apply List.ext_getElem?
  intro i
  simp only [barF, bareFs, List.getElem?_mapIdx, List.getElem?_map]
  cases h : l[i]? with
  | none => rfl
  | some f => simp [(List.getElem?_eq_some_iff.1 h).1]
@[simp] theorem can1_len (k : Nat) (s : Sg) : (can1 k s).fms.length = s.fms.length := renF_len k s.fms
@[simp] theorem can2_len (k : Nat) (s : Sg) : (can2 k s).pms.length = s.pms.length := barF_len k s.pms
theorem can1_zero (s : Sg) : can1 0 s = s := by simp [can1, renF_zero]
theorem can2_zero (s : Sg) : can2 0 s = s := by simp [can2, barF_zero]
theorem can_all (s : Sg) : can2 s.pms.length (can1 s.fms.length s) = ⟨s.name, locFs s.fms, bareFs s.pms, s.res, s.pos⟩ := by simp [can1, can2, renF_full, barF_full]
def nmAV (l : List Fm) : List AV := l.map fun f => .str f.name
@[simp] theorem nmAV_len (l : List Fm) : (nmAV l).length = l.length := by simp [nmAV]
theorem recol_names {l m : List Fm} (h : l.length = m.length) (h2 : ∀ (i : Nat) f q, l[i]? = some f → m[i]? = some q → q.ty = f.ty ∧ q.pos = f.pos) : recol 0 (l.map encFQ) (nmAV m) = m.map encFQ := by
  apply List.ext_getElem?
  intro i
  simp only [recol, nmAV, List.getElem?_zipWith, List.getElem?_map]
  cases hl : l[i]? with
  | none =>
    have := List.getElem?_eq_none_iff.1 hl
    rw [List.getElem?_eq_none (by omega : m.length ≤ i)]
    rfl
  | some f =>
    have hi := (List.getElem?_eq_some_iff.1 hl).1
    cases hm : m[i]? with
    | none => have := List.getElem?_eq_none_iff.1 hm; omega
    | some q =>
      obtain ⟨e1, e2⟩ := h2 i f q hl hm
      simp [encFQ, e1, e2]
theorem renF_get {k i : Nat} {l : List Fm} {f : Fm} (h : l[i]? = some f) : (renF k l)[i]? = some (if i < k then ⟨locS (i : Nat), f.ty, f.pos⟩ else f) := by simp [renF, List.getElem?_mapIdx, h]
theorem barF_get {k i : Nat} {l : List Fm} {f : Fm} (h : l[i]? = some f) : (barF k l)[i]? = some (if i < k then ⟨[], f.ty, f.pos⟩ else f) := by simp [barF, List.getElem?_mapIdx, h]
theorem renF_of {k i : Nat} {l : List Fm} {f : Fm} (h : (renF k l)[i]? = some f) : ∃ q, l[i]? = some q ∧ f = if i < k then ⟨locS (i : Nat), q.ty, q.pos⟩ else q := by
  cases hl : l[i]? with
  | none => simp [renF, List.getElem?_mapIdx, hl] at h
  | some q => rw [renF_get hl] at h; exact ⟨q, rfl, (Option.some.inj h).symm⟩
theorem barF_of {k i : Nat} {l : List Fm} {f : Fm} (h : (barF k l)[i]? = some f) : ∃ q, l[i]? = some q ∧ f = if i < k then ⟨[], q.ty, q.pos⟩ else q := by
  cases hl : l[i]? with
  | none => simp [barF, List.getElem?_mapIdx, hl] at h
  | some q => rw [barF_get hl] at h; exact ⟨q, rfl, (Option.some.inj h).symm⟩
theorem ren_recol (k : Nat) (l : List Fm) : recol 0 ((renF k l).map encFQ) (nmAV (renF (k + 1) l)) = (renF (k + 1) l).map encFQ := by
  refine recol_names (by simp) fun i f q h1 h2 => ?_
  obtain ⟨f0, h3, rfl⟩ := renF_of h1
  obtain ⟨q0, h4, rfl⟩ := renF_of h2
  rw [h3] at h4
  injection h4 with h4
  subst h4
  constructor <;> split <;> split <;> rfl
theorem bar_recol (k : Nat) (l : List Fm) : recol 0 ((barF k l).map encFQ) (nmAV (barF (k + 1) l)) = (barF (k + 1) l).map encFQ := by
  refine recol_names (by simp) fun i f q h1 h2 => ?_
  obtain ⟨f0, h3, rfl⟩ := barF_of h1
  obtain ⟨q0, h4, rfl⟩ := barF_of h2
  rw [h3] at h4
  injection h4 with h4
  subst h4
  constructor <;> split <;> split <;> rfl
theorem ren_at {k : Nat} {l : List Fm} (h : k < l.length) : (nmAV (renF (k + 1) l))[k]? = some (.str (locS (k : Nat))) := by
  rw [nmAV, List.getElem?_map, renF_get (List.getElem?_eq_getElem h)]
  simp
theorem bar_at {k : Nat} {l : List Fm} (h : k < l.length) : (nmAV (barF (k + 1) l))[k]? = some (.str []) := by
  rw [nmAV, List.getElem?_map, barF_get (List.getElem?_eq_getElem h)]
  simp
theorem ren_else {k : Nat} {l : List Fm} (i : Nat) (r : List AV) (hik : i ≠ k) (h : ((renF k l).map encFQ)[i]? = some r) : (nmAV (renF (k + 1) l))[i]? = r[0]? := by
  rw [List.getElem?_map] at h
  obtain ⟨f, h1, rfl⟩ := Option.map_eq_some_iff.1 h
  obtain ⟨f0, h3, rfl⟩ := renF_of h1
  rw [nmAV, List.getElem?_map, renF_get h3]
  have : (i < k + 1) = (i < k) := by apply propext; omega
  simp only [this]
  rfl
theorem bar_else {k : Nat} {l : List Fm} (i : Nat) (r : List AV) (hik : i ≠ k) (h : ((barF k l).map encFQ)[i]? = some r) : (nmAV (barF (k + 1) l))[i]? = r[0]? := by
  rw [List.getElem?_map] at h
  obtain ⟨f, h1, rfl⟩ := Option.map_eq_some_iff.1 h
  obtain ⟨f0, h3, rfl⟩ := barF_of h1
  rw [nmAV, List.getElem?_map, barF_get h3]
  have : (i < k + 1) = (i < k) := by apply propext; omega
  simp only [this]
  rfl
theorem encFQ_off {r : Nat} (h : 3 ≠ r) (f : Fm) : AV.offL r (encFQ f) = true := by
  have h2 : (3 != r) = true := by simpa using h
  simp only [encFQ, AV.offL, AV.off, Bool.and_true, Bool.true_and, h2]
  rw [offLL_all, List.all_map]
  exact List.all_eq_true.2 fun t _ => encR_off _ h t
theorem encFQs_off {r : Nat} (h : 3 ≠ r) (l : List Fm) : AV.offLL r (l.map encFQ) = true := by
  rw [offLL_all, List.all_map]
  exact List.all_eq_true.2 fun f _ => encFQ_off h f
theorem encFQ_lo {r : Nat} (h : 3 ≠ r) (l : List Fm) : ∀ x ∈ l.map encFQ, AV.offL r x = true := by
  intro x hx
  obtain ⟨f, _, rfl⟩ := List.mem_map.1 hx
  exact encFQ_off h f
theorem encFQ_row (l : List Fm) : ∀ x ∈ l.map encFQ, x.length = 5 := by
  intro x hx
  obtain ⟨f, _, rfl⟩ := List.mem_map.1 hx
  rfl
theorem encGQ_kill (ρ : Nat) (hρ : ρ ≠ 3) (s : Sg) : (encGQ s).map (AV.kill ρ) = [.str s.name, if ρ = 1 then .any else .fr 1 72 5 (s.fms.map encFQ), if ρ = 2 then .any else .fr 2 74 5 (s.pms.map encFQ), .str s.res.name, .fr 3 24 3 (s.res.args.map (encR 24 3)), .int .i64 s.res.pos, .int .i64 s.pos] := by
  have h3 : (3 != ρ) = true := by simpa using hρ.symm
  have ht : AV.offLL ρ (s.res.args.map (encR 24 3)) = true := by rw [offLL_all, List.all_map]; exact List.all_eq_true.2 fun t _ => encR_off _ hρ.symm t
  simp only [encGQ, List.map_cons, List.map_nil, AV.kill, AV.off, encFQs_off hρ.symm, ht, h3, Bool.and_true, if_true]
  have e1 : (if (1 != ρ) = true then AV.fr 1 72 5 (s.fms.map encFQ) else .any) = if ρ = 1 then .any else .fr 1 72 5 (s.fms.map encFQ) := by
    by_cases h : ρ = 1
    · subst h; rfl
    · have h2 : (1 != ρ) = true := by simpa using fun hh => h hh.symm
      rw [if_pos h2, if_neg h]
  have e2 : (if (2 != ρ) = true then AV.fr 2 74 5 (s.pms.map encFQ) else .any) = if ρ = 2 then .any else .fr 2 74 5 (s.pms.map encFQ) := by
    by_cases h : ρ = 2
    · subst h; rfl
    · have h2 : (2 != ρ) = true := by simpa using fun hh => h hh.symm
      rw [if_pos h2, if_neg h]
  rw [e1, e2]
theorem redo_ren (k : Nat) (s : Sg) : ((encGQ (can1 k s)).map (AV.kill 1)).set 1 (.fr 1 72 5 (recol 0 ((can1 k s).fms.map encFQ) (nmAV (renF (k + 1) s.fms)))) = encGQ (can1 (k + 1) s) := by
  rw [encGQ_kill 1 (by decide), show (can1 k s).fms = renF k s.fms from rfl, ren_recol]; rfl
theorem redo_bar (k : Nat) (s : Sg) : ((encGQ (can2 k s)).map (AV.kill 2)).set 2 (.fr 2 74 5 (recol 0 ((can2 k s).pms.map encFQ) (nmAV (barF (k + 1) s.pms)))) = encGQ (can2 (k + 1) s) := by
  rw [encGQ_kill 2 (by decide), show (can2 k s).pms = barF k s.pms from rfl, bar_recol]; rfl
theorem redo_bar2 (k n : Nat) (s : Sg) : ((encGQ (can2 k (can1 n s))).map (AV.kill 2)).set 2 (.fr 2 74 5 (recol 0 ((can2 k (can1 n s)).pms.map encFQ) (nmAV (barF (k + 1) s.pms)))) = encGQ (can2 (k + 1) (can1 n s)) := redo_bar k (can1 n s)
theorem encGQ_oo (ρ : Nat) (s : Sg) : (encGQ s).all (fun x => x.off ρ || x.one) = true := List.all_eq_true.2 fun x hx => by rw [List.all_eq_true.1 (encGQ_one s) x hx, Bool.or_true]
theorem locTs_small {n : Nat} (h : n ≤ 1000000000) : ∀ a ∈ locTs n, wt a ≤ 1099511627776 := by
  intro a ha
  obtain ⟨i, hi, rfl⟩ := List.mem_map.1 ha
  simp only [wt, wts]
  have := locS_len (n := (i : Nat)) (by have := List.mem_range.1 hi; omega)
  omega
theorem encTys_plain (l : List Ty) : AV.rgLL none (l.map encTy) = l.map encTy := by rw [rgLL_map, List.map_map]; exact List.map_congr_left fun t _ => encTy_plain t
theorem encF_plain (f : Fm) : AV.rgL none (encF f) = encF f := by simp only [encF, AV.rgL, AV.rg, encTys_plain]
theorem encFs_plain (l : List Fm) : AV.rgLL none (l.map encF) = l.map encF := by rw [rgLL_map, List.map_map]; exact List.map_congr_left fun f _ => encF_plain f
theorem encSs_plain (l : List Str) : AV.rgLL none (l.map encS) = l.map encS := by rw [rgLL_map, List.map_map]; exact List.map_congr_left fun _ _ => rfl
theorem encG_plain (s : Sg) : AV.rgL none (encG s) = encG s := by simp only [encG, AV.rgL, AV.rg, encTys_plain, encFs_plain]
theorem argsP (s : Sg) : AV.rgL none [.agg (encG s), .slice ((fmNs s).map encS), .slice ((locTs s.fms.length).map encTy)] = [.agg (encG s), .slice ((fmNs s).map encS), .slice ((locTs s.fms.length).map encTy)] := by
  simp only [AV.rgL, AV.rg, encG_plain, encSs_plain, encTys_plain]
theorem encRs_plain (l : List Ty) : AV.rgLL none (l.map (encR 24 3)) = l.map encTy := by rw [rgLL_map, List.map_map]; exact List.map_congr_left fun t _ => encR_plain _ _ t
theorem encFQ_plain (f : Fm) : AV.rgL none (encFQ f) = encF f := by simp only [encFQ, encF, AV.rgL, AV.rg, encRs_plain]
theorem encFQs_plain (l : List Fm) : AV.rgLL none (l.map encFQ) = l.map encF := by rw [rgLL_map, List.map_map]; exact List.map_congr_left fun f _ => encFQ_plain f
theorem encGQ_plain (s : Sg) : AV.rgL none (encGQ s) = encG s := by simp only [encGQ, encG, AV.rgL, AV.rg, encFQs_plain, encRs_plain]
theorem encFQ_fresh (f : Fm) : AV.freshL (encFQ f) = true := by
  simp only [encFQ, AV.freshL, AV.fresh, freshLL_all, List.all_map]
  simp only [Bool.true_and, Bool.and_true, List.all_eq_true]
  exact fun t _ => encR_fresh _ _ t
theorem encGQ_fresh (s : Sg) : AV.freshL (encGQ s) = true := by
  simp only [encGQ, AV.freshL, AV.fresh, freshLL_all, List.all_map]
  simp only [Bool.true_and, Bool.and_true, Bool.and_eq_true, List.all_eq_true]
  exact ⟨fun f _ => encFQ_fresh f, fun f _ => encFQ_fresh f, fun t _ => encR_fresh _ _ t⟩
mutual
theorem rg_rg (k : Nat) : ∀ x : AV, (x.rg (some k)).rg none = x.rg none
  | .slice l => by simp only [AV.rg, rgLL_rg k l]
  | .slX l => by simp only [AV.rg, rgLL_rg k l]
  | .fr _ _ _ l => by simp only [AV.rg, rgLL_rg k l]
  | .sr _ l => by simp only [AV.rg, rgLL_rg k l]
  | .agg l => by simp only [AV.rg, rgL_rg k l]
  | .tup l => by simp only [AV.rg, rgL_rg k l]
  | .func _ l => by simp only [AV.rg, rgL_rg k l]
  | .bfn _ l => by simp only [AV.rg, rgL_rg k l]
  | .ro l => by simp only [AV.rg, rgL_rg k l]
  | .iface _ x => by simp only [AV.rg, rg_rg k x]
  | .bool _ | .int _ _ | .str _ | .nilFunc | .yld _ | .nilPtr | .gp _ _ | .nilIface | .nilS | .anyB | .any | .gs _ _ _ => rfl
theorem rgL_rg (k : Nat) : ∀ l : List AV, AV.rgL none (AV.rgL (some k) l) = AV.rgL none l
  | [] => rfl
  | x :: l => by simp only [AV.rgL, rg_rg k x, rgL_rg k l]
theorem rgLL_rg (k : Nat) : ∀ l : List (List AV), AV.rgLL none (AV.rgLL (some k) l) = AV.rgLL none l
  | [] => rfl
  | x :: l => by simp only [AV.rgLL, rgL_rg k x, rgLL_rg k l]
end
theorem canon_plain {P : Program} {gl gl' : Gl} {f : FuncId} {s c : Sg} (hp : GlPlain gl) (hg : gl'.g = gl.g) (h : ValidU P gl f [.agg (encG s)] (.agg (encGQ c))) : Valid P gl' f [.agg (encG s)] (.agg (encG c)) := by
  have h1 := Valid.plain (ValidU.region (gl' := gl') (args := [.agg (encG s)]) hp hg 0 (r := .agg (encGQ c)) (by show AV.freshL _ = true; exact encGQ_fresh c) (by simp only [AV.rgL, AV.rg, encG_plain]; exact h))
  rw [rg_rg] at h1
  simpa only [AV.rg, encGQ_plain] using h1

end Go.Proofs.YtocmdbojefgpbaaGreatDoor
end

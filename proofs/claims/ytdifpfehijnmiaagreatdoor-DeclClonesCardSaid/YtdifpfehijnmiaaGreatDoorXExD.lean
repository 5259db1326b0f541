import Derived.Test.YtdifpfehijnmiaaGreatDoorPt
import Derived.Test.YtdifpfehijnmiaaGreatDoorPvPb
import Derived.Test.YtdifpfehijnmiaaGreatDoorPvY
import Derived.Test.YtdifpfehijnmiaaGreatDoorPvMb
import Derived.Test.YtdifpfehijnmiaaGreatDoorXTyE
import Derived.Test.YtdifpfehijnmiaaGreatDoorXTyD
import Derived.Test.YtdifpfehijnmiaaGreatDoorXTyI
section
/- Contracts. -/
set_option linter.all false
set_option maxHeartbeats 1000000
set_option maxRecDepth 10000
namespace Go.Proofs.YtdifpfehijnmiaaGreatDoor
open Go Go.Pv
variable (g : Nat → Option (List AV)) (rnd : Bool)

theorem c_types_Depth (t : Ty) : wt t ≤ 1099511627776 → Valid Tryz.prog (G0 g rnd) 65 [.agg (encTy t)] (.int .i64 (dep t)) := by
 induction t using Ty.ind with
 | h n ts p ih =>
 intro hw
 have hw2 : n.length + 1 + wts ts ≤ 1099511627776 := by simpa [wt] using hw
 have hln := wts_len ts
 refine valid_of [] Tryz.func65 rfl (by kernel_rfl) ?_
 refine sr fun Z z => ?_
 simp [row_map, Tryz.f65]
 refine z _ ?_
 clear z Z
 refine sr fun Z z => ?_
 simp [row_map]
 refine z _ ?_
 clear z Z
 refine AT_seq_k fun K1 hK1 => ?_
 refine sr fun Z z => ?_
 simp [row_map]
 refine z _ ?_
 clear z Z
 refine AT_block ?_
 refine AT_loop_q [3,7,8,9,1] [1] (fun j s => ∃ k, k ≤ ts.length ∧ j = ts.length - k ∧ s = { n := 20, tm := [(3, .v (.int .i64 (deps (ts.take k) : Nat)) none), (7, .v (.slice (ts.map encTy)) none), (8, .v (.int .i64 ts.length) none), (9, .v (.int .i64 k) none), (1, .lp 1 0)], bx := [(1, encTy (.mk n ts p))], tb := [], sh := [], hint := [] }) (ts.length) (by first | rfl | simp) ?_ ?_
 exact ⟨0, by simp [deps]⟩
 rintro j s ⟨k, hk, rfl, rfl⟩ K2 hK2
 refine sr fun Z z => ?_
 simp [row_map]
 refine z _ ?_
 clear z Z
 refine AT_seq_k fun K3 hK3 => ?_
 refine AT_cond (g := none) rfl (fun hb10 => ?_) (fun hb10 => ?_)
 simp [row_map] at hb10
 refine AT_skip ?_
 refine hK3 _ ?_
 refine AT_seq_k fun K4 hK4 => ?_
 refine AT_block ?_
 refine sr fun Z z => ?_
 have hm := wts_mem (l := ts) (t := ts[k]) (by simp)
 have hdk := dep_wt ts[k]
 have hdt := deps_wts (ts.take k)
 have hwt := wts_take ts k
 simp [row_map, hb10]
 refine z _ ?_
 clear z Z
 refine AT_region_q fun Z z => ?_
 simp [row_map, hb10]
 refine RVn_call (ih ts[k] (by simp) (by omega)) ?_
 simp [row_map, hb10]
 refine z _ ?_
 clear z Z
 refine hK4 _ ?_
 refine AT_region_q fun Z z => ?_
 simp [row_map, hb10]
 repeat refine sg ?_
 refine z _ ?_
 clear z Z
 refine hK2 _ (by first | rfl | simp) (ts.length - (k+1)) (by omega) ?_
 exact ⟨k+1, by omega, by omega, by simp [deps_take _ _ hb10]; split <;> omega⟩
 simp [row_map] at hb10
 refine AT_exit ?_
 refine hK1 _ ?_
 refine sr fun Z z => ?_
 have hdt := deps_wts (ts.take k)
 have hwt := wts_take ts k
 simp [row_map, hb10]
 repeat refine sg ?_
 refine z _ ?_
 clear z Z
 refine AT_ret ?_
 simp [row_map, Tryz.f65]
 rw [List.take_of_length_le hb10]; simp [dep]

end Go.Proofs.YtdifpfehijnmiaaGreatDoor
end

section
/- Contracts: expressions, counted and compared. -/
set_option linter.all false
set_option maxHeartbeats 1000000
set_option maxRecDepth 10000
namespace Go.Proofs.YtdifpfehijnmiaaGreatDoor
open Go Go.Pv
variable (g : Nat → Option (List AV)) (rnd : Bool)

theorem c_ref04x_Same (t u : Ty) (hw : wt t ≤ 1099511627776) : Valid Tryz.prog (G0 g rnd) 54 [.agg (encTy t), .agg (encTy u)] (.bool (cmpT t u == 0)) := by

 refine valid_of [] Tryz.func54 rfl (by kernel_rfl) ?_
 refine sr fun Z z => ?_
 simp [Tryz.f54]
 refine z _ ?_
 clear z Z
 refine sr fun Z z => ?_
 simp
 refine RVn_call (c_ref04x_Compare g rnd t u hw) ?_
 simp
 refine z _ ?_
 clear z Z
 refine AT_ret ?_
 simp [Tryz.f54]

theorem c_ref05x_Count : ∀ e : Exp, fitE e → ∀ j0 : Nat, j0 ≤ 100000000000000 → Valid Tryz.prog (G0 g rnd) 78 [.agg (encE e), .int .i64 j0] (.int .i64 (cntE e j0)) := by
 intro e
 induction e using Exp.ind with
 | h kd n t ta l p ih =>
 intro hf j0 hj
 rw [fitE] at hf
 obtain ⟨hf1, hf2, ⟨hf3, hf4⟩, hf5, hf6⟩ := hf
 refine valid_of [] Tryz.func78 rfl (by kernel_rfl) ?_
 refine sr fun Z z => ?_
 simp [row_map, tdiv50, Tryz.f78]
 refine z _ ?_
 clear z Z
 refine sr fun Z z => ?_
 simp [row_map, tdiv50]
 repeat refine sg ?_
 refine RVn_call (c_ref04x_Count g rnd t hf2 (j0 + n.length / 50) (by omega)) ?_
 simp [row_map, tdiv50]
 refine z _ ?_
 clear z Z
 refine AT_seq_k fun K1 hK1 => ?_
 refine sr fun Z z => ?_
 simp [row_map, tdiv50]
 refine z _ ?_
 clear z Z
 refine AT_block ?_
 refine AT_loop_q [2,1,5] [2] (fun j s => ∃ k c, k ≤ ta.length ∧ cntE (.mk kd n t ta l p) j0 = cntEs l (cnts (ta.drop k) c) ∧ j = ta.length - k ∧ s = { n := 53, tm := [(2, .lp 2 0), (1, .v (.int .i64 (c : Nat)) none), (5, .v (.int .i64 k) none)], bx := [(2, encE (.mk kd n t ta l p))], tb := [], sh := [], hint := [] }) (ta.length) (by first | rfl | simp) ?_ ?_
 exact ⟨0, cnt t (j0 + n.length / 50), by simp [cntE]⟩
 rintro j s ⟨k, c, hk, hc, rfl, rfl⟩ K2 hK2
 refine AT_seq_k fun K3 hK3 => ?_
 by_cases hkt : k < ta.length
 refine sr fun Z z => ?_
 simp [row_map, tdiv50, hkt]
 refine z _ ?_
 clear z Z
 refine AT_cond (g := none) rfl (fun hb24 => ?_) (fun hb24 => ?_)
 simp [row_map, tdiv50, hkt] at hb24
 refine AT_skip ?_
 refine hK3 _ ?_
 refine AT_seq_k fun K4 hK4 => ?_
 refine AT_block ?_
 refine AT_region_q fun Z z => ?_
 simp [row_map, tdiv50, hkt]
 refine RVn_call (c_ref04x_Count g rnd ta[k] (fits_mem hf4 (by simp)) c (by omega)) ?_
 simp [row_map, tdiv50, hkt]
 refine z _ ?_
 clear z Z
 refine hK4 _ ?_
 refine AT_region_q fun Z z => ?_
 simp [row_map, tdiv50, hkt]
 repeat refine sg ?_
 refine z _ ?_
 clear z Z
 refine hK2 _ (by first | rfl | simp) (ta.length - (k+1)) (by omega) ?_
 refine ⟨k+1, cnt ta[k] c, by omega, ?_, by omega, by simp⟩
 rw [hc, List.drop_eq_getElem_cons hkt, cnts_cons, if_pos (by omega)]
 simp [row_map, tdiv50, hkt] at hb24
 refine AT_exit ?_
 refine hK1 _ ?_
 refine AT_seq_k fun K5 hK5 => ?_
 refine sr fun Z z => ?_
 simp [row_map, tdiv50, hkt]
 refine z _ ?_
 clear z Z
 refine AT_block ?_
 refine AT_loop_q [2,1,6] [2] (fun j s => ∃ k c, k ≤ l.length ∧ cntE (.mk kd n t ta l p) j0 = cntEs (l.drop k) c ∧ j = l.length - k ∧ s = { n := 53, tm := [(2, .lp 2 0), (1, .v (.int .i64 (c : Nat)) none), (6, .v (.int .i64 k) none)], bx := [(2, encE (.mk kd n t ta l p))], tb := [], sh := [], hint := [] }) (l.length) (by first | rfl | simp) ?_ ?_
 refine ⟨0, c, by omega, ?_, by omega, by simp⟩
 (rw [hc, List.drop_eq_getElem_cons hkt, cnts_cons, if_neg (by omega)]; rfl)
 rintro j s ⟨k, c, hk, hc2, rfl, rfl⟩ K6 hK6
 refine AT_seq_k fun K7 hK7 => ?_
 by_cases hkl : k < l.length
 refine sr fun Z z => ?_
 simp [row_map, tdiv50, hkt, hkl]
 refine z _ ?_
 clear z Z
 refine AT_cond (g := none) rfl (fun hb42 => ?_) (fun hb42 => ?_)
 simp [row_map, tdiv50, hkt, hkl] at hb42
 refine AT_skip ?_
 refine hK7 _ ?_
 refine AT_seq_k fun K8 hK8 => ?_
 refine AT_block ?_
 refine AT_region_q fun Z z => ?_
 simp [row_map, tdiv50, hkt, hkl]
 refine RVn_call (ih l[k] (by simp) (fitEs_mem hf6 (by simp)) c (by omega)) ?_
 simp [row_map, tdiv50, hkt, hkl]
 refine z _ ?_
 clear z Z
 refine hK8 _ ?_
 refine AT_region_q fun Z z => ?_
 simp [row_map, tdiv50, hkt, hkl]
 repeat refine sg ?_
 refine z _ ?_
 clear z Z
 refine hK6 _ (by first | rfl | simp) (l.length - (k+1)) (by omega) ?_
 refine ⟨k+1, cntE l[k] c, by omega, ?_, by omega, by simp⟩
 rw [hc2, List.drop_eq_getElem_cons hkl, cntEs_cons, if_pos (by omega)]
 simp [row_map, tdiv50, hkt, hkl] at hb42
 refine AT_exit ?_
 refine hK5 _ ?_
 refine sr fun Z z => ?_
 simp [row_map, tdiv50, hkt, hkl]
 refine z _ ?_
 clear z Z
 refine AT_ret ?_
 simp [row_map, tdiv50, Tryz.f78]
 (rw [hc2, List.drop_eq_getElem_cons hkl, cntEs_cons, if_neg (by omega)])
 refine sr fun Z z => ?_
 simp [row_map, tdiv50, hkt, hkl]
 refine z _ ?_
 clear z Z
 refine cF (by simp [hkt, hkl]) ?_
 refine AT_exit ?_
 refine hK5 _ ?_
 refine sr fun Z z => ?_
 simp [row_map, tdiv50, hkt, hkl]
 refine z _ ?_
 clear z Z
 refine AT_ret ?_
 simp [row_map, tdiv50, Tryz.f78]
 (rw [hc2, List.drop_eq_nil_of_le (by omega)]; rfl)
 refine sr fun Z z => ?_
 simp [row_map, tdiv50, hkt]
 refine z _ ?_
 clear z Z
 refine cF (by simp [hkt]) ?_
 refine AT_exit ?_
 refine hK1 _ ?_
 refine AT_seq_k fun K9 hK9 => ?_
 refine sr fun Z z => ?_
 simp [row_map, tdiv50, hkt]
 refine z _ ?_
 clear z Z
 refine AT_block ?_
 refine AT_loop_q [2,1,6] [2] (fun j s => ∃ k c, k ≤ l.length ∧ cntE (.mk kd n t ta l p) j0 = cntEs (l.drop k) c ∧ j = l.length - k ∧ s = { n := 53, tm := [(2, .lp 2 0), (1, .v (.int .i64 (c : Nat)) none), (6, .v (.int .i64 k) none)], bx := [(2, encE (.mk kd n t ta l p))], tb := [], sh := [], hint := [] }) (l.length) (by first | rfl | simp) ?_ ?_
 refine ⟨0, c, by omega, ?_, by omega, by simp⟩
 (rw [hc, List.drop_eq_nil_of_le (by omega)]; rfl)
 rintro j s ⟨k, c, hk, hc2, rfl, rfl⟩ K10 hK10
 refine AT_seq_k fun K11 hK11 => ?_
 by_cases hkl : k < l.length
 refine sr fun Z z => ?_
 simp [row_map, tdiv50, hkt, hkl]
 refine z _ ?_
 clear z Z
 refine AT_cond (g := none) rfl (fun hb42 => ?_) (fun hb42 => ?_)
 simp [row_map, tdiv50, hkt, hkl] at hb42
 refine AT_skip ?_
 refine hK11 _ ?_
 refine AT_seq_k fun K12 hK12 => ?_
 refine AT_block ?_
 refine AT_region_q fun Z z => ?_
 simp [row_map, tdiv50, hkt, hkl]
 refine RVn_call (ih l[k] (by simp) (fitEs_mem hf6 (by simp)) c (by omega)) ?_
 simp [row_map, tdiv50, hkt, hkl]
 refine z _ ?_
 clear z Z
 refine hK12 _ ?_
 refine AT_region_q fun Z z => ?_
 simp [row_map, tdiv50, hkt, hkl]
 repeat refine sg ?_
 refine z _ ?_
 clear z Z
 refine hK10 _ (by first | rfl | simp) (l.length - (k+1)) (by omega) ?_
 refine ⟨k+1, cntE l[k] c, by omega, ?_, by omega, by simp⟩
 rw [hc2, List.drop_eq_getElem_cons hkl, cntEs_cons, if_pos (by omega)]
 simp [row_map, tdiv50, hkt, hkl] at hb42
 refine AT_exit ?_
 refine hK9 _ ?_
 refine sr fun Z z => ?_
 simp [row_map, tdiv50, hkt, hkl]
 refine z _ ?_
 clear z Z
 refine AT_ret ?_
 simp [row_map, tdiv50, Tryz.f78]
 (rw [hc2, List.drop_eq_getElem_cons hkl, cntEs_cons, if_neg (by omega)])
 refine sr fun Z z => ?_
 simp [row_map, tdiv50, hkt, hkl]
 refine z _ ?_
 clear z Z
 refine cF (by simp [hkt, hkl]) ?_
 refine AT_exit ?_
 refine hK9 _ ?_
 refine sr fun Z z => ?_
 simp [row_map, tdiv50, hkt, hkl]
 refine z _ ?_
 clear z Z
 refine AT_ret ?_
 simp [row_map, tdiv50, Tryz.f78]
 (rw [hc2, List.drop_eq_nil_of_le (by omega)]; rfl)

theorem c_ref05x_sameTypes (a b : List Ty) (hw : wts a ≤ 1099511627776) : Valid Tryz.prog (G0 g rnd) 100 [.slice (a.map encTy), .slice (b.map encTy)] (.bool (sameTs a b)) := by
 have hla := wts_len a
 refine valid_of [] Tryz.func100 rfl (by kernel_rfl) ?_
 refine sr fun Z z => ?_
 simp [row_map, Tryz.f100]
 refine z _ ?_
 clear z Z
 refine AT_seq_k fun K1 hK1 => ?_
 refine sr fun Z z => ?_
 simp [row_map]
 refine z _ ?_
 clear z Z
 refine AT_cond (g := none) rfl (fun hb10 => ?_) (fun hb10 => ?_)
 simp [row_map] at hb10
 refine sr fun Z z => ?_
 simp [row_map, hb10]
 refine z _ ?_
 clear z Z
 refine AT_ret ?_
 simp [row_map, Tryz.f100]
 (· rw [sameTs_len (show a.length ≠ b.length by omega)])
 simp [row_map] at hb10
 have hab : a.length = b.length := by omega
 refine AT_skip ?_
 refine hK1 _ ?_
 refine AT_seq_k fun K2 hK2 => ?_
 refine sr fun Z z => ?_
 simp [row_map]
 refine z _ ?_
 clear z Z
 refine AT_block ?_
 refine AT_loop_q [0,1,5] [] (fun j s => ∃ k, k ≤ a.length ∧ sameTs a b = sameTs (a.drop k) (b.drop k) ∧ j = a.length - k ∧ s = { n := 27, tm := [(0, .v (.slice (a.map encTy)) none), (1, .v (.slice (b.map encTy)) none), (5, .v (.int .i64 k) none)], bx := [], tb := [], sh := [], hint := [] }) (a.length) (by first | rfl | simp) ?_ ?_
 exact ⟨0, by simp⟩
 rintro j s ⟨k, hk, hc, rfl, rfl⟩ K3 hK3
 refine AT_seq_k fun K4 hK4 => ?_
 refine sr fun Z z => ?_
 simp [row_map]
 refine z _ ?_
 clear z Z
 refine AT_cond (g := none) rfl (fun hb14 => ?_) (fun hb14 => ?_)
 simp [row_map] at hb14
 refine AT_skip ?_
 refine hK4 _ ?_
 refine AT_seq_k fun K5 hK5 => ?_
 refine AT_block ?_
 refine AT_seq_draw Pt.mixed (by kernel_rfl) fun Z z => ?_
 have hku : k < b.length := by omega
 have hm := wts_mem (l := a) (t := a[k]) (by simp)
 have hda := List.drop_eq_getElem_cons hb14
 have hdb := List.drop_eq_getElem_cons hku
 simp [row_map, hku, hb14]
 refine RVdn_call (c_ref04x_Same g rnd a[k] b[k] (by omega)) ?_
 simp [row_map, hku, hb14]
 refine z _ ?_
 clear z Z
 refine AT_cond (g := none) rfl (fun hb26 => ?_) (fun hb26 => ?_)
 simp [row_map, hb14] at hb26
 refine sr fun Z z => ?_
 simp [row_map, hb14, hb26]
 refine z _ ?_
 clear z Z
 refine AT_ret ?_
 simp [row_map, Tryz.f100]
 (· rw [hc, hda, hdb, sameTs_cons]; simp [hb26])
 simp [row_map, hb14] at hb26
 refine AT_skip ?_
 refine hK5 _ ?_
 refine AT_region_q fun Z z => ?_
 simp [row_map, hb14, hb26]
 repeat refine sg ?_
 refine z _ ?_
 clear z Z
 refine hK3 _ (by first | rfl | simp) (a.length - (k+1)) (by omega) ?_
 refine ⟨k+1, by omega, ?_, by omega, by simp⟩
 rw [hc, hda, hdb, sameTs_cons]; simp [hb26]
 simp [row_map] at hb14
 refine AT_exit ?_
 refine hK2 _ ?_
 refine sr fun Z z => ?_
 simp [row_map, hb14]
 refine z _ ?_
 clear z Z
 refine AT_ret ?_
 simp [row_map, Tryz.f100]
 (rw [hc, List.drop_eq_nil_of_le hb14, List.drop_eq_nil_of_le (show b.length ≤ k by omega)]; rfl)

theorem c_slices_EqualFunc_api_Type_api_Type_api_Type_api_Type (a b : List Ty) (hl : a.length ≤ 1099511627776) (hs : ∀ x ∈ a, ∀ y ∈ b, Valid Tryz.prog (G0 g rnd) 53 [.agg (encTy x), .agg (encTy y)] (.bool ((fun x y => cmpT x y == 0) x y))) : Valid Tryz.prog (G0 g rnd) 101 [.slice (a.map encTy), .slice (b.map encTy), .func 53 []] (.bool (sameTs a b)) := by

 refine valid_of [] Tryz.func101 rfl (by kernel_rfl) ?_
 refine sr fun Z z => ?_
 simp [row_map, Tryz.f101]
 refine z _ ?_
 clear z Z
 refine AT_seq_k fun K1 hK1 => ?_
 refine sr fun Z z => ?_
 simp [row_map]
 refine z _ ?_
 clear z Z
 refine AT_cond (g := none) rfl (fun hb14 => ?_) (fun hb14 => ?_)
 simp [row_map] at hb14
 refine sr fun Z z => ?_
 simp [row_map, hb14]
 refine z _ ?_
 clear z Z
 refine AT_ret ?_
 simp [row_map, Tryz.f101]
 (· rw [sameTs_len (show a.length ≠ b.length by omega)])
 simp [row_map] at hb14
 have hab : a.length = b.length := by omega
 refine AT_skip ?_
 refine hK1 _ ?_
 refine AT_seq_k fun K2 hK2 => ?_
 refine sr fun Z z => ?_
 simp [row_map]
 refine z _ ?_
 clear z Z
 refine AT_block ?_
 refine AT_loop_q [0,1,2,15,16,17] [] (fun j s => ∃ k, k ≤ a.length ∧ sameTs a b = sameTs (a.drop k) (b.drop k) ∧ j = a.length - k ∧ s = { n := 32, tm := [(0, .v (.slice (a.map encTy)) none), (1, .v (.slice (b.map encTy)) none), (2, .v (.func 53 []) none), (15, .v (.slice (a.map encTy)) none), (16, .v (.int .i64 a.length) none), (17, .v (.int .i64 k) none)], bx := [], tb := [], sh := [], hint := [] }) (a.length) (by first | rfl | simp) ?_ ?_
 exact ⟨0, by simp⟩
 rintro j s ⟨k, hk, hc, rfl, rfl⟩ K3 hK3
 refine sr fun Z z => ?_
 simp [row_map]
 refine z _ ?_
 clear z Z
 refine AT_seq_k fun K4 hK4 => ?_
 refine AT_cond (g := none) rfl (fun hb18 => ?_) (fun hb18 => ?_)
 simp [row_map] at hb18
 refine AT_skip ?_
 refine hK4 _ ?_
 refine AT_seq_k fun K5 hK5 => ?_
 refine AT_block ?_
 refine sr fun Z z => ?_
 simp [row_map, hb18]
 refine z _ ?_
 clear z Z
 refine sr fun Z z => ?_
 have hkb : k < b.length := by omega
 have hda := List.drop_eq_getElem_cons hb18
 have hdb := List.drop_eq_getElem_cons hkb
 simp [row_map, hkb, hb18]
 refine z _ ?_
 clear z Z
 refine sr fun Z z => ?_
 simp [row_map, hb18]
 refine RVn_call (hs a[k] (by simp) b[k] (by simp)) ?_
 simp [row_map, hb18]
 refine z _ ?_
 clear z Z
 refine AT_cond (g := none) rfl (fun hb30 => ?_) (fun hb30 => ?_)
 simp [row_map, hb18] at hb30
 refine sr fun Z z => ?_
 simp [row_map, hb18, hb30]
 refine z _ ?_
 clear z Z
 refine AT_ret ?_
 simp [row_map, Tryz.f101]
 (· rw [hc, hda, hdb, sameTs_cons]; simp [hb30])
 simp [row_map, hb18] at hb30
 refine AT_skip ?_
 refine hK5 _ ?_
 refine AT_region_q fun Z z => ?_
 simp [row_map, hb18, hb30]
 repeat refine sg ?_
 refine z _ ?_
 clear z Z
 refine hK3 _ (by first | rfl | simp) (a.length - (k+1)) (by omega) ?_
 refine ⟨k+1, by omega, ?_, by omega, by simp⟩
 rw [hc, hda, hdb, sameTs_cons]; simp [hb30]
 simp [row_map] at hb18
 refine AT_exit ?_
 refine hK2 _ ?_
 refine sr fun Z z => ?_
 simp [row_map, hb18]
 refine z _ ?_
 clear z Z
 refine AT_ret ?_
 simp [row_map, Tryz.f101]
 (· rw [hc, List.drop_eq_nil_of_le hb18, List.drop_eq_nil_of_le (show b.length ≤ k by omega)]; simp [sameTs])

theorem c_slices_EqualFunc_api_Expr_api_Expr_api_Expr_api_Expr (a b : List Exp) (hl : a.length ≤ 1099511627776) (hs : ∀ x ∈ a, ∀ y ∈ b, Valid Tryz.prog (G0 g rnd) 49 [.agg (encE x), .agg (encE y)] (.bool (sameE x y))) : Valid Tryz.prog (G0 g rnd) 102 [.slice (a.map encE), .slice (b.map encE), .func 49 []] (.bool (sameEs a b)) := by

 refine valid_of [] Tryz.func102 rfl (by kernel_rfl) ?_
 refine sr fun Z z => ?_
 simp [row_map, Tryz.f102]
 refine z _ ?_
 clear z Z
 refine AT_seq_k fun K1 hK1 => ?_
 refine sr fun Z z => ?_
 simp [row_map]
 refine z _ ?_
 clear z Z
 refine AT_cond (g := none) rfl (fun hb14 => ?_) (fun hb14 => ?_)
 simp [row_map] at hb14
 refine sr fun Z z => ?_
 simp [row_map, hb14]
 refine z _ ?_
 clear z Z
 refine AT_ret ?_
 simp [row_map, Tryz.f102]
 (· rw [sameEs_len (show a.length ≠ b.length by omega)])
 simp [row_map] at hb14
 have hab : a.length = b.length := by omega
 refine AT_skip ?_
 refine hK1 _ ?_
 refine AT_seq_k fun K2 hK2 => ?_
 refine sr fun Z z => ?_
 simp [row_map]
 refine z _ ?_
 clear z Z
 refine AT_block ?_
 refine AT_loop_q [0,1,2,15,16,17] [] (fun j s => ∃ k, k ≤ a.length ∧ sameEs a b = sameEs (a.drop k) (b.drop k) ∧ j = a.length - k ∧ s = { n := 32, tm := [(0, .v (.slice (a.map encE)) none), (1, .v (.slice (b.map encE)) none), (2, .v (.func 49 []) none), (15, .v (.slice (a.map encE)) none), (16, .v (.int .i64 a.length) none), (17, .v (.int .i64 k) none)], bx := [], tb := [], sh := [], hint := [] }) (a.length) (by first | rfl | simp) ?_ ?_
 exact ⟨0, by simp⟩
 rintro j s ⟨k, hk, hc, rfl, rfl⟩ K3 hK3
 refine sr fun Z z => ?_
 simp [row_map]
 refine z _ ?_
 clear z Z
 refine AT_seq_k fun K4 hK4 => ?_
 refine AT_cond (g := none) rfl (fun hb18 => ?_) (fun hb18 => ?_)
 simp [row_map] at hb18
 refine AT_skip ?_
 refine hK4 _ ?_
 refine AT_seq_k fun K5 hK5 => ?_
 refine AT_block ?_
 refine sr fun Z z => ?_
 simp [row_map, hb18]
 refine z _ ?_
 clear z Z
 refine sr fun Z z => ?_
 have hkb : k < b.length := by omega
 have hda := List.drop_eq_getElem_cons hb18
 have hdb := List.drop_eq_getElem_cons hkb
 simp [row_map, hkb, hb18]
 refine z _ ?_
 clear z Z
 refine sr fun Z z => ?_
 simp [row_map, hb18]
 refine RVn_call (hs a[k] (by simp) b[k] (by simp)) ?_
 simp [row_map, hb18]
 refine z _ ?_
 clear z Z
 refine AT_cond (g := none) rfl (fun hb30 => ?_) (fun hb30 => ?_)
 simp [row_map, hb18] at hb30
 refine sr fun Z z => ?_
 simp [row_map, hb18, hb30]
 refine z _ ?_
 clear z Z
 refine AT_ret ?_
 simp [row_map, Tryz.f102]
 (· rw [hc, hda, hdb, sameEs_cons]; simp [hb30])
 simp [row_map, hb18] at hb30
 refine AT_skip ?_
 refine hK5 _ ?_
 refine AT_region_q fun Z z => ?_
 simp [row_map, hb18, hb30]
 repeat refine sg ?_
 refine z _ ?_
 clear z Z
 refine hK3 _ (by first | rfl | simp) (a.length - (k+1)) (by omega) ?_
 refine ⟨k+1, by omega, ?_, by omega, by simp⟩
 rw [hc, hda, hdb, sameEs_cons]; simp [hb30]
 simp [row_map] at hb18
 refine AT_exit ?_
 refine hK2 _ ?_
 refine sr fun Z z => ?_
 simp [row_map, hb18]
 refine z _ ?_
 clear z Z
 refine AT_ret ?_
 simp [row_map, Tryz.f102]
 (· rw [hc, List.drop_eq_nil_of_le hb18, List.drop_eq_nil_of_le (show b.length ≤ k by omega)]; simp [sameEs])

theorem c_expr_Same : ∀ e f : Exp, wtE e ≤ 1000000000 → Valid Tryz.prog (G0 g rnd) 49 [.agg (encE e), .agg (encE f)] (.bool (sameE e f)) := by
 intro e
 induction e using Exp.ind with
 | h kd n t ta l p ih =>
 intro f hw
 obtain ⟨kf, m, u, ua, ul, q⟩ := f
 have hw2 : n.length + 1 + wt t + wts ta + wtEs l ≤ 1000000000 := by simpa [wtE_mk] using hw
 have hln := wtEs_len l
 have hla := wts_len ta
 refine valid_of [] Tryz.func49 rfl (by kernel_rfl) ?_
 refine sr fun Z z => ?_
 simp [Tryz.f49]
 refine z _ ?_
 clear z Z
 cases h1 : (kd == kf)
 refine sr fun Z z => ?_
 simp [h1]
 refine z _ ?_
 clear z Z
 refine AT_ret ?_
 simp [Tryz.f49]
 (· simp [sameE, h1])
 cases h2 : (n == m)
 refine sr fun Z z => ?_
 simp [h1, h2]
 refine z _ ?_
 clear z Z
 refine AT_ret ?_
 simp [Tryz.f49]
 (· simp [sameE, h1, h2])
 cases h3 : (cmpT t u == 0)
 refine sr fun Z z => ?_
 simp [h1, h2, h3]
 refine RVn_call (c_types_Same g rnd t u (by omega)) ?_
 simp [h1, h2, h3]
 repeat refine sg ?_
 refine z _ ?_
 clear z Z
 refine AT_ret ?_
 simp [Tryz.f49]
 (· simp [sameE, h1, h2, h3])
 cases h4 : (sameTs ta ua)
 refine sr fun Z z => ?_
 simp [h1, h2, h3, h4]
 refine RVn_call (c_types_Same g rnd t u (by omega)) ?_
 simp [h1, h2, h3, h4]
 repeat refine sg ?_
 refine RVn_call (c_slices_EqualFunc_api_Type_api_Type_api_Type_api_Type g rnd ta ua (by omega) (fun x hx y _ => c_types_Same g rnd x y (Nat.le_trans (wts_mem hx) (by omega)))) ?_
 simp [h1, h2, h3, h4]
 repeat refine sg ?_
 refine z _ ?_
 clear z Z
 refine AT_ret ?_
 simp [Tryz.f49]
 (· simp [sameE, h1, h2, h3, h4])
 refine sr fun Z z => ?_
 simp [h1, h2, h3, h4]
 refine RVn_call (c_types_Same g rnd t u (by omega)) ?_
 simp [h1, h2, h3, h4]
 repeat refine sg ?_
 refine RVn_call (c_slices_EqualFunc_api_Type_api_Type_api_Type_api_Type g rnd ta ua (by omega) (fun x hx y _ => c_types_Same g rnd x y (Nat.le_trans (wts_mem hx) (by omega)))) ?_
 simp [h1, h2, h3, h4]
 repeat refine sg ?_
 refine RVn_call (c_slices_EqualFunc_api_Expr_api_Expr_api_Expr_api_Expr g rnd l ul (by omega) (fun x hx y _ => ih x hx y (Nat.le_trans (wtEs_mem hx) (by omega)))) ?_
 simp [h1, h2, h3, h4]
 repeat refine sg ?_
 refine z _ ?_
 clear z Z
 refine AT_ret ?_
 simp [Tryz.f49]
 (· simp [sameE, h1, h2, h3, h4])

theorem c_ref05x_Same : ∀ e f : Exp, wtE e ≤ 1000000000 → Valid Tryz.prog (G0 g rnd) 42 [.agg (encE e), .agg (encE f)] (.bool (sameE e f)) := by
 intro e
 induction e using Exp.ind with
 | h kd n t ta l p ih =>
 intro f hw
 obtain ⟨kf, m, u, ua, ul, q⟩ := f
 have hw2 : n.length + 1 + wt t + wts ta + wtEs l ≤ 1000000000 := by simpa [wtE_mk] using hw
 have hln := wtEs_len l
 have hla := wts_len ta
 refine valid_of [] Tryz.func42 rfl (by kernel_rfl) ?_
 refine sr fun Z z => ?_
 simp [row_map, Tryz.f42]
 refine z _ ?_
 clear z Z
 refine AT_seq_k fun K1 hK1 => ?_
 cases h1 : (kd != kf)
 cases h2 : (n == m)
 refine sr fun Z z => ?_
 simp [row_map, h1, h2]
 refine z _ ?_
 clear z Z
 refine cT (by simp [h1, h2]) ?_
 refine sr fun Z z => ?_
 simp [row_map, h1, h2]
 refine z _ ?_
 clear z Z
 refine AT_ret ?_
 simp [row_map, Tryz.f42]
 (· simp [sameE, h2])
 cases h3 : (cmpT t u == 0)
 refine sr fun Z z => ?_
 simp [row_map, h1, h2, h3]
 refine RVn_call (c_ref04x_Same g rnd t u (by omega)) ?_
 simp [row_map, h1, h2, h3]
 repeat refine sg ?_
 refine z _ ?_
 clear z Z
 refine cT (by simp [h1, h2, h3]) ?_
 refine sr fun Z z => ?_
 simp [row_map, h1, h2, h3]
 refine z _ ?_
 clear z Z
 refine AT_ret ?_
 simp [row_map, Tryz.f42]
 (· simp [sameE, h3])
 cases h4 : (sameTs ta ua)
 refine sr fun Z z => ?_
 simp [row_map, h1, h2, h3, h4]
 refine RVn_call (c_ref04x_Same g rnd t u (by omega)) ?_
 simp [row_map, h1, h2, h3, h4]
 repeat refine sg ?_
 refine RVn_call (c_ref05x_sameTypes g rnd ta ua (by omega)) ?_
 simp [row_map, h1, h2, h3, h4]
 repeat refine sg ?_
 refine z _ ?_
 clear z Z
 refine cT (by simp [h1, h2, h3, h4]) ?_
 refine sr fun Z z => ?_
 simp [row_map, h1, h2, h3, h4]
 refine z _ ?_
 clear z Z
 refine AT_ret ?_
 simp [row_map, Tryz.f42]
 (· simp [sameE, h4])
 by_cases h5 : (l.length : Int) = ul.length
 have h5b : ((l.length : Int) != ul.length) = false := by simpa using h5
 refine sr fun Z z => ?_
 simp [row_map, h1, h2, h3, h4, h5b]
 refine RVn_call (c_ref04x_Same g rnd t u (by omega)) ?_
 simp [row_map, h1, h2, h3, h4, h5b]
 repeat refine sg ?_
 refine RVn_call (c_ref05x_sameTypes g rnd ta ua (by omega)) ?_
 simp [row_map, h1, h2, h3, h4, h5b]
 repeat refine sg ?_
 refine z _ ?_
 clear z Z
 refine cF (by simp [h1, h2, h3, h4, h5b]) ?_
 refine AT_skip ?_
 refine hK1 _ ?_
 refine AT_seq_k fun K2 hK2 => ?_
 refine sr fun Z z => ?_
 simp [row_map, h1, h2, h3, h4, h5b]
 refine z _ ?_
 clear z Z
 refine AT_block ?_
 refine AT_loop_q [2,3,5] [2,3] (fun j s => ∃ k, k ≤ l.length ∧ sameEs l ul = sameEs (l.drop k) (ul.drop k) ∧ j = l.length - k ∧ s = { n := 62, tm := [(2, .lp 2 0), (3, .lp 3 0), (5, .v (.int .i64 k) none)], bx := [(2, encE (.mk kd n t ta l p)), (3, encE (.mk kf m u ua ul q))], tb := [], sh := [], hint := [] }) (l.length) (by first | rfl | simp) ?_ ?_
 exact ⟨0, by simp⟩
 rintro j s ⟨k, hk, hc, rfl, rfl⟩ K3 hK3
 refine AT_seq_k fun K4 hK4 => ?_
 refine sr fun Z z => ?_
 simp [row_map, h1, h2, h3, h4, h5b]
 refine z _ ?_
 clear z Z
 refine AT_cond (g := none) rfl (fun hb47 => ?_) (fun hb47 => ?_)
 simp [row_map, h1, h2, h3, h4, h5b] at hb47
 refine AT_skip ?_
 refine hK4 _ ?_
 refine AT_seq_k fun K5 hK5 => ?_
 refine AT_block ?_
 refine AT_seq_draw Pt.mixed (by kernel_rfl) fun Z z => ?_
 have hku : k < ul.length := by omega
 have hm := wtEs_mem (l := l) (e := l[k]) (by simp)
 have hda := List.drop_eq_getElem_cons hb47
 have hdb := List.drop_eq_getElem_cons hku
 simp [row_map, hku, h1, h2, h3, h4, h5b, hb47]
 refine RVdn_call (ih l[k] (by simp) ul[k] (by omega)) ?_
 simp [row_map, hku, h1, h2, h3, h4, h5b, hb47]
 refine z _ ?_
 clear z Z
 refine AT_cond (g := none) rfl (fun hb61 => ?_) (fun hb61 => ?_)
 simp [row_map, h1, h2, h3, h4, h5b, hb47] at hb61
 refine sr fun Z z => ?_
 simp [row_map, h1, h2, h3, h4, h5b, hb47, hb61]
 refine z _ ?_
 clear z Z
 refine AT_ret ?_
 simp [row_map, Tryz.f42]
 (· have he : sameE (.mk kd n t ta l p) (.mk kf m u ua ul q) = sameEs l ul := by simp [sameE, show (kd == kf) = true by simpa using h1, h2, h3, h4]
    rw [he, hc, hda, hdb, sameEs_cons]; simp [hb61])
 simp [row_map, h1, h2, h3, h4, h5b, hb47] at hb61
 refine AT_skip ?_
 refine hK5 _ ?_
 refine AT_region_q fun Z z => ?_
 simp [row_map, h1, h2, h3, h4, h5b, hb47, hb61]
 repeat refine sg ?_
 refine z _ ?_
 clear z Z
 refine hK3 _ (by first | rfl | simp) (l.length - (k+1)) (by omega) ?_
 refine ⟨k+1, by omega, ?_, by omega, by simp⟩
 rw [hc, hda, hdb, sameEs_cons]; simp [hb61]
 simp [row_map, h1, h2, h3, h4, h5b] at hb47
 refine AT_exit ?_
 refine hK2 _ ?_
 refine sr fun Z z => ?_
 simp [row_map, h1, h2, h3, h4, h5b, hb47]
 refine z _ ?_
 clear z Z
 refine AT_ret ?_
 simp [row_map, Tryz.f42]
 (· have he : sameE (.mk kd n t ta l p) (.mk kf m u ua ul q) = sameEs l ul := by simp [sameE, show (kd == kf) = true by simpa using h1, h2, h3, h4]
    rw [he, hc, List.drop_eq_nil_of_le hb47, List.drop_eq_nil_of_le (show ul.length ≤ k by omega)]; simp [sameEs])
 have h5b : ((l.length : Int) != ul.length) = true := by simpa using h5
 refine sr fun Z z => ?_
 simp [row_map, h1, h2, h3, h4, h5b]
 refine RVn_call (c_ref04x_Same g rnd t u (by omega)) ?_
 simp [row_map, h1, h2, h3, h4, h5b]
 repeat refine sg ?_
 refine RVn_call (c_ref05x_sameTypes g rnd ta ua (by omega)) ?_
 simp [row_map, h1, h2, h3, h4, h5b]
 repeat refine sg ?_
 refine z _ ?_
 clear z Z
 refine cT (by simp [h1, h2, h3, h4, h5b]) ?_
 refine sr fun Z z => ?_
 simp [row_map, h1, h2, h3, h4, h5b]
 refine z _ ?_
 clear z Z
 refine AT_ret ?_
 simp [row_map, Tryz.f42]
 (· simp [sameE, sameEs_len (show l.length ≠ ul.length by omega)])
 refine sr fun Z z => ?_
 simp [row_map, h1]
 refine z _ ?_
 clear z Z
 refine cT (by simp [h1]) ?_
 refine sr fun Z z => ?_
 simp [row_map, h1]
 refine z _ ?_
 clear z Z
 refine AT_ret ?_
 simp [row_map, Tryz.f42]
 (· simp [sameE, show (kd == kf) = false by simpa using h1])

end Go.Proofs.YtdifpfehijnmiaaGreatDoor
end

section
/- Contracts: types substituted, variables replaced. -/
set_option linter.all false
set_option maxHeartbeats 1000000
set_option maxRecDepth 10000
namespace Go.Proofs.YtdifpfehijnmiaaGreatDoor
open Go Go.Pv
variable (g : Nat → Option (List AV)) (rnd : Bool)

theorem c_expr_mapped (F : Exp → Exp) (fid : Nat) (caps : List AV) (hf : ∀ k n t a l p, wt t ≤ 1000000000 → wts a ≤ 1000000000 → Valid Tryz.prog (G0 g rnd) fid ([.agg (encE (.mk k n t a l p))] ++ caps) (.agg (encE (F (.mk k n t a l p))))) : ∀ e : Exp, wtE e ≤ 1000000000 → Valid Tryz.prog (G0 g rnd) 141 [.agg (encE e), .func fid caps] (.agg (encE (mapE F e))) := by
 intro e
 induction e using Exp.ind with
 | h kd n t ta l p ih =>
 intro hw
 have hw2 : n.length + 1 + wt t + wts ta + wtEs l ≤ 1000000000 := by simpa [wtE_mk] using hw
 have hln := wtEs_len l
 have hla := wts_len ta
 refine valid_of [(5, 33)] Tryz.func141 rfl (by kernel_rfl) ?_
 refine sr fun Z z => ?_
 simp [row_map, encE_take6, encE_drop7, Tryz.f141]
 refine z _ ?_
 clear z Z
 refine sr fun Z z => ?_
 simp [row_map, encE_take6, encE_drop7]
 refine z _ ?_
 clear z Z
 refine AT_seq_k fun K1 hK1 => ?_
 refine sr fun Z z => ?_
 simp [row_map, encE_take6, encE_drop7]
 refine z _ ?_
 clear z Z
 refine AT_block ?_
 refine AT_loop_q [1,2,4,5,9,10,11] [2,4] (fun j s => ∃ k, k ≤ l.length ∧ j = l.length - k ∧ s = { n := 27, tm := [(1, .v (.func fid caps) none), (2, .lp 2 0), (4, .lp 4 0), (5, .v (.slice (((l.take k).map (mapE F)).map encE)) (some (5, 33))), (9, .v (.slice (l.map encE)) none), (10, .v (.int .i64 l.length) none), (11, .v (.int .i64 k) none)], bx := [(2, encE (.mk kd n t ta l p)), (4, [.int .i64 0, .str [], .str [], .slice [], .int .i64 0, .slice [], .slice [], .int .i64 0])], tb := [], sh := [], hint := [(5, 33)] }) (l.length) (by first | rfl | simp) ?_ ?_
 exact ⟨0, by simp⟩
 rintro j s ⟨k, hk, rfl, rfl⟩ K2 hK2
 refine sr fun Z z => ?_
 simp [row_map, encE_take6, encE_drop7]
 refine z _ ?_
 clear z Z
 refine AT_seq_k fun K3 hK3 => ?_
 refine AT_cond (g := none) rfl (fun hb12 => ?_) (fun hb12 => ?_)
 simp [row_map, encE_take6, encE_drop7] at hb12
 refine AT_skip ?_
 refine hK3 _ ?_
 refine AT_seq_k fun K4 hK4 => ?_
 refine AT_block ?_
 refine sr fun Z z => ?_
 simp [row_map, encE_take6, encE_drop7, hb12]
 refine z _ ?_
 clear z Z
 refine AT_region_q fun Z z => ?_
 simp [row_map, encE_take6, encE_drop7, hb12]
 refine RVn_call (ih l[k] (by simp) (by have := wtEs_mem (l := l) (e := l[k]) (by simp); omega)) ?_
 simp [row_map, encE_take6, encE_drop7, hb12]
 repeat refine sg ?_
 refine z _ ?_
 clear z Z
 refine hK4 _ ?_
 refine AT_region_q fun Z z => ?_
 simp [row_map, encE_take6, encE_drop7, hb12]
 repeat refine sg ?_
 refine z _ ?_
 clear z Z
 refine hK2 _ (by first | rfl | simp) (l.length - (k+1)) (by omega) ?_
 have hs2 := take_map_succ (encE ∘ mapE F) l k hb12
 exact ⟨k+1, by omega, by omega, by simp [hs2]⟩
 simp [row_map, encE_take6, encE_drop7] at hb12
 refine AT_exit ?_
 refine hK1 _ ?_
 refine sr fun Z z => ?_
 simp [row_map, encE_take6, encE_drop7, hb12]
 refine z _ ?_
 clear z Z
 refine sr fun Z z => ?_
 try rw [List.take_of_length_le (by simpa using hb12)]
 simp [row_map, encE_take6, encE_drop7, hb12]
 refine RVn_call ((by have h := hf kd n t ta (l.map (mapE F)) p (by omega) (by omega); rw [encE_mk, List.map_map] at h; exact h)) ?_
 simp [row_map, encE_take6, encE_drop7, hb12]
 refine z _ ?_
 clear z Z
 refine AT_ret ?_
 simp [row_map, encE_take6, encE_drop7, Tryz.f141]
 rw [mapE_mk]

theorem c_expr_Subst_1 (ns : List Str) (as_ : List Ty) (hns : ns.length ≤ 1099511627776) (has : ∀ a ∈ as_, wt a ≤ 1099511627776) (hal : as_.length ≤ 1099511627776) (kd : Int) (n : Str) (t : Ty) (ta : List Ty) (l : List Exp) (p : Int) (hwt : wt t ≤ 1000000000) (hwa : wts ta ≤ 1000000000) : Valid Tryz.prog (G0 g rnd) 142 [.agg (encE (.mk kd n t ta l p)), .ro [.slice (ns.map encS)], .ro [.slice (as_.map encTy)]] (.agg (encE (subF ns as_ (.mk kd n t ta l p)))) := by
 have hla := wts_len ta
 refine valid_of [] Tryz.func142 rfl (by kernel_rfl) ?_
 refine sr fun Z z => ?_
 simp [encE_mk, encTy_def, Tryz.f142]
 refine z _ ?_
 clear z Z
 refine AT_seq_draw Pt.mixed (by kernel_rfl) fun Z z => ?_
 simp [encE_mk, encTy_def]
 refine RVdn_call ((by have h := c_types_Subst g rnd ns as_ hns has hal t (by omega); simp only [encTy_def] at h; exact h)) ?_
 simp [encE_mk, encTy_def]
 refine RVdn_call (c_types_All g rnd ta (ns.map encS) (as_.map encTy) (sub ns as_) (by omega) (fun x hx => c_types_Subst g rnd ns as_ hns has hal x (Nat.le_trans (wts_mem hx) (by omega)))) ?_
 simp [encE_mk, encTy_def]
 refine z _ ?_
 clear z Z
 refine sr fun Z z => ?_
 simp [encE_mk, encTy_def]
 refine z _ ?_
 clear z Z
 refine AT_ret ?_
 simp [encE_mk, encTy_def, Tryz.f142]
 simp [subF, encE_mk, subs_map, encTy_def]

theorem c_expr_Subst (ns : List Str) (as_ : List Ty) (hns : ns.length ≤ 1099511627776) (has : ∀ a ∈ as_, wt a ≤ 1099511627776) (hal : as_.length ≤ 1099511627776) (e : Exp) (hw : wtE e ≤ 1000000000) : Valid Tryz.prog (G0 g rnd) 119 [.agg (encE e), .slice (ns.map encS), .slice (as_.map encTy)] (.agg (encE (subE ns as_ e))) := by

 refine valid_of [(200004, 0), (200005, 0)] Tryz.func119 rfl (by kernel_rfl) ?_
 refine sr fun Z z => ?_
 simp [Tryz.f119]
 refine z _ ?_
 clear z Z
 refine sr fun Z z => ?_
 simp
 refine RVn_call ((by have h := c_expr_mapped g rnd (subF ns as_) 142 [.ro [.slice (ns.map encS)], .ro [.slice (as_.map encTy)]] (fun k n t a l p h1 h2 => c_expr_Subst_1 g rnd ns as_ hns has hal k n t a l p h1 h2) e hw; rw [mapE_sub] at h; exact h)) ?_
 simp
 refine z _ ?_
 clear z Z
 refine AT_ret ?_
 simp [Tryz.f119]

theorem c_expr_Clone (e : Exp) (hw : wtE e ≤ 1000000000) : Valid Tryz.prog (G0 g rnd) 76 [.agg (encE e)] (.agg (encE e)) := by

 refine valid_of [] Tryz.func76 rfl (by kernel_rfl) ?_
 refine sr fun Z z => ?_
 simp [Tryz.f76]
 refine z _ ?_
 clear z Z
 refine sr fun Z z => ?_
 simp
 refine RVn_call ((by have h := c_expr_Subst g rnd [] [] (by simp) (by simp) (by simp) e hw; rw [subE_nil] at h; exact h : Valid Tryz.prog (G0 g rnd) 119 [.agg (encE e), .slice [], .slice []] (.agg (encE e)))) ?_
 simp
 refine z _ ?_
 clear z Z
 refine AT_ret ?_
 simp [Tryz.f76]

end Go.Proofs.YtdifpfehijnmiaaGreatDoor
end

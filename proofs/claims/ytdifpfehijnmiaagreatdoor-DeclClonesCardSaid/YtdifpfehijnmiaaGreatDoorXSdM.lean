import Derived.Test.YtdifpfehijnmiaaGreatDoorPt
import Derived.Test.YtdifpfehijnmiaaGreatDoorPvPb
import Derived.Test.YtdifpfehijnmiaaGreatDoorPvY
import Derived.Test.YtdifpfehijnmiaaGreatDoorPvOm
import Derived.Test.YtdifpfehijnmiaaGreatDoorXNaB
import Derived.Test.YtdifpfehijnmiaaGreatDoorXDcK
import Derived.Test.YtdifpfehijnmiaaGreatDoorXShelf
import Derived.Laws.CopyOwn
import Derived.Laws.MakeOwn
import Derived.Deep.RegionLaw
import Derived.Lib.SlBuf
import Derived.WalkKit
import Derived.Great.Walk
section
/- Contracts: clones of declarations are new memory. -/
set_option linter.all false
set_option maxHeartbeats 1000000
set_option maxRecDepth 10000
namespace Go.Proofs.YtdifpfehijnmiaaGreatDoor
open Go Go.Pv
variable (g : Nat → Option (List AV)) (rnd : Bool)

def tyM : Nat → Nat | 0 => 28 | 1 => 33 | 2 => 51 | 3 => 53 | 4 => 30 | 5 => 9 | _ => 35
@[simp] theorem tyM_0 : tyM 0 = 28 := rfl
@[simp] theorem tyM_1 : tyM 1 = 33 := rfl
@[simp] theorem tyM_2 : tyM 2 = 51 := rfl
@[simp] theorem tyM_3 : tyM 3 = 53 := rfl
@[simp] theorem tyM_4 : tyM 4 = 30 := rfl
@[simp] theorem tyM_5 : tyM 5 = 9 := rfl
@[simp] theorem tyM_6 : tyM 6 = 35 := rfl
theorem c_decl_copies_api_Formal_m (cid : Nat) (l : List Fm) (hl : l.length ≤ 1000000000) (hc : ∀ x ∈ l, Valid Tryz.prog (G0 g rnd) cid [.agg (encF x)] (.agg ((encFR tyM 0) x))) : Valid Tryz.prog (G0 g rnd) 112 [.slice (l.map encF), .func cid []] (.fr 0 51 5 (l.map (encFR tyM 0))) := by
 have hez : esz Tryz.prog 51 = 5 := by kernel_rfl
 refine valid_of [(5, 51)] Tryz.func112 rfl (by kernel_rfl) ?_
 refine sr fun Z z => ?_
 simp [row_map, rows_take, Tryz.f112]
 refine z _ ?_
 clear z Z
 refine sr fun Z z => ?_
 simp [row_map, rows_take]
 refine z _ ?_
 clear z Z
 refine AT_seq_k fun K1 hK1 => ?_
 refine sr fun Z z => ?_
 simp [row_map, rows_take]
 refine z _ ?_
 clear z Z
 refine AT_block ?_
 refine AT_loop_q [1,5,8,9,10] [] (fun j s => ∃ k, k ≤ l.length ∧ j = l.length - k ∧ s = { n := 22, tm := [(1, .v (.func cid []) none), (5, .v (.slice ((l.take k).map (encFR tyM 0))) (some (5, 51))), (8, .v (.slice (l.map encF)) none), (9, .v (.int .i64 l.length) none), (10, .v (.int .i64 k) none)], bx := [], tb := [], sh := [], hint := [(5, 51)] }) (l.length) (by first | rfl | simp) ?_ ?_
 exact ⟨0, by simp⟩
 rintro j s ⟨k, hk, rfl, rfl⟩ K2 hK2
 refine sr fun Z z => ?_
 simp [row_map, rows_take]
 refine z _ ?_
 clear z Z
 refine AT_seq_k fun K3 hK3 => ?_
 refine AT_cond (g := none) rfl (fun hb11 => ?_) (fun hb11 => ?_)
 simp [row_map, rows_take] at hb11
 refine AT_skip ?_
 refine hK3 _ ?_
 refine AT_seq_k fun K4 hK4 => ?_
 refine AT_block ?_
 refine sr fun Z z => ?_
 simp [row_map, rows_take, hb11]
 refine z _ ?_
 clear z Z
 refine AT_region_q fun Z z => ?_
 simp [row_map, rows_take, hb11]
 refine RVn_call (hc l[k] (by simp)) ?_
 simp [row_map, rows_take, hb11]
 repeat refine sg ?_
 refine z _ ?_
 clear z Z
 refine hK4 _ ?_
 refine AT_region_q fun Z z => ?_
 simp [row_map, rows_take, hb11]
 repeat refine sg ?_
 refine z _ ?_
 clear z Z
 refine hK2 _ (by first | rfl | simp) (l.length - (k+1)) (by omega) ?_
 refine ⟨k+1, by omega, by omega, ?_⟩
 have hk9 : k < l.length := by omega
 simp [List.take_succ_eq_append_getElem hk9, -List.take_append_getElem]
 simp [row_map, rows_take] at hb11
 refine AT_exit ?_
 refine hK1 _ ?_
 refine AT_sealT 5 5 51 0 rfl (by rfl) ?_
 simp [AS.purge, hez]
 refine sr fun Z z => ?_
 simp [row_map, rows_take, hb11]
 refine z _ ?_
 clear z Z
 refine AT_ret ?_
 simp [row_map, rows_take, Tryz.f112]
 rw [List.take_of_length_le (by simp; omega)]

theorem c_decl_copies_api_Param_m (cid : Nat) (l : List Fm) (hl : l.length ≤ 1000000000) (hc : ∀ x ∈ l, Valid Tryz.prog (G0 g rnd) cid [.agg (encF x)] (.agg ((encFR tyM 0) x))) : Valid Tryz.prog (G0 g rnd) 114 [.slice (l.map encF), .func cid []] (.fr 0 53 5 (l.map (encFR tyM 0))) := by
 have hez : esz Tryz.prog 53 = 5 := by kernel_rfl
 refine valid_of [(5, 53)] Tryz.func114 rfl (by kernel_rfl) ?_
 refine sr fun Z z => ?_
 simp [row_map, rows_take, Tryz.f114]
 refine z _ ?_
 clear z Z
 refine sr fun Z z => ?_
 simp [row_map, rows_take]
 refine z _ ?_
 clear z Z
 refine AT_seq_k fun K1 hK1 => ?_
 refine sr fun Z z => ?_
 simp [row_map, rows_take]
 refine z _ ?_
 clear z Z
 refine AT_block ?_
 refine AT_loop_q [1,5,8,9,10] [] (fun j s => ∃ k, k ≤ l.length ∧ j = l.length - k ∧ s = { n := 22, tm := [(1, .v (.func cid []) none), (5, .v (.slice ((l.take k).map (encFR tyM 0))) (some (5, 53))), (8, .v (.slice (l.map encF)) none), (9, .v (.int .i64 l.length) none), (10, .v (.int .i64 k) none)], bx := [], tb := [], sh := [], hint := [(5, 53)] }) (l.length) (by first | rfl | simp) ?_ ?_
 exact ⟨0, by simp⟩
 rintro j s ⟨k, hk, rfl, rfl⟩ K2 hK2
 refine sr fun Z z => ?_
 simp [row_map, rows_take]
 refine z _ ?_
 clear z Z
 refine AT_seq_k fun K3 hK3 => ?_
 refine AT_cond (g := none) rfl (fun hb11 => ?_) (fun hb11 => ?_)
 simp [row_map, rows_take] at hb11
 refine AT_skip ?_
 refine hK3 _ ?_
 refine AT_seq_k fun K4 hK4 => ?_
 refine AT_block ?_
 refine sr fun Z z => ?_
 simp [row_map, rows_take, hb11]
 refine z _ ?_
 clear z Z
 refine AT_region_q fun Z z => ?_
 simp [row_map, rows_take, hb11]
 refine RVn_call (hc l[k] (by simp)) ?_
 simp [row_map, rows_take, hb11]
 repeat refine sg ?_
 refine z _ ?_
 clear z Z
 refine hK4 _ ?_
 refine AT_region_q fun Z z => ?_
 simp [row_map, rows_take, hb11]
 repeat refine sg ?_
 refine z _ ?_
 clear z Z
 refine hK2 _ (by first | rfl | simp) (l.length - (k+1)) (by omega) ?_
 refine ⟨k+1, by omega, by omega, ?_⟩
 have hk9 : k < l.length := by omega
 simp [List.take_succ_eq_append_getElem hk9, -List.take_append_getElem]
 simp [row_map, rows_take] at hb11
 refine AT_exit ?_
 refine hK1 _ ?_
 refine AT_sealT 5 5 53 0 rfl (by rfl) ?_
 simp [AS.purge, hez]
 refine sr fun Z z => ?_
 simp [row_map, rows_take, hb11]
 refine z _ ?_
 clear z Z
 refine AT_ret ?_
 simp [row_map, rows_take, Tryz.f114]
 rw [List.take_of_length_le (by simp; omega)]

theorem c_decl_copies_api_Sig_m (cid : Nat) (l : List Sg) (hl : l.length ≤ 1000000000) (hc : ∀ x ∈ l, Valid Tryz.prog (G0 g rnd) cid [.agg (encG x)] (.agg ((encGR tyM 0) x))) : Valid Tryz.prog (G0 g rnd) 116 [.slice (l.map encG), .func cid []] (.fr 0 30 7 (l.map (encGR tyM 0))) := by
 have hez : esz Tryz.prog 30 = 7 := by kernel_rfl
 refine valid_of [(5, 30)] Tryz.func116 rfl (by kernel_rfl) ?_
 refine sr fun Z z => ?_
 simp [row_map, rows_take, Tryz.f116]
 refine z _ ?_
 clear z Z
 refine sr fun Z z => ?_
 simp [row_map, rows_take]
 refine z _ ?_
 clear z Z
 refine AT_seq_k fun K1 hK1 => ?_
 refine sr fun Z z => ?_
 simp [row_map, rows_take]
 refine z _ ?_
 clear z Z
 refine AT_block ?_
 refine AT_loop_q [1,5,8,9,10] [] (fun j s => ∃ k, k ≤ l.length ∧ j = l.length - k ∧ s = { n := 22, tm := [(1, .v (.func cid []) none), (5, .v (.slice ((l.take k).map (encGR tyM 0))) (some (5, 30))), (8, .v (.slice (l.map encG)) none), (9, .v (.int .i64 l.length) none), (10, .v (.int .i64 k) none)], bx := [], tb := [], sh := [], hint := [(5, 30)] }) (l.length) (by first | rfl | simp) ?_ ?_
 exact ⟨0, by simp⟩
 rintro j s ⟨k, hk, rfl, rfl⟩ K2 hK2
 refine sr fun Z z => ?_
 simp [row_map, rows_take]
 refine z _ ?_
 clear z Z
 refine AT_seq_k fun K3 hK3 => ?_
 refine AT_cond (g := none) rfl (fun hb11 => ?_) (fun hb11 => ?_)
 simp [row_map, rows_take] at hb11
 refine AT_skip ?_
 refine hK3 _ ?_
 refine AT_seq_k fun K4 hK4 => ?_
 refine AT_block ?_
 refine sr fun Z z => ?_
 simp [row_map, rows_take, hb11]
 refine z _ ?_
 clear z Z
 refine AT_region_q fun Z z => ?_
 simp [row_map, rows_take, hb11]
 refine RVn_call (hc l[k] (by simp)) ?_
 simp [row_map, rows_take, hb11]
 repeat refine sg ?_
 refine z _ ?_
 clear z Z
 refine hK4 _ ?_
 refine AT_region_q fun Z z => ?_
 simp [row_map, rows_take, hb11]
 repeat refine sg ?_
 refine z _ ?_
 clear z Z
 refine hK2 _ (by first | rfl | simp) (l.length - (k+1)) (by omega) ?_
 refine ⟨k+1, by omega, by omega, ?_⟩
 have hk9 : k < l.length := by omega
 simp [List.take_succ_eq_append_getElem hk9, -List.take_append_getElem]
 simp [row_map, rows_take] at hb11
 refine AT_exit ?_
 refine hK1 _ ?_
 refine AT_sealT 5 5 30 0 rfl (by rfl) ?_
 simp [AS.purge, hez]
 refine sr fun Z z => ?_
 simp [row_map, rows_take, hb11]
 refine z _ ?_
 clear z Z
 refine AT_ret ?_
 simp [row_map, rows_take, Tryz.f116]
 rw [List.take_of_length_le (by simp; omega)]

theorem c_decl_copies_api_Decl_m (cid : Nat) (l : List Dc) (hl : l.length ≤ 1000000000) (hc : ∀ x ∈ l, Valid Tryz.prog (G0 g rnd) cid [.agg (encD x)] (.agg ((encDR tyM 0) x))) : Valid Tryz.prog (G0 g rnd) 74 [.slice (l.map encD), .func cid []] (.fr 0 35 23 (l.map (encDR tyM 0))) := by
 have hez : esz Tryz.prog 35 = 23 := by kernel_rfl
 refine valid_of [(5, 35)] Tryz.func74 rfl (by kernel_rfl) ?_
 refine sr fun Z z => ?_
 simp [row_map, rows_take, Tryz.f74]
 refine z _ ?_
 clear z Z
 refine sr fun Z z => ?_
 simp [row_map, rows_take]
 refine z _ ?_
 clear z Z
 refine AT_seq_k fun K1 hK1 => ?_
 refine sr fun Z z => ?_
 simp [row_map, rows_take]
 refine z _ ?_
 clear z Z
 refine AT_block ?_
 refine AT_loop_q [1,5,8,9,10] [] (fun j s => ∃ k, k ≤ l.length ∧ j = l.length - k ∧ s = { n := 22, tm := [(1, .v (.func cid []) none), (5, .v (.slice ((l.take k).map (encDR tyM 0))) (some (5, 35))), (8, .v (.slice (l.map encD)) none), (9, .v (.int .i64 l.length) none), (10, .v (.int .i64 k) none)], bx := [], tb := [], sh := [], hint := [(5, 35)] }) (l.length) (by first | rfl | simp) ?_ ?_
 exact ⟨0, by simp⟩
 rintro j s ⟨k, hk, rfl, rfl⟩ K2 hK2
 refine sr fun Z z => ?_
 simp [row_map, rows_take]
 refine z _ ?_
 clear z Z
 refine AT_seq_k fun K3 hK3 => ?_
 refine AT_cond (g := none) rfl (fun hb11 => ?_) (fun hb11 => ?_)
 simp [row_map, rows_take] at hb11
 refine AT_skip ?_
 refine hK3 _ ?_
 refine AT_seq_k fun K4 hK4 => ?_
 refine AT_block ?_
 refine sr fun Z z => ?_
 simp [row_map, rows_take, hb11]
 refine z _ ?_
 clear z Z
 refine AT_region_q fun Z z => ?_
 simp [row_map, rows_take, hb11]
 refine RVn_call (hc l[k] (by simp)) ?_
 simp [row_map, rows_take, hb11]
 repeat refine sg ?_
 refine z _ ?_
 clear z Z
 refine hK4 _ ?_
 refine AT_region_q fun Z z => ?_
 simp [row_map, rows_take, hb11]
 repeat refine sg ?_
 refine z _ ?_
 clear z Z
 refine hK2 _ (by first | rfl | simp) (l.length - (k+1)) (by omega) ?_
 refine ⟨k+1, by omega, by omega, ?_⟩
 have hk9 : k < l.length := by omega
 simp [List.take_succ_eq_append_getElem hk9, -List.take_append_getElem]
 simp [row_map, rows_take] at hb11
 refine AT_exit ?_
 refine hK1 _ ?_
 refine AT_sealT 5 5 35 0 rfl (by rfl) ?_
 simp [AS.purge, hez]
 refine sr fun Z z => ?_
 simp [row_map, rows_take, hb11]
 refine z _ ?_
 clear z Z
 refine AT_ret ?_
 simp [row_map, rows_take, Tryz.f74]
 rw [List.take_of_length_le (by simp; omega)]

theorem c_decl_cloneFormal_m (a : Fm) (hw : wtF a ≤ 1000000000) : Valid Tryz.prog (G0 g rnd) 113 [.agg (encF a)] (.agg (encFR tyM 0 a)) := by
 have hw2 : a.name.length + 1 + wt a.ty ≤ 1000000000 := hw
 refine valid_of [] Tryz.func113 rfl (by kernel_rfl) ?_
 refine sr fun Z z => ?_
 simp [encF, encFR, Tryz.f113]
 refine z _ ?_
 clear z Z
 refine sr fun Z z => ?_
 simp [encF, encFR]
 refine RVn_call ((by have h := c_types_Clone_m g rnd a.ty (by omega); simp only [encTy_def, encR_def] at h; exact h)) ?_
 simp [encF, encFR]
 refine z _ ?_
 clear z Z
 refine sr fun Z z => ?_
 simp [encF, encFR]
 refine z _ ?_
 clear z Z
 refine AT_ret ?_
 simp [encF, encFR, Tryz.f113]

theorem c_decl_cloneParam_m (a : Fm) (hw : wtF a ≤ 1000000000) : Valid Tryz.prog (G0 g rnd) 115 [.agg (encF a)] (.agg (encFR tyM 0 a)) := by
 have hw2 : a.name.length + 1 + wt a.ty ≤ 1000000000 := hw
 refine valid_of [] Tryz.func115 rfl (by kernel_rfl) ?_
 refine sr fun Z z => ?_
 simp [encF, encFR, Tryz.f115]
 refine z _ ?_
 clear z Z
 refine sr fun Z z => ?_
 simp [encF, encFR]
 refine RVn_call ((by have h := c_types_Clone_m g rnd a.ty (by omega); simp only [encTy_def, encR_def] at h; exact h)) ?_
 simp [encF, encFR]
 refine z _ ?_
 clear z Z
 refine sr fun Z z => ?_
 simp [encF, encFR]
 refine z _ ?_
 clear z Z
 refine AT_ret ?_
 simp [encF, encFR, Tryz.f115]

theorem c_decl_cloneSig_m (a : Sg) (hw : wtG a ≤ 1000000000) : Valid Tryz.prog (G0 g rnd) 117 [.agg (encG a)] (.agg (encGR tyM 0 a)) := by
 have hw2 : a.name.length + 1 + wtFs a.fms + wtFs a.pms + wt a.res ≤ 1000000000 := hw
 refine valid_of [] Tryz.func117 rfl (by kernel_rfl) ?_
 refine sr fun Z z => ?_
 simp [encG, encGR, Tryz.f117]
 refine z _ ?_
 clear z Z
 refine AT_seq_draw Pt.mixed (by kernel_rfl) fun Z z => ?_
 simp [encG, encGR]
 refine RVdn_call (c_decl_copies_api_Formal_m g rnd 113 a.fms (by have := wtFs_len a.fms; omega) (fun x hx => c_decl_cloneFormal_m g rnd x (by have := wtFs_mem hx; omega))) ?_
 simp [encG, encGR]
 refine RVdn_call (c_decl_copies_api_Param_m g rnd 115 a.pms (by have := wtFs_len a.pms; omega) (fun x hx => c_decl_cloneParam_m g rnd x (by have := wtFs_mem hx; omega))) ?_
 simp [encG, encGR]
 refine RVdn_call ((by have h := c_types_Clone_m g rnd a.res (by omega); simp only [encTy_def, encR_def] at h; exact h)) ?_
 simp [encG, encGR]
 refine z _ ?_
 clear z Z
 refine sr fun Z z => ?_
 simp [encG, encGR]
 refine z _ ?_
 clear z Z
 refine AT_ret ?_
 simp [encG, encGR, Tryz.f117]

theorem c_slices_Clone_string_string_m (l : List Str) (hl : l.length ≤ 1000000000) : Valid Tryz.prog (G0 g rnd) 118 [.slice (l.map encS)] (.fr 0 9 1 (l.map encS)) := by
 have hez : esz Tryz.prog 9 = 1 := by kernel_rfl
 refine valid_of [(5, 9)] Tryz.func118 rfl (by kernel_rfl) ?_
 refine sr fun Z z => ?_
 simp [encS, Tryz.f118]
 refine z _ ?_
 clear z Z
 refine AT_seq_k fun K1 hK1 => ?_
 rcases l with _ | ⟨x, l⟩
 refine sr fun Z z => ?_
 simp [encS]
 refine z _ ?_
 clear z Z
 refine AT_condU rfl ?_ ?_
 refine sr fun Z z => ?_
 simp [encS]
 refine z _ ?_
 clear z Z
 refine AT_str (Gives.emptyFr 2 0 9 1 rfl) ?_
 refine AT_ret ?_
 simp [encS, Tryz.f118]
 refine AT_skip ?_
 refine hK1 _ ?_
 refine sr fun Z z => ?_
 simp [encS]
 refine z _ ?_
 clear z Z
 refine AT_str (Gives.emptyFr 2 0 9 1 rfl) ?_
 refine AT_ret ?_
 simp [encS, Tryz.f118]
 refine sr fun Z z => ?_
 simp [encS]
 refine z _ ?_
 clear z Z
 refine cF (by simp) ?_
 refine AT_skip ?_
 refine hK1 _ ?_
 refine sr fun Z z => ?_
 simp [encS]
 repeat refine sg ?_
 refine z _ ?_
 clear z Z
 refine AT_sealT 2 5 9 0 rfl (by rfl) ?_
 simp [AS.purge, hez]
 refine AT_ret ?_
 simp [encS, Tryz.f118]

theorem c_decl_cloneDecl_m (a : Dc) (hw : wtD a ≤ 1000000000) : Valid Tryz.prog (G0 g rnd) 75 [.agg (encD a)] (.agg (encDR tyM 0 a)) := by
 have hw2 : a.name.length + 1 + wtFs a.fms + wtFs a.flds + wtGs a.sigs + a.recv.length + wtSs a.vars + wtG a.sig + wtE a.body ≤ 1000000000 := hw
 refine valid_of [] Tryz.func75 rfl (by kernel_rfl) ?_
 refine sr fun Z z => ?_
 simp [encD, encDR, Tryz.f75]
 refine z _ ?_
 clear z Z
 refine AT_seq_draw Pt.mixed (by kernel_rfl) fun Z z => ?_
 simp [encD, encDR]
 refine RVdn_call (c_decl_copies_api_Formal_m g rnd 113 a.fms (by have := wtFs_len a.fms; omega) (fun x hx => c_decl_cloneFormal_m g rnd x (by have := wtFs_mem hx; omega))) ?_
 simp [encD, encDR]
 refine RVdn_call (c_decl_copies_api_Param_m g rnd 115 a.flds (by have := wtFs_len a.flds; omega) (fun x hx => c_decl_cloneParam_m g rnd x (by have := wtFs_mem hx; omega))) ?_
 simp [encD, encDR]
 refine RVdn_call (c_decl_copies_api_Sig_m g rnd 117 a.sigs (by have := wtGs_len a.sigs; omega) (fun x hx => c_decl_cloneSig_m g rnd x (by have := wtGs_mem hx; omega))) ?_
 simp [encD, encDR]
 refine z _ ?_
 clear z Z
 refine AT_seq_draw Pt.mixed (by kernel_rfl) fun Z z => ?_
 simp [encD, encDR]
 refine RVdn_call (c_slices_Clone_string_string_m g rnd a.vars (by have := wtSs_len a.vars; omega)) ?_
 simp [encD, encDR]
 refine RVdn_call ((by have h := c_decl_cloneSig_m g rnd a.sig (by omega); simp only [encG, encGR] at h; exact h)) ?_
 simp [encD, encDR]
 refine RVdn_call ((by have h := c_expr_Clone_m g rnd a.body (by omega); simp only [encE_def, encER_def] at h; exact h)) ?_
 simp [encD, encDR]
 refine z _ ?_
 clear z Z
 refine sr fun Z z => ?_
 simp [encD, encDR]
 refine z _ ?_
 clear z Z
 refine AT_ret ?_
 simp [encD, encDR, Tryz.f75]

theorem c_decl_Clone_m (a : Pg) (hw : wtPg a ≤ 1000000000) : Valid Tryz.prog (G0 g rnd) 23 [.agg (encPg a)] (.agg (encPR tyM 0 a)) := by
 have hw2 : wtDs a.decls + wtE a.main ≤ 1000000000 := hw
 refine valid_of [] Tryz.func23 rfl (by kernel_rfl) ?_
 refine sr fun Z z => ?_
 simp [encPg, encPR, Tryz.f23]
 refine z _ ?_
 clear z Z
 refine AT_seq_draw Pt.mixed (by kernel_rfl) fun Z z => ?_
 simp [encPg, encPR]
 refine RVdn_call (c_decl_copies_api_Decl_m g rnd 75 a.decls (by have := wtDs_len a.decls; omega) (fun x hx => c_decl_cloneDecl_m g rnd x (by have := wtDs_mem hx; omega))) ?_
 simp [encPg, encPR]
 refine RVdn_call ((by have h := c_expr_Clone_m g rnd a.main (by omega); simp only [encE_def, encER_def] at h; exact h)) ?_
 simp [encPg, encPR]
 refine z _ ?_
 clear z Z
 refine AT_ret ?_
 simp [encPg, encPR, Tryz.f23]

end Go.Proofs.YtdifpfehijnmiaaGreatDoor
end

section
/- The loops that change a clone, on real memory. -/
set_option linter.all false
set_option maxHeartbeats 1000000
set_option maxRecDepth 10000
namespace Go.Proofs.YtdifpfehijnmiaaGreatDoor
open Go Go.Pv
variable (g : Nat → Option (List AV)) (rnd : Bool)

open Go.RowKit
def findB (id : Nat) : Code → Option Code
  | .block i c => if i = id then some (.block i c) else findB id c
  | .seq x y => match findB id x with | some c => some c | none => findB id y
  | .loop c => findB id c
  | .cond _ x y => match findB id x with | some c => some c | none => findB id y
  | _ => none
def findR (id : Nat) : Code → Option Code
  | .region i ops d => if i = id then some (.region i ops d) else none
  | .block _ c => findR id c
  | .seq x y => match findR id x with | some c => some c | none => findR id y
  | .loop c => findR id c
  | .cond _ x y => match findR id x with | some c => some c | none => findR id y
  | _ => none
noncomputable def dB (id : Nat) : Code := (findB id (Tryz.f6.body.getD .skip)).getD .skip
noncomputable def dR (id : Nat) : Code := (findR id (Tryz.f6.body.getD .skip)).getD .skip
theorem wp_of_eq {P : Program} {c c' : Code} {Q : Exit → Act → World → Prop} {a : Act} {w : World} (h : c = c') (hw : c.wp P Q a w) : c'.wp P Q a w := h ▸ hw
theorem lit120 (ts : Array Value) (h : ts.size = 120) : ∃ q : Nat → Value, (∀ k, ts.getD k undef = q k) ∧ ts = #[q 0, q 1, q 2, q 3, q 4, q 5, q 6, q 7, q 8, q 9, q 10, q 11, q 12, q 13, q 14, q 15, q 16, q 17, q 18, q 19, q 20, q 21, q 22, q 23, q 24, q 25, q 26, q 27, q 28, q 29, q 30, q 31, q 32, q 33, q 34, q 35, q 36, q 37, q 38, q 39, q 40, q 41, q 42, q 43, q 44, q 45, q 46, q 47, q 48, q 49, q 50, q 51, q 52, q 53, q 54, q 55, q 56, q 57, q 58, q 59, q 60, q 61, q 62, q 63, q 64, q 65, q 66, q 67, q 68, q 69, q 70, q 71, q 72, q 73, q 74, q 75, q 76, q 77, q 78, q 79, q 80, q 81, q 82, q 83, q 84, q 85, q 86, q 87, q 88, q 89, q 90, q 91, q 92, q 93, q 94, q 95, q 96, q 97, q 98, q 99, q 100, q 101, q 102, q 103, q 104, q 105, q 106, q 107, q 108, q 109, q 110, q 111, q 112, q 113, q 114, q 115, q 116, q 117, q 118, q 119] := ⟨fun k => ts.getD k undef, fun _ => rfl, by have hl := arr_lit ts; rw [h] at hl; exact hl⟩
structure Fr (df : List Deferred) (x1 x4 : Value) (b3 i : Nat) (a : Act) : Prop where
  size : a.tmps.size = 120
  df : a.defers = df
  h1 : a.tmps.getD 1 undef = x1
  h3 : a.tmps.getD 3 undef = .pointer (some ⟨b3, 0, none⟩)
  h4 : a.tmps.getD 4 undef = x4
  h5 : a.tmps.getD 5 undef = .int .i64 i
structure Wr (lim : Lim) (b3 : Nat) (w0 w : World) : Prop where
  al : Altd lim 1 b3 7 w0.heap w.heap
  fr : w.os = w0.os ∧ w.tape = w0.tape ∧ w.output = w0.output ∧ w0.heap.size ≤ w.heap.size
structure Bx (w0 : World) (bd : Nat) (v2 v3 v4 v6 v9 v20 : Value) (w : World) : Prop where
  lo : w0.heap.size ≤ bd
  c2 : w.cell? ⟨bd, 2, none⟩ = some v2
  c3 : w.cell? ⟨bd, 3, none⟩ = some v3
  c4 : w.cell? ⟨bd, 4, none⟩ = some v4
  c6 : w.cell? ⟨bd, 6, none⟩ = some v6
  c9 : w.cell? ⟨bd, 9, none⟩ = some v9
  c20 : w.cell? ⟨bd, 20, none⟩ = some v20
theorem Wr.set {lim : Lim} {b3 : Nat} {w0 w : World} (h : Wr lim b3 w0 w) {b j : Nat} (hb : lim b = .reg 1) {s : ByteArray} (hc : cellAt w0.heap b j = some (.string s)) (u : ByteArray) (hu : u.size ≤ 7) : Wr lim b3 w0 (w.setCell ⟨b, j, none⟩ (.string u)) :=
  ⟨h.al.store (Nat.le_refl _) (.inr hb) hc (by omega), h.fr.1, h.fr.2.1, h.fr.2.2.1, by simp only [World.setCell, Array.size_modify]; exact h.fr.2.2.2⟩
theorem Bx.set {w0 w : World} {bd : Nat} {v2 v3 v4 v6 v9 v20 : Value} (h : Bx w0 bd v2 v3 v4 v6 v9 v20 w) {b j : Nat} (hb : b < w0.heap.size) (u : Value) : Bx w0 bd v2 v3 v4 v6 v9 v20 (w.setCell ⟨b, j, none⟩ u) := by
  have hlo := h.lo
  have hne : ∀ o : Nat, (⟨b, j, none⟩ : Addr) ≠ ⟨bd, o, none⟩ := fun o he => by injection he with he1; omega
  exact ⟨hlo, (World.cell?_setCell_other _ _ _ _ (hne _)).trans h.c2, (World.cell?_setCell_other _ _ _ _ (hne _)).trans h.c3, (World.cell?_setCell_other _ _ _ _ (hne _)).trans h.c4, (World.cell?_setCell_other _ _ _ _ (hne _)).trans h.c6, (World.cell?_setCell_other _ _ _ _ (hne _)).trans h.c9, (World.cell?_setCell_other _ _ _ _ (hne _)).trans h.c20⟩
theorem dcl_B2 {lim : Lim} {b3 i bd : Nat} {w0 : World} {df : List Deferred} {x1 x4 v2 v3 v4 v6 v9 v20 : Value} {p : Option Addr} {n c : Nat} {e : Nat} {rows : List (List AV)} (hv : v2 = .slice p n c) (hr : Rep lim w0.heap (.slice p n c) (.fr 1 e 5 rows)) (hn : n = rows.length) (hnl : n ≤ 1000000) (hz : ∀ x ∈ rows, x.length = 5) (hs : ∀ r ∈ rows, ∃ s, r[0]? = some (.str s)) (a : Act) (w : World) (hf : Fr df x1 x4 b3 i a) (hw : Wr lim b3 w0 w) (hp : a.tmps.getD 6 undef = .pointer (some ⟨bd, 0, none⟩)) (hb : Bx w0 bd v2 v3 v4 v6 v9 v20 w) (h0 : a.tmps.getD 7 undef = .int .i64 0) :
    (dB 2).wp Tryz.prog (fun e a2 w2 => e = .normal ∧ Fr df x1 x4 b3 i a2 ∧ Wr lim b3 w0 w2 ∧ a2.tmps.getD 6 undef = .pointer (some ⟨bd, 0, none⟩) ∧ Bx w0 bd v2 v3 v4 v6 v9 v20 w2) a w := by
  subst hv
  obtain ⟨ts, dq⟩ := a
  obtain ⟨f0, f2, f1, f3, f4, f5⟩ := hf
  replace f0 : ts.size = 120 := f0
  replace f2 : dq = df := f2
  replace f1 : ts.getD 1 undef = x1 := f1
  replace f3 : ts.getD 3 undef = .pointer (some ⟨b3, 0, none⟩) := f3
  replace f4 : ts.getD 4 undef = x4 := f4
  replace f5 : ts.getD 5 undef = .int .i64 i := f5
  obtain ⟨q, hq, hl2⟩ := lit120 ts f0
  rw [hq] at f1 f3 f4 f5 hp h0
  rw [f1, f3, f4, f5, hp, h0] at hl2
  clear hq f1 f3 f4 f5 hp h0
  subst hl2
  subst f2
  simp only [dB, findB, Tryz.f6, Option.getD_some, reduceIte, Nat.reduceEqDiff]
  go_wp2
  go_loopw [7] (fun i wr => ∃ m : Nat, m ≤ n ∧ i = .int .i64 m ∧ Hid (Wr lim b3 w0 wr) ∧ Hid (Bx w0 bd (.slice p n c) v3 v4 v6 v9 v20 wr))
    (fun i _ => n - (intOf i).toNat)
  case atStart => exact ⟨0, Nat.zero_le _, rfl, hw, hb⟩
  case round =>
    obtain ⟨m, hmn, rfl, hw1, hb1⟩ := hrel
    have hcc := hb1.out.c2
    rcases Nat.lt_or_ge m n with hmt | hmt
    · obtain ⟨b', cap, he, h3, h4, hreg, hkid⟩ := hr.kid (i := m) hz (List.getElem?_eq_getElem (by omega))
      rw [← hn] at he h3
      injection he with he1 _ he2
      subst he1; subst he2
      obtain ⟨s0, hs0⟩ := hs _ (List.getElem_mem (by omega : m < rows.length))
      obtain ⟨hs1, s1, hs2, -⟩ := NodeC.str (j := 0) hw1.out.al hkid hs0
      rw [Nat.add_zero] at hs1 hs2
      have hfz := NodeC.thaw hw1.out.al hkid (m * 5)
      have hlt := cellAt_lt hs1
      go_wp2
      exact ⟨⟨m + 1, by omega, by simp, hw1.out.set hreg hs1 _ (by decide), hb1.out.set hlt _⟩, by simp only [intOf]; omega⟩
    · go_wp2
      exact ⟨⟨rfl, rfl, rfl, rfl, rfl, rfl⟩, hw1.out, hn ▸ hb1.out⟩
theorem dcl_B4 {lim : Lim} {b3 i bd : Nat} {w0 : World} {df : List Deferred} {x1 x4 v2 v3 v4 v6 v9 v20 : Value} {p : Option Addr} {n c : Nat} {e : Nat} {rows : List (List AV)} (hv : v3 = .slice p n c) (hr : Rep lim w0.heap (.slice p n c) (.fr 1 e 5 rows)) (hn : n = rows.length) (hnl : n ≤ 1000000) (hz : ∀ x ∈ rows, x.length = 5) (hs : ∀ r ∈ rows, ∃ s, r[0]? = some (.str s)) (a : Act) (w : World) (hf : Fr df x1 x4 b3 i a) (hw : Wr lim b3 w0 w) (hp : a.tmps.getD 6 undef = .pointer (some ⟨bd, 0, none⟩)) (hb : Bx w0 bd v2 v3 v4 v6 v9 v20 w) (h0 : a.tmps.getD 8 undef = .int .i64 0) :
    (dB 4).wp Tryz.prog (fun e a2 w2 => e = .normal ∧ Fr df x1 x4 b3 i a2 ∧ Wr lim b3 w0 w2 ∧ a2.tmps.getD 6 undef = .pointer (some ⟨bd, 0, none⟩) ∧ Bx w0 bd v2 v3 v4 v6 v9 v20 w2) a w := by
  subst hv
  obtain ⟨ts, dq⟩ := a
  obtain ⟨f0, f2, f1, f3, f4, f5⟩ := hf
  replace f0 : ts.size = 120 := f0
  replace f2 : dq = df := f2
  replace f1 : ts.getD 1 undef = x1 := f1
  replace f3 : ts.getD 3 undef = .pointer (some ⟨b3, 0, none⟩) := f3
  replace f4 : ts.getD 4 undef = x4 := f4
  replace f5 : ts.getD 5 undef = .int .i64 i := f5
  obtain ⟨q, hq, hl2⟩ := lit120 ts f0
  rw [hq] at f1 f3 f4 f5 hp h0
  rw [f1, f3, f4, f5, hp, h0] at hl2
  clear hq f1 f3 f4 f5 hp h0
  subst hl2
  subst f2
  simp only [dB, findB, Tryz.f6, Option.getD_some, reduceIte, Nat.reduceEqDiff]
  go_wp2
  go_loopw [8] (fun i wr => ∃ m : Nat, m ≤ n ∧ i = .int .i64 m ∧ Hid (Wr lim b3 w0 wr) ∧ Hid (Bx w0 bd v2 (.slice p n c) v4 v6 v9 v20 wr))
    (fun i _ => n - (intOf i).toNat)
  case atStart => exact ⟨0, Nat.zero_le _, rfl, hw, hb⟩
  case round =>
    obtain ⟨m, hmn, rfl, hw1, hb1⟩ := hrel
    have hcc := hb1.out.c3
    rcases Nat.lt_or_ge m n with hmt | hmt
    · obtain ⟨b', cap, he, h3, h4, hreg, hkid⟩ := hr.kid (i := m) hz (List.getElem?_eq_getElem (by omega))
      rw [← hn] at he h3
      injection he with he1 _ he2
      subst he1; subst he2
      obtain ⟨s0, hs0⟩ := hs _ (List.getElem_mem (by omega : m < rows.length))
      obtain ⟨hs1, s1, hs2, -⟩ := NodeC.str (j := 0) hw1.out.al hkid hs0
      rw [Nat.add_zero] at hs1 hs2
      have hfz := NodeC.thaw hw1.out.al hkid (m * 5)
      have hlt := cellAt_lt hs1
      go_wp2
      exact ⟨⟨m + 1, by omega, by simp, hw1.out.set hreg hs1 _ (by decide), hb1.out.set hlt _⟩, by simp only [intOf]; omega⟩
    · go_wp2
      exact ⟨⟨rfl, rfl, rfl, rfl, rfl, rfl⟩, hw1.out, hn ▸ hb1.out⟩
theorem dcl_B6 {lim : Lim} {b3 i bd : Nat} {w0 : World} {df : List Deferred} {x1 x4 v2 v3 v4 v6 v9 v20 : Value} {p : Option Addr} {n c : Nat} {e : Nat} {rows : List (List AV)} (hv : v4 = .slice p n c) (hr : Rep lim w0.heap (.slice p n c) (.fr 1 e 7 rows)) (hn : n = rows.length) (hnl : n ≤ 1000000) (hz : ∀ x ∈ rows, x.length = 7) (hs : ∀ r ∈ rows, ∃ s, r[0]? = some (.str s)) (a : Act) (w : World) (hf : Fr df x1 x4 b3 i a) (hw : Wr lim b3 w0 w) (hp : a.tmps.getD 6 undef = .pointer (some ⟨bd, 0, none⟩)) (hb : Bx w0 bd v2 v3 v4 v6 v9 v20 w) (h0 : a.tmps.getD 9 undef = .int .i64 0) :
    (dB 6).wp Tryz.prog (fun e a2 w2 => e = .normal ∧ Fr df x1 x4 b3 i a2 ∧ Wr lim b3 w0 w2 ∧ a2.tmps.getD 6 undef = .pointer (some ⟨bd, 0, none⟩) ∧ Bx w0 bd v2 v3 v4 v6 v9 v20 w2) a w := by
  subst hv
  obtain ⟨ts, dq⟩ := a
  obtain ⟨f0, f2, f1, f3, f4, f5⟩ := hf
  replace f0 : ts.size = 120 := f0
  replace f2 : dq = df := f2
  replace f1 : ts.getD 1 undef = x1 := f1
  replace f3 : ts.getD 3 undef = .pointer (some ⟨b3, 0, none⟩) := f3
  replace f4 : ts.getD 4 undef = x4 := f4
  replace f5 : ts.getD 5 undef = .int .i64 i := f5
  obtain ⟨q, hq, hl2⟩ := lit120 ts f0
  rw [hq] at f1 f3 f4 f5 hp h0
  rw [f1, f3, f4, f5, hp, h0] at hl2
  clear hq f1 f3 f4 f5 hp h0
  subst hl2
  subst f2
  simp only [dB, findB, Tryz.f6, Option.getD_some, reduceIte, Nat.reduceEqDiff]
  go_wp2
  go_loopw [9] (fun i wr => ∃ m : Nat, m ≤ n ∧ i = .int .i64 m ∧ Hid (Wr lim b3 w0 wr) ∧ Hid (Bx w0 bd v2 v3 (.slice p n c) v6 v9 v20 wr))
    (fun i _ => n - (intOf i).toNat)
  case atStart => exact ⟨0, Nat.zero_le _, rfl, hw, hb⟩
  case round =>
    obtain ⟨m, hmn, rfl, hw1, hb1⟩ := hrel
    have hcc := hb1.out.c4
    rcases Nat.lt_or_ge m n with hmt | hmt
    · obtain ⟨b', cap, he, h3, h4, hreg, hkid⟩ := hr.kid (i := m) hz (List.getElem?_eq_getElem (by omega))
      rw [← hn] at he h3
      injection he with he1 _ he2
      subst he1; subst he2
      obtain ⟨s0, hs0⟩ := hs _ (List.getElem_mem (by omega : m < rows.length))
      obtain ⟨hs1, s1, hs2, -⟩ := NodeC.str (j := 0) hw1.out.al hkid hs0
      rw [Nat.add_zero] at hs1 hs2
      have hfz := NodeC.thaw hw1.out.al hkid (m * 7)
      have hlt := cellAt_lt hs1
      go_wp2
      exact ⟨⟨m + 1, by omega, by simp, hw1.out.set hreg hs1 _ (by decide), hb1.out.set hlt _⟩, by simp only [intOf]; omega⟩
    · go_wp2
      exact ⟨⟨rfl, rfl, rfl, rfl, rfl, rfl⟩, hw1.out, hn ▸ hb1.out⟩
theorem dcl_B8 {lim : Lim} {b3 i bd : Nat} {w0 : World} {df : List Deferred} {x1 x4 v2 v3 v4 v6 v9 v20 : Value} {p : Option Addr} {n c : Nat} {e : Nat} {rows : List (List AV)} (hv : v6 = .slice p n c) (hr : Rep lim w0.heap (.slice p n c) (.fr 1 e 1 rows)) (hn : n = rows.length) (hnl : n ≤ 1000000) (hz : ∀ x ∈ rows, x.length = 1) (hs : ∀ r ∈ rows, ∃ s, r[0]? = some (.str s)) (a : Act) (w : World) (hf : Fr df x1 x4 b3 i a) (hw : Wr lim b3 w0 w) (hp : a.tmps.getD 6 undef = .pointer (some ⟨bd, 0, none⟩)) (hb : Bx w0 bd v2 v3 v4 v6 v9 v20 w) (h0 : a.tmps.getD 10 undef = .int .i64 0) :
    (dB 8).wp Tryz.prog (fun e a2 w2 => e = .normal ∧ Fr df x1 x4 b3 i a2 ∧ Wr lim b3 w0 w2 ∧ a2.tmps.getD 6 undef = .pointer (some ⟨bd, 0, none⟩) ∧ Bx w0 bd v2 v3 v4 v6 v9 v20 w2) a w := by
  subst hv
  obtain ⟨ts, dq⟩ := a
  obtain ⟨f0, f2, f1, f3, f4, f5⟩ := hf
  replace f0 : ts.size = 120 := f0
  replace f2 : dq = df := f2
  replace f1 : ts.getD 1 undef = x1 := f1
  replace f3 : ts.getD 3 undef = .pointer (some ⟨b3, 0, none⟩) := f3
  replace f4 : ts.getD 4 undef = x4 := f4
  replace f5 : ts.getD 5 undef = .int .i64 i := f5
  obtain ⟨q, hq, hl2⟩ := lit120 ts f0
  rw [hq] at f1 f3 f4 f5 hp h0
  rw [f1, f3, f4, f5, hp, h0] at hl2
  clear hq f1 f3 f4 f5 hp h0
  subst hl2
  subst f2
  simp only [dB, findB, Tryz.f6, Option.getD_some, reduceIte, Nat.reduceEqDiff]
  go_wp2
  go_loopw [10] (fun i wr => ∃ m : Nat, m ≤ n ∧ i = .int .i64 m ∧ Hid (Wr lim b3 w0 wr) ∧ Hid (Bx w0 bd v2 v3 v4 (.slice p n c) v9 v20 wr))
    (fun i _ => n - (intOf i).toNat)
  case atStart => exact ⟨0, Nat.zero_le _, rfl, hw, hb⟩
  case round =>
    obtain ⟨m, hmn, rfl, hw1, hb1⟩ := hrel
    have hcc := hb1.out.c6
    rcases Nat.lt_or_ge m n with hmt | hmt
    · obtain ⟨b', cap, he, h3, h4, hreg, hkid⟩ := hr.kid (i := m) hz (List.getElem?_eq_getElem (by omega))
      rw [← hn] at he h3
      injection he with he1 _ he2
      subst he1; subst he2
      obtain ⟨s0, hs0⟩ := hs _ (List.getElem_mem (by omega : m < rows.length))
      obtain ⟨hs1, s1, hs2, -⟩ := NodeC.str (j := 0) hw1.out.al hkid hs0
      rw [Nat.add_zero] at hs1 hs2
      rw [Nat.mul_one] at hs1 hs2
      have hfz := NodeC.thaw hw1.out.al hkid (m)
      have hlt := cellAt_lt hs1
      go_wp2
      exact ⟨⟨m + 1, by omega, by simp, hw1.out.set hreg hs1 _ (by decide), hb1.out.set hlt _⟩, by simp only [intOf]; omega⟩
    · go_wp2
      exact ⟨⟨rfl, rfl, rfl, rfl, rfl, rfl⟩, hw1.out, hn ▸ hb1.out⟩
theorem dcl_B10 {lim : Lim} {b3 i bd : Nat} {w0 : World} {df : List Deferred} {x1 x4 v2 v3 v4 v6 v9 v20 : Value} {p : Option Addr} {n c : Nat} {e : Nat} {rows : List (List AV)} (hv : v9 = .slice p n c) (hr : Rep lim w0.heap (.slice p n c) (.fr 1 e 5 rows)) (hn : n = rows.length) (hnl : n ≤ 1000000) (hz : ∀ x ∈ rows, x.length = 5) (hs : ∀ r ∈ rows, ∃ s, r[0]? = some (.str s)) (a : Act) (w : World) (hf : Fr df x1 x4 b3 i a) (hw : Wr lim b3 w0 w) (hp : a.tmps.getD 6 undef = .pointer (some ⟨bd, 0, none⟩)) (hb : Bx w0 bd v2 v3 v4 v6 v9 v20 w) (h0 : a.tmps.getD 11 undef = .int .i64 0) :
    (dB 10).wp Tryz.prog (fun e a2 w2 => e = .normal ∧ Fr df x1 x4 b3 i a2 ∧ Wr lim b3 w0 w2 ∧ a2.tmps.getD 6 undef = .pointer (some ⟨bd, 0, none⟩) ∧ Bx w0 bd v2 v3 v4 v6 v9 v20 w2) a w := by
  subst hv
  obtain ⟨ts, dq⟩ := a
  obtain ⟨f0, f2, f1, f3, f4, f5⟩ := hf
  replace f0 : ts.size = 120 := f0
  replace f2 : dq = df := f2
  replace f1 : ts.getD 1 undef = x1 := f1
  replace f3 : ts.getD 3 undef = .pointer (some ⟨b3, 0, none⟩) := f3
  replace f4 : ts.getD 4 undef = x4 := f4
  replace f5 : ts.getD 5 undef = .int .i64 i := f5
  obtain ⟨q, hq, hl2⟩ := lit120 ts f0
  rw [hq] at f1 f3 f4 f5 hp h0
  rw [f1, f3, f4, f5, hp, h0] at hl2
  clear hq f1 f3 f4 f5 hp h0
  subst hl2
  subst f2
  simp only [dB, findB, Tryz.f6, Option.getD_some, reduceIte, Nat.reduceEqDiff]
  go_wp2
  go_loopw [11] (fun i wr => ∃ m : Nat, m ≤ n ∧ i = .int .i64 m ∧ Hid (Wr lim b3 w0 wr) ∧ Hid (Bx w0 bd v2 v3 v4 v6 (.slice p n c) v20 wr))
    (fun i _ => n - (intOf i).toNat)
  case atStart => exact ⟨0, Nat.zero_le _, rfl, hw, hb⟩
  case round =>
    obtain ⟨m, hmn, rfl, hw1, hb1⟩ := hrel
    have hcc := hb1.out.c9
    rcases Nat.lt_or_ge m n with hmt | hmt
    · obtain ⟨b', cap, he, h3, h4, hreg, hkid⟩ := hr.kid (i := m) hz (List.getElem?_eq_getElem (by omega))
      rw [← hn] at he h3
      injection he with he1 _ he2
      subst he1; subst he2
      obtain ⟨s0, hs0⟩ := hs _ (List.getElem_mem (by omega : m < rows.length))
      obtain ⟨hs1, s1, hs2, -⟩ := NodeC.str (j := 0) hw1.out.al hkid hs0
      rw [Nat.add_zero] at hs1 hs2
      have hfz := NodeC.thaw hw1.out.al hkid (m * 5)
      have hlt := cellAt_lt hs1
      go_wp2
      exact ⟨⟨m + 1, by omega, by simp, hw1.out.set hreg hs1 _ (by decide), hb1.out.set hlt _⟩, by simp only [intOf]; omega⟩
    · go_wp2
      exact ⟨⟨rfl, rfl, rfl, rfl, rfl, rfl⟩, hw1.out, hn ▸ hb1.out⟩
theorem dcl_B12 {lim : Lim} {b3 i bd : Nat} {w0 : World} {df : List Deferred} {x1 x4 v2 v3 v4 v6 v9 v20 : Value} {p : Option Addr} {n c : Nat} {e : Nat} {rows : List (List AV)} (hv : v20 = .slice p n c) (hr : Rep lim w0.heap (.slice p n c) (.fr 1 e 8 rows)) (hn : n = rows.length) (hnl : n ≤ 1000000) (hz : ∀ x ∈ rows, x.length = 8) (hs : ∀ r ∈ rows, ∃ s, r[1]? = some (.str s)) (a : Act) (w : World) (hf : Fr df x1 x4 b3 i a) (hw : Wr lim b3 w0 w) (hp : a.tmps.getD 6 undef = .pointer (some ⟨bd, 0, none⟩)) (hb : Bx w0 bd v2 v3 v4 v6 v9 v20 w) (h0 : a.tmps.getD 12 undef = .int .i64 0) :
    (dB 12).wp Tryz.prog (fun e a2 w2 => e = .normal ∧ Fr df x1 x4 b3 i a2 ∧ Wr lim b3 w0 w2 ∧ a2.tmps.getD 6 undef = .pointer (some ⟨bd, 0, none⟩) ∧ Bx w0 bd v2 v3 v4 v6 v9 v20 w2) a w := by
  subst hv
  obtain ⟨ts, dq⟩ := a
  obtain ⟨f0, f2, f1, f3, f4, f5⟩ := hf
  replace f0 : ts.size = 120 := f0
  replace f2 : dq = df := f2
  replace f1 : ts.getD 1 undef = x1 := f1
  replace f3 : ts.getD 3 undef = .pointer (some ⟨b3, 0, none⟩) := f3
  replace f4 : ts.getD 4 undef = x4 := f4
  replace f5 : ts.getD 5 undef = .int .i64 i := f5
  obtain ⟨q, hq, hl2⟩ := lit120 ts f0
  rw [hq] at f1 f3 f4 f5 hp h0
  rw [f1, f3, f4, f5, hp, h0] at hl2
  clear hq f1 f3 f4 f5 hp h0
  subst hl2
  subst f2
  simp only [dB, findB, Tryz.f6, Option.getD_some, reduceIte, Nat.reduceEqDiff]
  go_wp2
  go_loopw [12] (fun i wr => ∃ m : Nat, m ≤ n ∧ i = .int .i64 m ∧ Hid (Wr lim b3 w0 wr) ∧ Hid (Bx w0 bd v2 v3 v4 v6 v9 (.slice p n c) wr))
    (fun i _ => n - (intOf i).toNat)
  case atStart => exact ⟨0, Nat.zero_le _, rfl, hw, hb⟩
  case round =>
    obtain ⟨m, hmn, rfl, hw1, hb1⟩ := hrel
    have hcc := hb1.out.c20
    rcases Nat.lt_or_ge m n with hmt | hmt
    · obtain ⟨b', cap, he, h3, h4, hreg, hkid⟩ := hr.kid (i := m) hz (List.getElem?_eq_getElem (by omega))
      rw [← hn] at he h3
      injection he with he1 _ he2
      subst he1; subst he2
      obtain ⟨s0, hs0⟩ := hs _ (List.getElem_mem (by omega : m < rows.length))
      obtain ⟨hs1, s1, hs2, -⟩ := NodeC.str (j := 1) hw1.out.al hkid hs0
      have hfz := NodeC.thaw hw1.out.al hkid (m * 8 + 1)
      have hlt := cellAt_lt hs1
      go_wp2
      exact ⟨⟨m + 1, by omega, by simp, hw1.out.set hreg hs1 _ (by decide), hb1.out.set hlt _⟩, by simp only [intOf]; omega⟩
    · go_wp2
      exact ⟨⟨rfl, rfl, rfl, rfl, rfl, rfl⟩, hw1.out, hn ▸ hb1.out⟩

end Go.Proofs.YtdifpfehijnmiaaGreatDoor
end

section
/- The pieces around these loops, on real memory. -/
set_option linter.all false
set_option maxHeartbeats 1000000
set_option maxRecDepth 10000
namespace Go.Proofs.YtdifpfehijnmiaaGreatDoor
open Go Go.Pv
variable (g : Nat → Option (List AV)) (rnd : Bool)

open Go.RowKit
theorem seqN {P : Program} {x y : Code} {Q : Exit → Act → World → Prop} {R : Act → World → Prop} {a : Act} {w : World} (h : x.wp P (fun e a w => e = .normal ∧ R a w) a w) (k : ∀ a w, R a w → y.wp P Q a w) : (x.seq y).wp P Q a w :=
  wp_seq (Code.wp_mono (fun e a w h => by obtain ⟨rfl, hr⟩ := h; exact k a w hr) h)
theorem dcl_R9 {b3 i : Nat} {df : List Deferred} {x1 x4 : Value} {bd : Nat} (a : Act) (w : World) (hf : Fr df x1 x4 b3 i a) (hp : a.tmps.getD 6 undef = .pointer (some ⟨bd, 0, none⟩)) : (dR 9).wp Tryz.prog (fun e a2 w2 => e = .normal ∧ w2 = w ∧ Fr df x1 x4 b3 i a2 ∧ a2.tmps.getD 6 undef = .pointer (some ⟨bd, 0, none⟩) ∧ a2.tmps.getD 7 undef = .int .i64 0) a w := by
  obtain ⟨ts, dq⟩ := a
  obtain ⟨f0, f2, f1, f3, f4, f5⟩ := hf
  replace f0 : ts.size = 120 := f0
  replace f2 : dq = df := f2
  replace f1 : ts.getD 1 undef = x1 := f1
  replace f3 : ts.getD 3 undef = .pointer (some ⟨b3, 0, none⟩) := f3
  replace f4 : ts.getD 4 undef = x4 := f4
  replace f5 : ts.getD 5 undef = .int .i64 i := f5
  obtain ⟨q, hq, hl2⟩ := lit120 ts f0
  rw [hq] at f1 f3 f4 f5 hp
  rw [f1, f3, f4, f5, hp] at hl2
  clear hq f1 f3 f4 f5 hp
  subst hl2
  subst f2
  simp only [dR, findR, Tryz.f6, Option.getD_some, reduceIte, Nat.reduceEqDiff]
  go_wp2
  first | exact ⟨rfl, rfl, rfl, rfl, rfl, rfl⟩ | exact ⟨rfl, ⟨rfl, rfl, rfl, rfl, rfl, rfl⟩⟩
theorem dcl_R13 {b3 i : Nat} {df : List Deferred} {x1 x4 : Value} {bd : Nat} (a : Act) (w : World) (hf : Fr df x1 x4 b3 i a) (hp : a.tmps.getD 6 undef = .pointer (some ⟨bd, 0, none⟩)) : (dR 13).wp Tryz.prog (fun e a2 w2 => e = .normal ∧ w2 = w ∧ Fr df x1 x4 b3 i a2 ∧ a2.tmps.getD 6 undef = .pointer (some ⟨bd, 0, none⟩) ∧ a2.tmps.getD 8 undef = .int .i64 0) a w := by
  obtain ⟨ts, dq⟩ := a
  obtain ⟨f0, f2, f1, f3, f4, f5⟩ := hf
  replace f0 : ts.size = 120 := f0
  replace f2 : dq = df := f2
  replace f1 : ts.getD 1 undef = x1 := f1
  replace f3 : ts.getD 3 undef = .pointer (some ⟨b3, 0, none⟩) := f3
  replace f4 : ts.getD 4 undef = x4 := f4
  replace f5 : ts.getD 5 undef = .int .i64 i := f5
  obtain ⟨q, hq, hl2⟩ := lit120 ts f0
  rw [hq] at f1 f3 f4 f5 hp
  rw [f1, f3, f4, f5, hp] at hl2
  clear hq f1 f3 f4 f5 hp
  subst hl2
  subst f2
  simp only [dR, findR, Tryz.f6, Option.getD_some, reduceIte, Nat.reduceEqDiff]
  go_wp2
  first | exact ⟨rfl, rfl, rfl, rfl, rfl, rfl⟩ | exact ⟨rfl, ⟨rfl, rfl, rfl, rfl, rfl, rfl⟩⟩
theorem dcl_R17 {b3 i : Nat} {df : List Deferred} {x1 x4 : Value} {bd : Nat} (a : Act) (w : World) (hf : Fr df x1 x4 b3 i a) (hp : a.tmps.getD 6 undef = .pointer (some ⟨bd, 0, none⟩)) : (dR 17).wp Tryz.prog (fun e a2 w2 => e = .normal ∧ w2 = w ∧ Fr df x1 x4 b3 i a2 ∧ a2.tmps.getD 6 undef = .pointer (some ⟨bd, 0, none⟩) ∧ a2.tmps.getD 9 undef = .int .i64 0) a w := by
  obtain ⟨ts, dq⟩ := a
  obtain ⟨f0, f2, f1, f3, f4, f5⟩ := hf
  replace f0 : ts.size = 120 := f0
  replace f2 : dq = df := f2
  replace f1 : ts.getD 1 undef = x1 := f1
  replace f3 : ts.getD 3 undef = .pointer (some ⟨b3, 0, none⟩) := f3
  replace f4 : ts.getD 4 undef = x4 := f4
  replace f5 : ts.getD 5 undef = .int .i64 i := f5
  obtain ⟨q, hq, hl2⟩ := lit120 ts f0
  rw [hq] at f1 f3 f4 f5 hp
  rw [f1, f3, f4, f5, hp] at hl2
  clear hq f1 f3 f4 f5 hp
  subst hl2
  subst f2
  simp only [dR, findR, Tryz.f6, Option.getD_some, reduceIte, Nat.reduceEqDiff]
  go_wp2
  first | exact ⟨rfl, rfl, rfl, rfl, rfl, rfl⟩ | exact ⟨rfl, ⟨rfl, rfl, rfl, rfl, rfl, rfl⟩⟩
theorem dcl_R21 {b3 i : Nat} {df : List Deferred} {x1 x4 : Value} {bd : Nat} (a : Act) (w : World) (hf : Fr df x1 x4 b3 i a) (hp : a.tmps.getD 6 undef = .pointer (some ⟨bd, 0, none⟩)) : (dR 21).wp Tryz.prog (fun e a2 w2 => e = .normal ∧ w2 = w ∧ Fr df x1 x4 b3 i a2 ∧ a2.tmps.getD 6 undef = .pointer (some ⟨bd, 0, none⟩) ∧ a2.tmps.getD 10 undef = .int .i64 0) a w := by
  obtain ⟨ts, dq⟩ := a
  obtain ⟨f0, f2, f1, f3, f4, f5⟩ := hf
  replace f0 : ts.size = 120 := f0
  replace f2 : dq = df := f2
  replace f1 : ts.getD 1 undef = x1 := f1
  replace f3 : ts.getD 3 undef = .pointer (some ⟨b3, 0, none⟩) := f3
  replace f4 : ts.getD 4 undef = x4 := f4
  replace f5 : ts.getD 5 undef = .int .i64 i := f5
  obtain ⟨q, hq, hl2⟩ := lit120 ts f0
  rw [hq] at f1 f3 f4 f5 hp
  rw [f1, f3, f4, f5, hp] at hl2
  clear hq f1 f3 f4 f5 hp
  subst hl2
  subst f2
  simp only [dR, findR, Tryz.f6, Option.getD_some, reduceIte, Nat.reduceEqDiff]
  go_wp2
  first | exact ⟨rfl, rfl, rfl, rfl, rfl, rfl⟩ | exact ⟨rfl, ⟨rfl, rfl, rfl, rfl, rfl, rfl⟩⟩
theorem dcl_R25 {b3 i : Nat} {df : List Deferred} {x1 x4 : Value} {bd : Nat} (a : Act) (w : World) (hf : Fr df x1 x4 b3 i a) (hp : a.tmps.getD 6 undef = .pointer (some ⟨bd, 0, none⟩)) : (dR 25).wp Tryz.prog (fun e a2 w2 => e = .normal ∧ w2 = w ∧ Fr df x1 x4 b3 i a2 ∧ a2.tmps.getD 6 undef = .pointer (some ⟨bd, 0, none⟩) ∧ a2.tmps.getD 11 undef = .int .i64 0) a w := by
  obtain ⟨ts, dq⟩ := a
  obtain ⟨f0, f2, f1, f3, f4, f5⟩ := hf
  replace f0 : ts.size = 120 := f0
  replace f2 : dq = df := f2
  replace f1 : ts.getD 1 undef = x1 := f1
  replace f3 : ts.getD 3 undef = .pointer (some ⟨b3, 0, none⟩) := f3
  replace f4 : ts.getD 4 undef = x4 := f4
  replace f5 : ts.getD 5 undef = .int .i64 i := f5
  obtain ⟨q, hq, hl2⟩ := lit120 ts f0
  rw [hq] at f1 f3 f4 f5 hp
  rw [f1, f3, f4, f5, hp] at hl2
  clear hq f1 f3 f4 f5 hp
  subst hl2
  subst f2
  simp only [dR, findR, Tryz.f6, Option.getD_some, reduceIte, Nat.reduceEqDiff]
  go_wp2
  first | exact ⟨rfl, rfl, rfl, rfl, rfl, rfl⟩ | exact ⟨rfl, ⟨rfl, rfl, rfl, rfl, rfl, rfl⟩⟩
theorem dcl_R29 {b3 i : Nat} {df : List Deferred} {x1 x4 : Value} {bd : Nat} (a : Act) (w : World) (hf : Fr df x1 x4 b3 i a) (hp : a.tmps.getD 6 undef = .pointer (some ⟨bd, 0, none⟩)) : (dR 29).wp Tryz.prog (fun e a2 w2 => e = .normal ∧ w2 = w ∧ Fr df x1 x4 b3 i a2 ∧ a2.tmps.getD 6 undef = .pointer (some ⟨bd, 0, none⟩) ∧ a2.tmps.getD 12 undef = .int .i64 0) a w := by
  obtain ⟨ts, dq⟩ := a
  obtain ⟨f0, f2, f1, f3, f4, f5⟩ := hf
  replace f0 : ts.size = 120 := f0
  replace f2 : dq = df := f2
  replace f1 : ts.getD 1 undef = x1 := f1
  replace f3 : ts.getD 3 undef = .pointer (some ⟨b3, 0, none⟩) := f3
  replace f4 : ts.getD 4 undef = x4 := f4
  replace f5 : ts.getD 5 undef = .int .i64 i := f5
  obtain ⟨q, hq, hl2⟩ := lit120 ts f0
  rw [hq] at f1 f3 f4 f5 hp
  rw [f1, f3, f4, f5, hp] at hl2
  clear hq f1 f3 f4 f5 hp
  subst hl2
  subst f2
  simp only [dR, findR, Tryz.f6, Option.getD_some, reduceIte, Nat.reduceEqDiff]
  go_wp2
  first | exact ⟨rfl, rfl, rfl, rfl, rfl, rfl⟩ | exact ⟨rfl, ⟨rfl, rfl, rfl, rfl, rfl, rfl⟩⟩
theorem dcl_R6 {b3 i : Nat} {df : List Deferred} {x1 x4 : Value} {p : Option Addr} {nD cD : Nat} (a : Act) (w : World) (hf : Fr df x1 x4 b3 i a) (hc : w.cell? ⟨b3, 0, none⟩ = some (.slice p nD cD)) : (dR 6).wp Tryz.prog (fun e a2 w2 => e = .normal ∧ w2 = w ∧ Fr df x1 x4 b3 i a2 ∧ a2.tmps.getD 29 undef = .bool (decide (i < nD))) a w := by
  obtain ⟨ts, dq⟩ := a
  obtain ⟨f0, f2, f1, f3, f4, f5⟩ := hf
  replace f0 : ts.size = 120 := f0
  replace f2 : dq = df := f2
  replace f1 : ts.getD 1 undef = x1 := f1
  replace f3 : ts.getD 3 undef = .pointer (some ⟨b3, 0, none⟩) := f3
  replace f4 : ts.getD 4 undef = x4 := f4
  replace f5 : ts.getD 5 undef = .int .i64 i := f5
  obtain ⟨q, hq, hl2⟩ := lit120 ts f0
  rw [hq] at f1 f3 f4 f5
  rw [f1, f3, f4, f5] at hl2
  clear hq f1 f3 f4 f5
  subst hl2
  subst f2
  simp only [dR, findR, Tryz.f6, Option.getD_some, reduceIte, Nat.reduceEqDiff]
  go_wp2
  first | exact ⟨rfl, rfl, rfl, rfl, rfl, rfl⟩ | exact ⟨⟨rfl, rfl, rfl, rfl, rfl, rfl⟩, by simp⟩ | exact ⟨rfl, ⟨rfl, rfl, rfl, rfl, rfl, rfl⟩, by simp⟩
theorem dcl_R7 {b3 i : Nat} {df : List Deferred} {x1 x4 : Value} (hi : i ≤ 1000000) (a : Act) (w : World) (hf : Fr df x1 x4 b3 i a) : (dR 7).wp Tryz.prog (fun e a2 w2 => e = .normal ∧ w2 = w ∧ Fr df x1 x4 b3 (i + 1) a2) a w := by
  obtain ⟨ts, dq⟩ := a
  obtain ⟨f0, f2, f1, f3, f4, f5⟩ := hf
  replace f0 : ts.size = 120 := f0
  replace f2 : dq = df := f2
  replace f1 : ts.getD 1 undef = x1 := f1
  replace f3 : ts.getD 3 undef = .pointer (some ⟨b3, 0, none⟩) := f3
  replace f4 : ts.getD 4 undef = x4 := f4
  replace f5 : ts.getD 5 undef = .int .i64 i := f5
  obtain ⟨q, hq, hl2⟩ := lit120 ts f0
  rw [hq] at f1 f3 f4 f5
  rw [f1, f3, f4, f5] at hl2
  clear hq f1 f3 f4 f5
  subst hl2
  subst f2
  simp only [dR, findR, Tryz.f6, Option.getD_some, reduceIte, Nat.reduceEqDiff]
  go_wp2
  exact ⟨rfl, rfl, rfl, rfl, rfl, by simp⟩
theorem dcl_R8 {b3 i : Nat} {df : List Deferred} {x1 x4 : Value} {bD nD cD : Nat} {cs : List Value} (hcs : cs.length = 23) (h1c : ∀ v ∈ cs, v.oneCell' = true) (a : Act) (w : World) (hf : Fr df x1 x4 b3 i a) (hc : w.cell? ⟨b3, 0, none⟩ = some (.slice (some ⟨bD, 0, none⟩) nD cD)) (hi : i < nD) (hi2 : nD ≤ cD) (hi3 : cD ≤ maxLen) (hE : Hid (∀ (j : Nat) v, cs[j]? = some v → w.cell? ⟨bD, i * 23 + j, none⟩ = some v)) : (dR 8).wp Tryz.prog (fun e a2 w2 => e = .normal ∧ w2 = w.alloc (.cells cs.toArray 35) ∧ Fr df x1 x4 b3 i a2 ∧ a2.tmps.getD 6 undef = .pointer (some ⟨w.heap.size, 0, none⟩)) a w := by
  obtain ⟨ts, dq⟩ := a
  obtain ⟨f0, f2, f1, f3, f4, f5⟩ := hf
  replace f0 : ts.size = 120 := f0
  replace f2 : dq = df := f2
  replace f1 : ts.getD 1 undef = x1 := f1
  replace f3 : ts.getD 3 undef = .pointer (some ⟨b3, 0, none⟩) := f3
  replace f4 : ts.getD 4 undef = x4 := f4
  replace f5 : ts.getD 5 undef = .int .i64 i := f5
  obtain ⟨q, hq, hl2⟩ := lit120 ts f0
  rw [hq] at f1 f3 f4 f5
  rw [f1, f3, f4, f5] at hl2
  clear hq f1 f3 f4 f5
  subst hl2
  subst f2
  simp only [dR, findR, Tryz.f6, Option.getD_some, reduceIte, Nat.reduceEqDiff]
  refine wp_region_list ?_
  simp only [List.toList_toArray]
  refine wpList_plain rfl fun K hK => ?_
  go_simp
  refine hK _ _ ?_
  clear hK K
  refine wpList_plain rfl fun K hK => ?_
  go_simp
  refine hK _ _ ?_
  clear hK K
  refine wpList_plain rfl fun K hK => ?_
  go_simp
  refine hK _ _ ?_
  clear hK K
  refine wpList_plain rfl fun K hK => ?_
  go_simp
  refine hK _ _ ?_
  clear hK K
  refine wpList_plain rfl fun K hK => ?_
  refine wp_loadAgg rfl rfl (by kernel_rfl) (by rw [hcs]; kernel_rfl) hE.out ?_
  refine hK _ _ ?_
  clear hK K
  refine wpList_plain rfl fun K hK => ?_
  go_simp
  refine hK _ _ ?_
  clear hK K
  refine wpList_plain rfl fun K hK => ?_
  refine wp_storeNew (e := 35) rfl rfl rfl (by rw [hcs]; rfl) (by rw [hcs]; kernel_rfl) (by kernel_rfl) h1c ?_
  refine hK _ _ ?_
  exact wpList_nil ⟨rfl, rfl, ⟨rfl, rfl, rfl, rfl, rfl, rfl⟩, rfl⟩
theorem dcl_R33 {b3 i : Nat} {df : List Deferred} {x1 x4 : Value} {bD nD cD : Nat} {s : ByteArray} (a : Act) (w : World) (hf : Fr df x1 x4 b3 i a) (hc : w.cell? ⟨b3, 0, none⟩ = some (.slice (some ⟨bD, 0, none⟩) nD cD)) (hi : i < nD) (hi2 : nD ≤ cD) (hi3 : cD ≤ maxLen) (e1 : w.cell? ⟨bD, i * 23 + 1, none⟩ = some (.string s)) (hz : w.frozen? ⟨bD, i * 23 + 1, none⟩ = false) : (dR 33).wp Tryz.prog (fun e a2 w2 => e = .normal ∧ w2 = w.setCell ⟨bD, i * 23 + 1, none⟩ (.string ⟨#[99, 104, 97, 110, 103, 101, 100]⟩) ∧ Fr df x1 x4 b3 i a2) a w := by
  obtain ⟨ts, dq⟩ := a
  obtain ⟨f0, f2, f1, f3, f4, f5⟩ := hf
  replace f0 : ts.size = 120 := f0
  replace f2 : dq = df := f2
  replace f1 : ts.getD 1 undef = x1 := f1
  replace f3 : ts.getD 3 undef = .pointer (some ⟨b3, 0, none⟩) := f3
  replace f4 : ts.getD 4 undef = x4 := f4
  replace f5 : ts.getD 5 undef = .int .i64 i := f5
  obtain ⟨q, hq, hl2⟩ := lit120 ts f0
  rw [hq] at f1 f3 f4 f5
  rw [f1, f3, f4, f5] at hl2
  clear hq f1 f3 f4 f5
  subst hl2
  subst f2
  simp only [dR, findR, Tryz.f6, Option.getD_some, reduceIte, Nat.reduceEqDiff]
  go_wp2
  first | exact ⟨rfl, rfl, rfl, rfl, rfl, rfl⟩ | exact ⟨rfl, ⟨rfl, rfl, rfl, rfl, rfl, rfl⟩⟩

end Go.Proofs.YtdifpfehijnmiaaGreatDoor
end

import Derived.Test.YtdifpfehijnmiaaGreatDoorPt
import Derived.Test.YtdifpfehijnmiaaGreatDoorPvPb
import Derived.Test.YtdifpfehijnmiaaGreatDoorPvY
import Derived.Test.YtdifpfehijnmiaaGreatDoorPvOf
import Derived.Test.YtdifpfehijnmiaaGreatDoorXDcN
import Derived.Test.YtdifpfehijnmiaaGreatDoorXDcE
import Derived.Test.YtdifpfehijnmiaaGreatDoorXExE
import Derived.Test.YtdifpfehijnmiaaGreatDoorXNaB
import Derived.Test.YtdifpfehijnmiaaGreatDoorXDcD
import Derived.Test.YtdifpfehijnmiaaGreatDoorXTyQ
import Derived.Test.YtdifpfehijnmiaaGreatDoorXTyD
section
/- Contracts: the reference on declarations. -/
set_option linter.all false
set_option maxHeartbeats 1000000
set_option maxRecDepth 10000
namespace Go.Proofs.YtdifpfehijnmiaaGreatDoor
open Go Go.Pv
variable (g : Nat → Option (List AV)) (rnd : Bool)

end Go.Proofs.YtdifpfehijnmiaaGreatDoor
end

section
/- Contracts: the reference compares programs. -/
set_option linter.all false
set_option maxHeartbeats 1000000
set_option maxRecDepth 10000
namespace Go.Proofs.YtdifpfehijnmiaaGreatDoor
open Go Go.Pv
variable (g : Nat → Option (List AV)) (rnd : Bool)

end Go.Proofs.YtdifpfehijnmiaaGreatDoor
end

section
/- Contracts: the reference compares a program with itself, offsets too. -/
set_option linter.all false
set_option maxHeartbeats 1000000
set_option maxRecDepth 10000
namespace Go.Proofs.YtdifpfehijnmiaaGreatDoor
open Go Go.Pv
variable (g : Nat → Option (List AV)) (rnd : Bool)

theorem c_ref06x_formals_x (a : List Fm) (hw : wtFs a ≤ 1000000000) (hl : a.length ≤ 1000000000) : Valid Tryz.prog (G0 g rnd) 50 [.slice (a.map encF), .slice (a.map encF), .bool true] (.bool true) := by

 refine valid_of [] Tryz.func50 rfl (by kernel_rfl) ?_
 refine sr fun Z z => ?_
 simp [row_map, encF, Tryz.f50]
 refine z _ ?_
 clear z Z
 refine AT_seq_k fun K1 hK1 => ?_
 refine sr fun Z z => ?_
 simp [row_map, encF]
 refine z _ ?_
 clear z Z
 refine cF (by simp) ?_
 refine AT_skip ?_
 refine hK1 _ ?_
 refine AT_seq_k fun K2 hK2 => ?_
 refine sr fun Z z => ?_
 simp [row_map, encF]
 refine z _ ?_
 clear z Z
 refine AT_block ?_
 refine AT_loop_q [0,1,2,7] [] (fun j s => ∃ k, k ≤ a.length ∧ j = a.length - k ∧ s = { n := 72, tm := [(0, .v (.slice (a.map encF)) none), (1, .v (.slice (a.map encF)) none), (2, .v (.bool true) none), (7, .v (.int .i64 k) none)], bx := [], tb := [], sh := [], hint := [] }) (a.length) (by first | rfl | simp) ?_ ?_
 exact ⟨0, by simp⟩
 rintro j s ⟨k, hk, rfl, rfl⟩ K3 hK3
 refine AT_seq_k fun K4 hK4 => ?_
 refine sr fun Z z => ?_
 simp [row_map, encF]
 refine z _ ?_
 clear z Z
 refine AT_cond (g := none) rfl (fun hb16 => ?_) (fun hb16 => ?_)
 simp [row_map, encF] at hb16
 refine AT_skip ?_
 refine hK4 _ ?_
 refine AT_seq_k fun K5 hK5 => ?_
 refine AT_block ?_
 refine AT_seq_k fun K6 hK6 => ?_
 refine AT_seq_draw Pt.mixed (by kernel_rfl) fun Z z => ?_
 have hka : k < a.length := by omega
 have hm9 := wtFs_mem (l := a) (f := a[k]) (by simp)
 have hm8 : wtF a[k] = a[k].name.length + 1 + wt a[k].ty := rfl
 have h2 := cmpT_refl a[k].ty
 have h3 := eqT_refl a[k].ty
 simp [row_map, encF, h2, hb16]
 refine RVdn_call ((by have h := c_ref04x_Same g rnd a[k].ty a[k].ty (by omega); simp only [encTy_def] at h; exact h)) ?_
 simp [row_map, encF, h2, hb16]
 repeat refine sg ?_
 refine z _ ?_
 clear z Z
 refine cF (by simp [hb16]) ?_
 refine AT_skip ?_
 refine hK6 _ ?_
 refine AT_seq_draw Pt.mixed (by kernel_rfl) fun Z z => ?_
 simp [row_map, encF, h3, hb16]
 refine RVdn_call ((by have h := c_ref04x_Equal g rnd a[k].ty a[k].ty (by omega); simp only [encTy_def] at h; exact h)) ?_
 simp [row_map, encF, h3, hb16]
 repeat refine sg ?_
 refine z _ ?_
 clear z Z
 refine cF (by simp [hb16]) ?_
 refine AT_skip ?_
 refine hK5 _ ?_
 refine AT_region_q fun Z z => ?_
 simp [row_map, encF, hb16]
 repeat refine sg ?_
 refine z _ ?_
 clear z Z
 refine hK3 _ (by first | rfl | simp) (a.length - (k+1)) (by omega) ?_
 exact ⟨k+1, by omega, by omega, by simp⟩
 simp [row_map, encF] at hb16
 refine AT_exit ?_
 refine hK2 _ ?_
 refine sr fun Z z => ?_
 simp [row_map, encF, hb16]
 refine z _ ?_
 clear z Z
 refine AT_ret ?_
 simp [row_map, encF, Tryz.f50]
 skip

theorem c_ref06x_params_x (a : List Fm) (hw : wtFs a ≤ 1000000000) (hl : a.length ≤ 1000000000) : Valid Tryz.prog (G0 g rnd) 51 [.slice (a.map encF), .slice (a.map encF), .bool true] (.bool true) := by

 refine valid_of [] Tryz.func51 rfl (by kernel_rfl) ?_
 refine sr fun Z z => ?_
 simp [row_map, encF, Tryz.f51]
 refine z _ ?_
 clear z Z
 refine AT_seq_k fun K1 hK1 => ?_
 refine sr fun Z z => ?_
 simp [row_map, encF]
 refine z _ ?_
 clear z Z
 refine cF (by simp) ?_
 refine AT_skip ?_
 refine hK1 _ ?_
 refine AT_seq_k fun K2 hK2 => ?_
 refine sr fun Z z => ?_
 simp [row_map, encF]
 refine z _ ?_
 clear z Z
 refine AT_block ?_
 refine AT_loop_q [0,1,2,7] [] (fun j s => ∃ k, k ≤ a.length ∧ j = a.length - k ∧ s = { n := 72, tm := [(0, .v (.slice (a.map encF)) none), (1, .v (.slice (a.map encF)) none), (2, .v (.bool true) none), (7, .v (.int .i64 k) none)], bx := [], tb := [], sh := [], hint := [] }) (a.length) (by first | rfl | simp) ?_ ?_
 exact ⟨0, by simp⟩
 rintro j s ⟨k, hk, rfl, rfl⟩ K3 hK3
 refine AT_seq_k fun K4 hK4 => ?_
 refine sr fun Z z => ?_
 simp [row_map, encF]
 refine z _ ?_
 clear z Z
 refine AT_cond (g := none) rfl (fun hb16 => ?_) (fun hb16 => ?_)
 simp [row_map, encF] at hb16
 refine AT_skip ?_
 refine hK4 _ ?_
 refine AT_seq_k fun K5 hK5 => ?_
 refine AT_block ?_
 refine AT_seq_k fun K6 hK6 => ?_
 refine AT_seq_draw Pt.mixed (by kernel_rfl) fun Z z => ?_
 have hka : k < a.length := by omega
 have hm9 := wtFs_mem (l := a) (f := a[k]) (by simp)
 have hm8 : wtF a[k] = a[k].name.length + 1 + wt a[k].ty := rfl
 have h2 := cmpT_refl a[k].ty
 have h3 := eqT_refl a[k].ty
 simp [row_map, encF, h2, hb16]
 refine RVdn_call ((by have h := c_ref04x_Same g rnd a[k].ty a[k].ty (by omega); simp only [encTy_def] at h; exact h)) ?_
 simp [row_map, encF, h2, hb16]
 repeat refine sg ?_
 refine z _ ?_
 clear z Z
 refine cF (by simp [hb16]) ?_
 refine AT_skip ?_
 refine hK6 _ ?_
 refine AT_seq_draw Pt.mixed (by kernel_rfl) fun Z z => ?_
 simp [row_map, encF, h3, hb16]
 refine RVdn_call ((by have h := c_ref04x_Equal g rnd a[k].ty a[k].ty (by omega); simp only [encTy_def] at h; exact h)) ?_
 simp [row_map, encF, h3, hb16]
 repeat refine sg ?_
 refine z _ ?_
 clear z Z
 refine cF (by simp [hb16]) ?_
 refine AT_skip ?_
 refine hK5 _ ?_
 refine AT_region_q fun Z z => ?_
 simp [row_map, encF, hb16]
 repeat refine sg ?_
 refine z _ ?_
 clear z Z
 refine hK3 _ (by first | rfl | simp) (a.length - (k+1)) (by omega) ?_
 exact ⟨k+1, by omega, by omega, by simp⟩
 simp [row_map, encF] at hb16
 refine AT_exit ?_
 refine hK2 _ ?_
 refine sr fun Z z => ?_
 simp [row_map, encF, hb16]
 refine z _ ?_
 clear z Z
 refine AT_ret ?_
 simp [row_map, encF, Tryz.f51]
 skip

theorem c_ref06x_Sig_x (a : Sg) (hw : wtG a ≤ 1000000000) : Valid Tryz.prog (G0 g rnd) 14 [.agg (encG a), .agg (encG a), .bool true] (.bool true) := by
 have hw2 : a.name.length + 1 + wtFs a.fms + wtFs a.pms + wt a.res ≤ 1000000000 := hw
 have h2 := cmpT_refl a.res
 have h3 := eqT_refl a.res
 refine valid_of [] Tryz.func14 rfl (by kernel_rfl) ?_
 refine sr fun Z z => ?_
 simp [encG, h2, h3, Tryz.f14]
 refine z _ ?_
 clear z Z
 refine AT_seq_k fun K1 hK1 => ?_
 refine sr fun Z z => ?_
 simp [encG, h2, h3]
 refine RVn_call (c_ref06x_formals_x g rnd a.fms (by omega) (by have := wtFs_len a.fms; omega)) ?_
 simp [encG, h2, h3]
 repeat refine sg ?_
 refine RVn_call (c_ref06x_params_x g rnd a.pms (by omega) (by have := wtFs_len a.pms; omega)) ?_
 simp [encG, h2, h3]
 repeat refine sg ?_
 refine RVn_call ((by have h := c_ref04x_Same g rnd a.res a.res (by omega); simp only [encTy_def] at h; exact h)) ?_
 simp [encG, h2, h3]
 repeat refine sg ?_
 refine z _ ?_
 clear z Z
 refine cF (by simp) ?_
 refine AT_skip ?_
 refine hK1 _ ?_
 refine sr fun Z z => ?_
 simp [encG, h2, h3]
 refine RVn_call ((by have h := c_ref04x_Equal g rnd a.res a.res (by omega); simp only [encTy_def] at h; exact h)) ?_
 simp [encG, h2, h3]
 repeat refine sg ?_
 refine z _ ?_
 clear z Z
 refine AT_ret ?_
 simp [encG, h2, h3, Tryz.f14]
 skip

theorem c_ref06x_Decl_x (a : Dc) (hw : wtD a ≤ 400000000) : Valid Tryz.prog (G0 g rnd) 12 [.agg (encD a), .agg (encD a), .bool true] (.bool true) := by
 have hw2 : a.name.length + 1 + wtFs a.fms + wtFs a.flds + wtGs a.sigs + a.recv.length + wtSs a.vars + wtG a.sig + wtE a.body ≤ 400000000 := hw
 have hl1 := wtFs_len a.fms
 have hl2 := wtFs_len a.flds
 have hl3 := wtGs_len a.sigs
 have hl4 := wtSs_len a.vars
 have h2 := sameE_refl a.body
 have h3 := eqE_refl a.body
 refine valid_of [] Tryz.func12 rfl (by kernel_rfl) ?_
 refine sr fun Z z => ?_
 simp [row_map, encD, h2, h3, Tryz.f12]
 refine z _ ?_
 clear z Z
 refine AT_seq_k fun K1 hK1 => ?_
 refine sr fun Z z => ?_
 simp [row_map, encD, h2, h3]
 refine RVn_call (c_ref06x_formals_x g rnd a.fms (by omega) (by have := wtFs_len a.fms; omega)) ?_
 simp [row_map, encD, h2, h3]
 repeat refine sg ?_
 refine RVn_call (c_ref06x_params_x g rnd a.flds (by omega) (by have := wtFs_len a.flds; omega)) ?_
 simp [row_map, encD, h2, h3]
 repeat refine sg ?_
 refine z _ ?_
 clear z Z
 refine cF (by simp) ?_
 refine AT_skip ?_
 refine hK1 _ ?_
 refine AT_seq_k fun K2 hK2 => ?_
 refine sr fun Z z => ?_
 simp [row_map, encD, h2, h3]
 refine z _ ?_
 clear z Z
 refine AT_block ?_
 refine AT_loop_q [2,3,4,7] [3,4] (fun j s => ∃ k, k ≤ a.sigs.length ∧ j = a.sigs.length - k ∧ s = { n := 133, tm := [(2, .v (.bool true) none), (3, .lp 3 0), (4, .lp 4 0), (7, .v (.int .i64 k) none)], bx := [(3, encD a), (4, encD a)], tb := [], sh := [], hint := [] }) (a.sigs.length) (by first | rfl | simp) ?_ ?_
 exact ⟨0, by simp [encD]⟩
 rintro j s ⟨k, hk, rfl, rfl⟩ K3 hK3
 refine AT_seq_k fun K4 hK4 => ?_
 refine sr fun Z z => ?_
 simp [row_map, encD, h2, h3]
 refine z _ ?_
 clear z Z
 refine AT_cond (g := none) rfl (fun hb68 => ?_) (fun hb68 => ?_)
 simp [row_map, encD, h2, h3] at hb68
 refine AT_skip ?_
 refine hK4 _ ?_
 refine AT_seq_k fun K5 hK5 => ?_
 refine AT_block ?_
 refine AT_seq_draw Pt.mixed (by kernel_rfl) fun Z z => ?_
 have hka : k < a.sigs.length := by omega
 have hm9 := wtGs_mem (l := a.sigs) (f := a.sigs[k]) (by simp)
 simp [row_map, encD, h2, h3, encG, hb68]
 refine RVdn_call ((by have h := c_ref06x_Sig_x g rnd a.sigs[k] (by omega); simp only [encG] at h; exact h)) ?_
 simp [row_map, encD, h2, h3, encG, hb68]
 refine z _ ?_
 clear z Z
 refine cF (by simp [hb68]) ?_
 refine AT_skip ?_
 refine hK5 _ ?_
 refine AT_region_q fun Z z => ?_
 simp [row_map, encD, h2, h3, hb68]
 repeat refine sg ?_
 refine z _ ?_
 clear z Z
 refine hK3 _ (by first | rfl | simp) (a.sigs.length - (k+1)) (by omega) ?_
 exact ⟨k+1, by omega, by omega, by simp [encD]⟩
 simp [row_map, encD, h2, h3] at hb68
 refine AT_exit ?_
 refine hK2 _ ?_
 refine AT_seq_k fun K6 hK6 => ?_
 refine sr fun Z z => ?_
 simp [row_map, encD, h2, h3, hb68]
 refine z _ ?_
 clear z Z
 refine AT_block ?_
 refine AT_loop_q [2,3,4,8] [3,4] (fun j s => ∃ k, k ≤ a.vars.length ∧ j = a.vars.length - k ∧ s = { n := 133, tm := [(2, .v (.bool true) none), (3, .lp 3 0), (4, .lp 4 0), (8, .v (.int .i64 k) none)], bx := [(3, encD a), (4, encD a)], tb := [], sh := [], hint := [] }) (a.vars.length) (by first | rfl | simp) ?_ ?_
 exact ⟨0, by simp [encD]⟩
 rintro j s ⟨k, hk, rfl, rfl⟩ K7 hK7
 refine AT_seq_k fun K8 hK8 => ?_
 refine sr fun Z z => ?_
 simp [row_map, encD, h2, h3, hb68]
 refine z _ ?_
 clear z Z
 refine AT_cond (g := none) rfl (fun hb88 => ?_) (fun hb88 => ?_)
 simp [row_map, encD, h2, h3, hb68] at hb88
 refine AT_skip ?_
 refine hK8 _ ?_
 refine AT_seq_k fun K9 hK9 => ?_
 refine AT_block ?_
 refine AT_seq_draw Pt.mixed (by kernel_rfl) fun Z z => ?_
 have hka : k < a.vars.length := by omega
 simp [row_map, encD, h2, h3, encS, hb68, hb88]
 refine z _ ?_
 clear z Z
 refine cF (by simp [hb68, hb88]) ?_
 refine AT_skip ?_
 refine hK9 _ ?_
 refine AT_region_q fun Z z => ?_
 simp [row_map, encD, h2, h3, hb68, hb88]
 repeat refine sg ?_
 refine z _ ?_
 clear z Z
 refine hK7 _ (by first | rfl | simp) (a.vars.length - (k+1)) (by omega) ?_
 exact ⟨k+1, by omega, by omega, by simp [encD]⟩
 simp [row_map, encD, h2, h3, hb68] at hb88
 refine AT_exit ?_
 refine hK6 _ ?_
 refine AT_seq_k fun K10 hK10 => ?_
 refine sr fun Z z => ?_
 simp [row_map, encD, h2, h3, hb68, hb88]
 refine RVn_call ((by have h := c_ref06x_Sig_x g rnd a.sig (by omega); simp only [encG] at h; exact h)) ?_
 simp [row_map, encD, h2, h3, hb68, hb88]
 repeat refine sg ?_
 refine RVn_call ((by have h := c_ref05x_Same g rnd a.body a.body (by omega); simp only [encE_def] at h; exact h)) ?_
 simp [row_map, encD, h2, h3, hb68, hb88]
 repeat refine sg ?_
 refine z _ ?_
 clear z Z
 refine cF (by simp [hb68, hb88]) ?_
 refine AT_skip ?_
 refine hK10 _ ?_
 refine sr fun Z z => ?_
 simp [row_map, encD, h2, h3, hb68, hb88]
 refine RVn_call ((by have h := c_ref05x_Equal g rnd a.body a.body (by omega); simp only [encE_def] at h; exact h)) ?_
 simp [row_map, encD, h2, h3, hb68, hb88]
 repeat refine sg ?_
 refine z _ ?_
 clear z Z
 refine AT_ret ?_
 simp [row_map, encD, h2, h3, Tryz.f12]
 skip

theorem c_ref06x_Program_x (a : Pg) (hw : wtPg a ≤ 400000000) : Valid Tryz.prog (G0 g rnd) 24 [.agg (encPg a), .agg (encPg a), .bool true] (.bool true) := by
 have hw2 : wtDs a.decls + wtE a.main ≤ 400000000 := hw
 have hlD := wtDs_len a.decls
 have h2 := sameE_refl a.main
 have h3 := eqE_refl a.main
 refine valid_of [] Tryz.func24 rfl (by kernel_rfl) ?_
 refine sr fun Z z => ?_
 simp [row_map, encPg, h2, h3, Tryz.f24]
 refine z _ ?_
 clear z Z
 refine AT_seq_k fun K1 hK1 => ?_
 refine sr fun Z z => ?_
 simp [row_map, encPg, h2, h3]
 refine RVn_call ((by have h := c_ref05x_Same g rnd a.main a.main (by omega); simp only [encE_def] at h; exact h)) ?_
 simp [row_map, encPg, h2, h3]
 repeat refine sg ?_
 refine RVn_call ((by have h := c_ref05x_Equal g rnd a.main a.main (by omega); simp only [encE_def] at h; exact h)) ?_
 simp [row_map, encPg, h2, h3]
 repeat refine sg ?_
 refine z _ ?_
 clear z Z
 refine cF (by simp) ?_
 refine AT_skip ?_
 refine hK1 _ ?_
 refine AT_seq_k fun K2 hK2 => ?_
 refine sr fun Z z => ?_
 simp [row_map, encPg, h2, h3]
 refine z _ ?_
 clear z Z
 refine AT_block ?_
 refine AT_loop_q [2,3,4,7] [3,4] (fun j s => ∃ k, k ≤ a.decls.length ∧ j = a.decls.length - k ∧ s = { n := 54, tm := [(2, .v (.bool true) none), (3, .lp 3 0), (4, .lp 4 0), (7, .v (.int .i64 k) none)], bx := [(3, encPg a), (4, encPg a)], tb := [], sh := [], hint := [] }) (a.decls.length) (by first | rfl | simp) ?_ ?_
 exact ⟨0, by simp [encPg]⟩
 rintro j s ⟨k, hk, rfl, rfl⟩ K3 hK3
 refine AT_seq_k fun K4 hK4 => ?_
 refine sr fun Z z => ?_
 simp [row_map, encPg, h2, h3]
 refine z _ ?_
 clear z Z
 refine AT_cond (g := none) rfl (fun hb38 => ?_) (fun hb38 => ?_)
 simp [row_map, encPg, h2, h3] at hb38
 refine AT_skip ?_
 refine hK4 _ ?_
 refine AT_seq_k fun K5 hK5 => ?_
 refine AT_block ?_
 refine AT_seq_draw Pt.mixed (by kernel_rfl) fun Z z => ?_
 have hka : k < a.decls.length := by omega
 have hm9 := wtDs_mem (l := a.decls) (f := a.decls[k]) (by simp)
 simp [row_map, encPg, h2, h3, hb38]
 refine RVdn_call (c_ref06x_Decl_x g rnd a.decls[k] (by omega)) ?_
 simp [row_map, encPg, h2, h3, hb38]
 refine z _ ?_
 clear z Z
 refine cF (by simp [hb38]) ?_
 refine AT_skip ?_
 refine hK5 _ ?_
 refine AT_region_q fun Z z => ?_
 simp [row_map, encPg, h2, h3, hb38]
 repeat refine sg ?_
 refine z _ ?_
 clear z Z
 refine hK3 _ (by first | rfl | simp) (a.decls.length - (k+1)) (by omega) ?_
 exact ⟨k+1, by omega, by omega, by simp [encPg]⟩
 simp [row_map, encPg, h2, h3] at hb38
 refine AT_exit ?_
 refine hK2 _ ?_
 refine sr fun Z z => ?_
 simp [row_map, encPg, h2, h3, hb38]
 refine z _ ?_
 clear z Z
 refine AT_ret ?_
 simp [row_map, encPg, h2, h3, Tryz.f24]
 skip

end Go.Proofs.YtdifpfehijnmiaaGreatDoor
end

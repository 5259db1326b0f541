import Derived.Test.YtdifpfehijnmiaaGreatDoorPt
import Derived.Test.YtdifpfehijnmiaaGreatDoorPvPb
import Derived.Test.YtdifpfehijnmiaaGreatDoorPvY
import Derived.Test.YtdifpfehijnmiaaGreatDoorPvDc
import Derived.Test.YtdifpfehijnmiaaGreatDoorXExD
import Derived.Test.YtdifpfehijnmiaaGreatDoorXExE
import Derived.Test.YtdifpfehijnmiaaGreatDoorXTyD
section
/- Contracts: declarations, compared. -/
set_option linter.all false
set_option maxHeartbeats 1000000
set_option maxRecDepth 10000
namespace Go.Proofs.YtdifpfehijnmiaaGreatDoor
open Go Go.Pv
variable (g : Nat → Option (List AV)) (rnd : Bool)

theorem c_decl_sameFormal (a b : Fm) (hw : wt a.ty ≤ 1000000000) : Valid Tryz.prog (G0 g rnd) 44 [.agg (encF a), .agg (encF b)] (.bool (sameF a b)) := by

 refine valid_of [] Tryz.func44 rfl (by kernel_rfl) ?_
 refine sr fun Z z => ?_
 simp [encF, Tryz.f44]
 refine z _ ?_
 clear z Z
 cases h1 : (a.name == b.name)
 refine sr fun Z z => ?_
 simp [encF, h1]
 refine z _ ?_
 clear z Z
 refine AT_ret ?_
 simp [encF, Tryz.f44]
 simp [sameF, h1]
 refine sr fun Z z => ?_
 simp [encF, h1]
 refine RVn_call ((by have h := c_types_Same g rnd a.ty b.ty (by omega); simp only [encTy_def] at h; exact h)) ?_
 simp [encF, h1]
 repeat refine sg ?_
 refine z _ ?_
 clear z Z
 refine AT_ret ?_
 simp [encF, Tryz.f44]
 simp [sameF, h1]

theorem c_slices_EqualFunc_api_Formal_api_Formal_api_Formal_api_Formal (a b : List Fm) (hl : a.length ≤ 1099511627776) (hs : ∀ x ∈ a, ∀ y ∈ b, Valid Tryz.prog (G0 g rnd) 44 [.agg (encF x), .agg (encF y)] (.bool (sameF x y))) : Valid Tryz.prog (G0 g rnd) 43 [.slice (a.map encF), .slice (b.map encF), .func 44 []] (.bool (eqL sameF a b)) := by

 refine valid_of [] Tryz.func43 rfl (by kernel_rfl) ?_
 refine sr fun Z z => ?_
 simp [row_map, Tryz.f43]
 refine z _ ?_
 clear z Z
 refine AT_seq_k fun K1 hK1 => ?_
 refine sr fun Z z => ?_
 simp [row_map]
 refine z _ ?_
 clear z Z
 refine AT_cond (g := none) rfl (fun hb14 => ?_) (fun hb14 => ?_)
 simp [row_map] at hb14
 refine sr fun Z z => ?_
 simp [row_map, hb14]
 refine z _ ?_
 clear z Z
 refine AT_ret ?_
 simp [row_map, Tryz.f43]
 (· rw [eqL_len (show a.length ≠ b.length by omega)])
 simp [row_map] at hb14
 have hab : a.length = b.length := by omega
 refine AT_skip ?_
 refine hK1 _ ?_
 refine AT_seq_k fun K2 hK2 => ?_
 refine sr fun Z z => ?_
 simp [row_map]
 refine z _ ?_
 clear z Z
 refine AT_block ?_
 refine AT_loop_q [0,1,2,15,16,17] [] (fun j s => ∃ k, k ≤ a.length ∧ eqL sameF a b = eqL sameF (a.drop k) (b.drop k) ∧ j = a.length - k ∧ s = { n := 32, tm := [(0, .v (.slice (a.map encF)) none), (1, .v (.slice (b.map encF)) none), (2, .v (.func 44 []) none), (15, .v (.slice (a.map encF)) none), (16, .v (.int .i64 a.length) none), (17, .v (.int .i64 k) none)], bx := [], tb := [], sh := [], hint := [] }) (a.length) (by first | rfl | simp) ?_ ?_
 exact ⟨0, by simp⟩
 rintro j s ⟨k, hk, hc, rfl, rfl⟩ K3 hK3
 refine sr fun Z z => ?_
 simp [row_map]
 refine z _ ?_
 clear z Z
 refine AT_seq_k fun K4 hK4 => ?_
 refine AT_cond (g := none) rfl (fun hb18 => ?_) (fun hb18 => ?_)
 simp [row_map] at hb18
 refine AT_skip ?_
 refine hK4 _ ?_
 refine AT_seq_k fun K5 hK5 => ?_
 refine AT_block ?_
 refine sr fun Z z => ?_
 simp [row_map, hb18]
 refine z _ ?_
 clear z Z
 refine sr fun Z z => ?_
 have hkb : k < b.length := by omega
 have hda := List.drop_eq_getElem_cons hb18
 have hdb := List.drop_eq_getElem_cons hkb
 simp [row_map, hkb, hb18]
 refine z _ ?_
 clear z Z
 refine sr fun Z z => ?_
 simp [row_map, hb18]
 refine RVn_call (hs a[k] (by simp) b[k] (by simp)) ?_
 simp [row_map, hb18]
 refine z _ ?_
 clear z Z
 refine AT_cond (g := none) rfl (fun hb30 => ?_) (fun hb30 => ?_)
 simp [row_map, hb18] at hb30
 refine sr fun Z z => ?_
 simp [row_map, hb18, hb30]
 refine z _ ?_
 clear z Z
 refine AT_ret ?_
 simp [row_map, Tryz.f43]
 (· rw [hc, hda, hdb, eqL_cons]; simp [hb30])
 simp [row_map, hb18] at hb30
 refine AT_skip ?_
 refine hK5 _ ?_
 refine AT_region_q fun Z z => ?_
 simp [row_map, hb18, hb30]
 repeat refine sg ?_
 refine z _ ?_
 clear z Z
 refine hK3 _ (by first | rfl | simp) (a.length - (k+1)) (by omega) ?_
 refine ⟨k+1, by omega, ?_, by omega, by simp⟩
 rw [hc, hda, hdb, eqL_cons]; simp [hb30]
 simp [row_map] at hb18
 refine AT_exit ?_
 refine hK2 _ ?_
 refine sr fun Z z => ?_
 simp [row_map, hb18]
 refine z _ ?_
 clear z Z
 refine AT_ret ?_
 simp [row_map, Tryz.f43]
 (· rw [hc, List.drop_eq_nil_of_le hb18, List.drop_eq_nil_of_le (show b.length ≤ k by omega)]; simp [eqL])

theorem c_decl_sameParam (a b : Fm) (hw : wt a.ty ≤ 1000000000) : Valid Tryz.prog (G0 g rnd) 46 [.agg (encF a), .agg (encF b)] (.bool (sameF a b)) := by

 refine valid_of [] Tryz.func46 rfl (by kernel_rfl) ?_
 refine sr fun Z z => ?_
 simp [encF, Tryz.f46]
 refine z _ ?_
 clear z Z
 cases h1 : (a.name == b.name)
 refine sr fun Z z => ?_
 simp [encF, h1]
 refine z _ ?_
 clear z Z
 refine AT_ret ?_
 simp [encF, Tryz.f46]
 simp [sameF, h1]
 refine sr fun Z z => ?_
 simp [encF, h1]
 refine RVn_call ((by have h := c_types_Same g rnd a.ty b.ty (by omega); simp only [encTy_def] at h; exact h)) ?_
 simp [encF, h1]
 repeat refine sg ?_
 refine z _ ?_
 clear z Z
 refine AT_ret ?_
 simp [encF, Tryz.f46]
 simp [sameF, h1]

theorem c_slices_EqualFunc_api_Param_api_Param_api_Param_api_Param (a b : List Fm) (hl : a.length ≤ 1099511627776) (hs : ∀ x ∈ a, ∀ y ∈ b, Valid Tryz.prog (G0 g rnd) 46 [.agg (encF x), .agg (encF y)] (.bool (sameF x y))) : Valid Tryz.prog (G0 g rnd) 45 [.slice (a.map encF), .slice (b.map encF), .func 46 []] (.bool (eqL sameF a b)) := by

 refine valid_of [] Tryz.func45 rfl (by kernel_rfl) ?_
 refine sr fun Z z => ?_
 simp [row_map, Tryz.f45]
 refine z _ ?_
 clear z Z
 refine AT_seq_k fun K1 hK1 => ?_
 refine sr fun Z z => ?_
 simp [row_map]
 refine z _ ?_
 clear z Z
 refine AT_cond (g := none) rfl (fun hb14 => ?_) (fun hb14 => ?_)
 simp [row_map] at hb14
 refine sr fun Z z => ?_
 simp [row_map, hb14]
 refine z _ ?_
 clear z Z
 refine AT_ret ?_
 simp [row_map, Tryz.f45]
 (· rw [eqL_len (show a.length ≠ b.length by omega)])
 simp [row_map] at hb14
 have hab : a.length = b.length := by omega
 refine AT_skip ?_
 refine hK1 _ ?_
 refine AT_seq_k fun K2 hK2 => ?_
 refine sr fun Z z => ?_
 simp [row_map]
 refine z _ ?_
 clear z Z
 refine AT_block ?_
 refine AT_loop_q [0,1,2,15,16,17] [] (fun j s => ∃ k, k ≤ a.length ∧ eqL sameF a b = eqL sameF (a.drop k) (b.drop k) ∧ j = a.length - k ∧ s = { n := 32, tm := [(0, .v (.slice (a.map encF)) none), (1, .v (.slice (b.map encF)) none), (2, .v (.func 46 []) none), (15, .v (.slice (a.map encF)) none), (16, .v (.int .i64 a.length) none), (17, .v (.int .i64 k) none)], bx := [], tb := [], sh := [], hint := [] }) (a.length) (by first | rfl | simp) ?_ ?_
 exact ⟨0, by simp⟩
 rintro j s ⟨k, hk, hc, rfl, rfl⟩ K3 hK3
 refine sr fun Z z => ?_
 simp [row_map]
 refine z _ ?_
 clear z Z
 refine AT_seq_k fun K4 hK4 => ?_
 refine AT_cond (g := none) rfl (fun hb18 => ?_) (fun hb18 => ?_)
 simp [row_map] at hb18
 refine AT_skip ?_
 refine hK4 _ ?_
 refine AT_seq_k fun K5 hK5 => ?_
 refine AT_block ?_
 refine sr fun Z z => ?_
 simp [row_map, hb18]
 refine z _ ?_
 clear z Z
 refine sr fun Z z => ?_
 have hkb : k < b.length := by omega
 have hda := List.drop_eq_getElem_cons hb18
 have hdb := List.drop_eq_getElem_cons hkb
 simp [row_map, hkb, hb18]
 refine z _ ?_
 clear z Z
 refine sr fun Z z => ?_
 simp [row_map, hb18]
 refine RVn_call (hs a[k] (by simp) b[k] (by simp)) ?_
 simp [row_map, hb18]
 refine z _ ?_
 clear z Z
 refine AT_cond (g := none) rfl (fun hb30 => ?_) (fun hb30 => ?_)
 simp [row_map, hb18] at hb30
 refine sr fun Z z => ?_
 simp [row_map, hb18, hb30]
 refine z _ ?_
 clear z Z
 refine AT_ret ?_
 simp [row_map, Tryz.f45]
 (· rw [hc, hda, hdb, eqL_cons]; simp [hb30])
 simp [row_map, hb18] at hb30
 refine AT_skip ?_
 refine hK5 _ ?_
 refine AT_region_q fun Z z => ?_
 simp [row_map, hb18, hb30]
 repeat refine sg ?_
 refine z _ ?_
 clear z Z
 refine hK3 _ (by first | rfl | simp) (a.length - (k+1)) (by omega) ?_
 refine ⟨k+1, by omega, ?_, by omega, by simp⟩
 rw [hc, hda, hdb, eqL_cons]; simp [hb30]
 simp [row_map] at hb18
 refine AT_exit ?_
 refine hK2 _ ?_
 refine sr fun Z z => ?_
 simp [row_map, hb18]
 refine z _ ?_
 clear z Z
 refine AT_ret ?_
 simp [row_map, Tryz.f45]
 (· rw [hc, List.drop_eq_nil_of_le hb18, List.drop_eq_nil_of_le (show b.length ≤ k by omega)]; simp [eqL])

theorem c_decl_SameSig (a b : Sg) (hw : wtG a ≤ 1000000000) : Valid Tryz.prog (G0 g rnd) 13 [.agg (encG a), .agg (encG b)] (.bool (sameG a b)) := by
 have hw2 : a.name.length + 1 + wtFs a.fms + wtFs a.pms + wt a.res ≤ 1000000000 := hw
 refine valid_of [] Tryz.func13 rfl (by kernel_rfl) ?_
 refine sr fun Z z => ?_
 simp [encG, Tryz.f13]
 refine z _ ?_
 clear z Z
 cases h1 : (a.name == b.name)
 refine sr fun Z z => ?_
 simp [encG, h1]
 refine z _ ?_
 clear z Z
 refine AT_ret ?_
 simp [encG, Tryz.f13]
 (· simp [sameG, h1])
 cases h2 : (eqL sameF a.fms b.fms)
 refine sr fun Z z => ?_
 simp [encG, h1, h2]
 refine RVn_call (c_slices_EqualFunc_api_Formal_api_Formal_api_Formal_api_Formal g rnd a.fms b.fms (by have := wtFs_len a.fms; omega) (fun x hx y _ => c_decl_sameFormal g rnd x y (by have := wtFs_mem hx; unfold wtF at this; omega))) ?_
 simp [encG, h1, h2]
 repeat refine sg ?_
 refine z _ ?_
 clear z Z
 refine AT_ret ?_
 simp [encG, Tryz.f13]
 (· simp [sameG, h1, h2])
 cases h3 : (eqL sameF a.pms b.pms)
 refine sr fun Z z => ?_
 simp [encG, h1, h2, h3]
 refine RVn_call (c_slices_EqualFunc_api_Formal_api_Formal_api_Formal_api_Formal g rnd a.fms b.fms (by have := wtFs_len a.fms; omega) (fun x hx y _ => c_decl_sameFormal g rnd x y (by have := wtFs_mem hx; unfold wtF at this; omega))) ?_
 simp [encG, h1, h2, h3]
 repeat refine sg ?_
 refine RVn_call (c_slices_EqualFunc_api_Param_api_Param_api_Param_api_Param g rnd a.pms b.pms (by have := wtFs_len a.pms; omega) (fun x hx y _ => c_decl_sameParam g rnd x y (by have := wtFs_mem hx; unfold wtF at this; omega))) ?_
 simp [encG, h1, h2, h3]
 repeat refine sg ?_
 refine z _ ?_
 clear z Z
 refine AT_ret ?_
 simp [encG, Tryz.f13]
 (· simp [sameG, h1, h2, h3])
 refine sr fun Z z => ?_
 simp [encG, h1, h2, h3]
 refine RVn_call (c_slices_EqualFunc_api_Formal_api_Formal_api_Formal_api_Formal g rnd a.fms b.fms (by have := wtFs_len a.fms; omega) (fun x hx y _ => c_decl_sameFormal g rnd x y (by have := wtFs_mem hx; unfold wtF at this; omega))) ?_
 simp [encG, h1, h2, h3]
 repeat refine sg ?_
 refine RVn_call (c_slices_EqualFunc_api_Param_api_Param_api_Param_api_Param g rnd a.pms b.pms (by have := wtFs_len a.pms; omega) (fun x hx y _ => c_decl_sameParam g rnd x y (by have := wtFs_mem hx; unfold wtF at this; omega))) ?_
 simp [encG, h1, h2, h3]
 repeat refine sg ?_
 refine RVn_call ((by have h := c_types_Same g rnd a.res b.res (by omega); simp only [encTy_def] at h; exact h)) ?_
 simp [encG, h1, h2, h3]
 repeat refine sg ?_
 refine z _ ?_
 clear z Z
 refine AT_ret ?_
 simp [encG, Tryz.f13]
 (· simp [sameG, h1, h2, h3])

theorem c_slices_EqualFunc_api_Sig_api_Sig_api_Sig_api_Sig (a b : List Sg) (hl : a.length ≤ 1099511627776) (hs : ∀ x ∈ a, ∀ y ∈ b, Valid Tryz.prog (G0 g rnd) 13 [.agg (encG x), .agg (encG y)] (.bool (sameG x y))) : Valid Tryz.prog (G0 g rnd) 47 [.slice (a.map encG), .slice (b.map encG), .func 13 []] (.bool (eqL sameG a b)) := by

 refine valid_of [] Tryz.func47 rfl (by kernel_rfl) ?_
 refine sr fun Z z => ?_
 simp [row_map, Tryz.f47]
 refine z _ ?_
 clear z Z
 refine AT_seq_k fun K1 hK1 => ?_
 refine sr fun Z z => ?_
 simp [row_map]
 refine z _ ?_
 clear z Z
 refine AT_cond (g := none) rfl (fun hb14 => ?_) (fun hb14 => ?_)
 simp [row_map] at hb14
 refine sr fun Z z => ?_
 simp [row_map, hb14]
 refine z _ ?_
 clear z Z
 refine AT_ret ?_
 simp [row_map, Tryz.f47]
 (· rw [eqL_len (show a.length ≠ b.length by omega)])
 simp [row_map] at hb14
 have hab : a.length = b.length := by omega
 refine AT_skip ?_
 refine hK1 _ ?_
 refine AT_seq_k fun K2 hK2 => ?_
 refine sr fun Z z => ?_
 simp [row_map]
 refine z _ ?_
 clear z Z
 refine AT_block ?_
 refine AT_loop_q [0,1,2,15,16,17] [] (fun j s => ∃ k, k ≤ a.length ∧ eqL sameG a b = eqL sameG (a.drop k) (b.drop k) ∧ j = a.length - k ∧ s = { n := 32, tm := [(0, .v (.slice (a.map encG)) none), (1, .v (.slice (b.map encG)) none), (2, .v (.func 13 []) none), (15, .v (.slice (a.map encG)) none), (16, .v (.int .i64 a.length) none), (17, .v (.int .i64 k) none)], bx := [], tb := [], sh := [], hint := [] }) (a.length) (by first | rfl | simp) ?_ ?_
 exact ⟨0, by simp⟩
 rintro j s ⟨k, hk, hc, rfl, rfl⟩ K3 hK3
 refine sr fun Z z => ?_
 simp [row_map]
 refine z _ ?_
 clear z Z
 refine AT_seq_k fun K4 hK4 => ?_
 refine AT_cond (g := none) rfl (fun hb18 => ?_) (fun hb18 => ?_)
 simp [row_map] at hb18
 refine AT_skip ?_
 refine hK4 _ ?_
 refine AT_seq_k fun K5 hK5 => ?_
 refine AT_block ?_
 refine sr fun Z z => ?_
 simp [row_map, hb18]
 refine z _ ?_
 clear z Z
 refine sr fun Z z => ?_
 have hkb : k < b.length := by omega
 have hda := List.drop_eq_getElem_cons hb18
 have hdb := List.drop_eq_getElem_cons hkb
 simp [row_map, hkb, hb18]
 refine z _ ?_
 clear z Z
 refine sr fun Z z => ?_
 simp [row_map, hb18]
 refine RVn_call (hs a[k] (by simp) b[k] (by simp)) ?_
 simp [row_map, hb18]
 refine z _ ?_
 clear z Z
 refine AT_cond (g := none) rfl (fun hb30 => ?_) (fun hb30 => ?_)
 simp [row_map, hb18] at hb30
 refine sr fun Z z => ?_
 simp [row_map, hb18, hb30]
 refine z _ ?_
 clear z Z
 refine AT_ret ?_
 simp [row_map, Tryz.f47]
 (· rw [hc, hda, hdb, eqL_cons]; simp [hb30])
 simp [row_map, hb18] at hb30
 refine AT_skip ?_
 refine hK5 _ ?_
 refine AT_region_q fun Z z => ?_
 simp [row_map, hb18, hb30]
 repeat refine sg ?_
 refine z _ ?_
 clear z Z
 refine hK3 _ (by first | rfl | simp) (a.length - (k+1)) (by omega) ?_
 refine ⟨k+1, by omega, ?_, by omega, by simp⟩
 rw [hc, hda, hdb, eqL_cons]; simp [hb30]
 simp [row_map] at hb18
 refine AT_exit ?_
 refine hK2 _ ?_
 refine sr fun Z z => ?_
 simp [row_map, hb18]
 refine z _ ?_
 clear z Z
 refine AT_ret ?_
 simp [row_map, Tryz.f47]
 (· rw [hc, List.drop_eq_nil_of_le hb18, List.drop_eq_nil_of_le (show b.length ≤ k by omega)]; simp [eqL])

theorem c_slices_Equal_string_string (a b : List Str) (hl : a.length ≤ 1099511627776) : Valid Tryz.prog (G0 g rnd) 48 [.slice (a.map encS), .slice (b.map encS)] (.bool (eqL (· == ·) a b)) := by

 refine valid_of [] Tryz.func48 rfl (by kernel_rfl) ?_
 refine sr fun Z z => ?_
 simp [row_map, Tryz.f48]
 refine z _ ?_
 clear z Z
 refine AT_seq_k fun K1 hK1 => ?_
 refine sr fun Z z => ?_
 simp [row_map]
 refine z _ ?_
 clear z Z
 refine AT_cond (g := none) rfl (fun hb10 => ?_) (fun hb10 => ?_)
 simp [row_map] at hb10
 refine sr fun Z z => ?_
 simp [row_map, hb10]
 refine z _ ?_
 clear z Z
 refine AT_ret ?_
 simp [row_map, Tryz.f48]
 (· rw [eqL_len (show a.length ≠ b.length by omega)])
 simp [row_map] at hb10
 have hab : a.length = b.length := by omega
 refine AT_skip ?_
 refine hK1 _ ?_
 refine AT_seq_k fun K2 hK2 => ?_
 refine sr fun Z z => ?_
 simp [row_map]
 refine z _ ?_
 clear z Z
 refine AT_block ?_
 refine AT_loop_q [0,1,12,13] [] (fun j s => ∃ k, k ≤ a.length ∧ eqL (· == ·) a b = eqL (· == ·) (a.drop k) (b.drop k) ∧ j = a.length - k ∧ s = { n := 26, tm := [(0, .v (.slice (a.map encS)) none), (1, .v (.slice (b.map encS)) none), (12, .v (.int .i64 a.length) none), (13, .v (.int .i64 k) none)], bx := [], tb := [], sh := [], hint := [] }) (a.length) (by first | rfl | simp) ?_ ?_
 exact ⟨0, by simp⟩
 rintro j s ⟨k, hk, hc, rfl, rfl⟩ K3 hK3
 refine sr fun Z z => ?_
 simp [row_map]
 refine z _ ?_
 clear z Z
 refine AT_seq_k fun K4 hK4 => ?_
 refine AT_cond (g := none) rfl (fun hb14 => ?_) (fun hb14 => ?_)
 simp [row_map] at hb14
 refine AT_skip ?_
 refine hK4 _ ?_
 refine AT_seq_k fun K5 hK5 => ?_
 refine AT_block ?_
 refine sr fun Z z => ?_
 simp [row_map, hb14]
 refine z _ ?_
 clear z Z
 refine AT_seq_draw Pt.mixed (by kernel_rfl) fun Z z => ?_
 have hkb : k < b.length := by omega
 have hda := List.drop_eq_getElem_cons hb14
 have hdb := List.drop_eq_getElem_cons hkb
 simp [row_map, hkb, encS, hb14]
 refine z _ ?_
 clear z Z
 refine AT_cond (g := none) rfl (fun hb24 => ?_) (fun hb24 => ?_)
 simp [row_map, hb14] at hb24
 refine sr fun Z z => ?_
 simp [row_map, hb14, hb24]
 refine z _ ?_
 clear z Z
 refine AT_ret ?_
 simp [row_map, Tryz.f48]
 (· rw [hc, hda, hdb, eqL_cons]; simp [hb24])
 simp [row_map, hb14] at hb24
 refine AT_skip ?_
 refine hK5 _ ?_
 refine AT_region_q fun Z z => ?_
 simp [row_map, hb14, hb24]
 repeat refine sg ?_
 refine z _ ?_
 clear z Z
 refine hK3 _ (by first | rfl | simp) (a.length - (k+1)) (by omega) ?_
 refine ⟨k+1, by omega, ?_, by omega, by simp⟩
 rw [hc, hda, hdb, eqL_cons]; simp [hb24]
 simp [row_map] at hb14
 refine AT_exit ?_
 refine hK2 _ ?_
 refine sr fun Z z => ?_
 simp [row_map, hb14]
 refine z _ ?_
 clear z Z
 refine AT_ret ?_
 simp [row_map, Tryz.f48]
 (· rw [hc, List.drop_eq_nil_of_le hb14, List.drop_eq_nil_of_le (show b.length ≤ k by omega)]; simp [eqL])

theorem c_decl_SameDecl (a b : Dc) (hw : wtD a ≤ 1000000000) : Valid Tryz.prog (G0 g rnd) 11 [.agg (encD a), .agg (encD b)] (.bool (sameD a b)) := by
 have hw2 : a.name.length + 1 + wtFs a.fms + wtFs a.flds + wtGs a.sigs + a.recv.length + wtSs a.vars + wtG a.sig + wtE a.body ≤ 1000000000 := hw
 refine valid_of [] Tryz.func11 rfl (by kernel_rfl) ?_
 refine sr fun Z z => ?_
 simp [encD, Tryz.f11]
 refine z _ ?_
 clear z Z
 cases h1 : (a.kind == b.kind)
 refine sr fun Z z => ?_
 simp [encD, h1]
 refine z _ ?_
 clear z Z
 cases h5 : (eqL sameG a.sigs b.sigs)
 refine sr fun Z z => ?_
 simp [encD, h1, h5]
 refine z _ ?_
 clear z Z
 refine AT_ret ?_
 simp [encD, Tryz.f11]
 (· simp [sameD, h1])
 cases h6 : (a.recv == b.recv)
 refine sr fun Z z => ?_
 simp [encD, h1, h5, h6]
 refine z _ ?_
 clear z Z
 refine AT_ret ?_
 simp [encD, Tryz.f11]
 (· simp [sameD, h1])
 cases h7 : (eqL (· == ·) a.vars b.vars)
 refine sr fun Z z => ?_
 simp [encD, h1, h5, h6, h7]
 refine z _ ?_
 clear z Z
 refine AT_ret ?_
 simp [encD, Tryz.f11]
 (· simp [sameD, h1])
 cases h8 : (sameG a.sig b.sig)
 refine sr fun Z z => ?_
 simp [encD, h1, h5, h6, h7, h8]
 refine z _ ?_
 clear z Z
 refine AT_ret ?_
 simp [encD, Tryz.f11]
 (· simp [sameD, h1])
 refine sr fun Z z => ?_
 simp [encD, h1, h5, h6, h7, h8]
 refine z _ ?_
 clear z Z
 refine AT_ret ?_
 simp [encD, Tryz.f11]
 (· simp [sameD, h1])
 cases h2 : (a.name == b.name)
 refine sr fun Z z => ?_
 simp [encD, h1, h2]
 refine z _ ?_
 clear z Z
 cases h5 : (eqL sameG a.sigs b.sigs)
 refine sr fun Z z => ?_
 simp [encD, h1, h2, h5]
 refine z _ ?_
 clear z Z
 refine AT_ret ?_
 simp [encD, Tryz.f11]
 (· simp [sameD, h1, h2])
 cases h6 : (a.recv == b.recv)
 refine sr fun Z z => ?_
 simp [encD, h1, h2, h5, h6]
 refine z _ ?_
 clear z Z
 refine AT_ret ?_
 simp [encD, Tryz.f11]
 (· simp [sameD, h1, h2])
 cases h7 : (eqL (· == ·) a.vars b.vars)
 refine sr fun Z z => ?_
 simp [encD, h1, h2, h5, h6, h7]
 refine z _ ?_
 clear z Z
 refine AT_ret ?_
 simp [encD, Tryz.f11]
 (· simp [sameD, h1, h2])
 cases h8 : (sameG a.sig b.sig)
 refine sr fun Z z => ?_
 simp [encD, h1, h2, h5, h6, h7, h8]
 refine z _ ?_
 clear z Z
 refine AT_ret ?_
 simp [encD, Tryz.f11]
 (· simp [sameD, h1, h2])
 refine sr fun Z z => ?_
 simp [encD, h1, h2, h5, h6, h7, h8]
 refine z _ ?_
 clear z Z
 refine AT_ret ?_
 simp [encD, Tryz.f11]
 (· simp [sameD, h1, h2])
 cases h3 : (eqL sameF a.fms b.fms)
 refine sr fun Z z => ?_
 simp [encD, h1, h2, h3]
 refine RVn_call (c_slices_EqualFunc_api_Formal_api_Formal_api_Formal_api_Formal g rnd a.fms b.fms (by have := wtFs_len a.fms; omega) (fun x hx y _ => c_decl_sameFormal g rnd x y (by have := wtFs_mem hx; unfold wtF at this; omega))) ?_
 simp [encD, h1, h2, h3]
 repeat refine sg ?_
 refine z _ ?_
 clear z Z
 cases h5 : (eqL sameG a.sigs b.sigs)
 refine sr fun Z z => ?_
 simp [encD, h1, h2, h3, h5]
 refine z _ ?_
 clear z Z
 refine AT_ret ?_
 simp [encD, Tryz.f11]
 (· simp [sameD, h1, h2, h3])
 cases h6 : (a.recv == b.recv)
 refine sr fun Z z => ?_
 simp [encD, h1, h2, h3, h5, h6]
 refine z _ ?_
 clear z Z
 refine AT_ret ?_
 simp [encD, Tryz.f11]
 (· simp [sameD, h1, h2, h3])
 cases h7 : (eqL (· == ·) a.vars b.vars)
 refine sr fun Z z => ?_
 simp [encD, h1, h2, h3, h5, h6, h7]
 refine z _ ?_
 clear z Z
 refine AT_ret ?_
 simp [encD, Tryz.f11]
 (· simp [sameD, h1, h2, h3])
 cases h8 : (sameG a.sig b.sig)
 refine sr fun Z z => ?_
 simp [encD, h1, h2, h3, h5, h6, h7, h8]
 refine z _ ?_
 clear z Z
 refine AT_ret ?_
 simp [encD, Tryz.f11]
 (· simp [sameD, h1, h2, h3])
 refine sr fun Z z => ?_
 simp [encD, h1, h2, h3, h5, h6, h7, h8]
 refine z _ ?_
 clear z Z
 refine AT_ret ?_
 simp [encD, Tryz.f11]
 (· simp [sameD, h1, h2, h3])
 cases h4 : (eqL sameF a.flds b.flds)
 refine sr fun Z z => ?_
 simp [encD, h1, h2, h3, h4]
 refine RVn_call (c_slices_EqualFunc_api_Formal_api_Formal_api_Formal_api_Formal g rnd a.fms b.fms (by have := wtFs_len a.fms; omega) (fun x hx y _ => c_decl_sameFormal g rnd x y (by have := wtFs_mem hx; unfold wtF at this; omega))) ?_
 simp [encD, h1, h2, h3, h4]
 repeat refine sg ?_
 refine RVn_call (c_slices_EqualFunc_api_Param_api_Param_api_Param_api_Param g rnd a.flds b.flds (by have := wtFs_len a.flds; omega) (fun x hx y _ => c_decl_sameParam g rnd x y (by have := wtFs_mem hx; unfold wtF at this; omega))) ?_
 simp [encD, h1, h2, h3, h4]
 repeat refine sg ?_
 refine z _ ?_
 clear z Z
 cases h5 : (eqL sameG a.sigs b.sigs)
 refine sr fun Z z => ?_
 simp [encD, h1, h2, h3, h4, h5]
 refine z _ ?_
 clear z Z
 refine AT_ret ?_
 simp [encD, Tryz.f11]
 (· simp [sameD, h1, h2, h3, h4])
 cases h6 : (a.recv == b.recv)
 refine sr fun Z z => ?_
 simp [encD, h1, h2, h3, h4, h5, h6]
 refine z _ ?_
 clear z Z
 refine AT_ret ?_
 simp [encD, Tryz.f11]
 (· simp [sameD, h1, h2, h3, h4])
 cases h7 : (eqL (· == ·) a.vars b.vars)
 refine sr fun Z z => ?_
 simp [encD, h1, h2, h3, h4, h5, h6, h7]
 refine z _ ?_
 clear z Z
 refine AT_ret ?_
 simp [encD, Tryz.f11]
 (· simp [sameD, h1, h2, h3, h4])
 cases h8 : (sameG a.sig b.sig)
 refine sr fun Z z => ?_
 simp [encD, h1, h2, h3, h4, h5, h6, h7, h8]
 refine z _ ?_
 clear z Z
 refine AT_ret ?_
 simp [encD, Tryz.f11]
 (· simp [sameD, h1, h2, h3, h4])
 refine sr fun Z z => ?_
 simp [encD, h1, h2, h3, h4, h5, h6, h7, h8]
 refine z _ ?_
 clear z Z
 refine AT_ret ?_
 simp [encD, Tryz.f11]
 (· simp [sameD, h1, h2, h3, h4])
 refine sr fun Z z => ?_
 simp [encD, h1, h2, h3, h4]
 refine RVn_call (c_slices_EqualFunc_api_Formal_api_Formal_api_Formal_api_Formal g rnd a.fms b.fms (by have := wtFs_len a.fms; omega) (fun x hx y _ => c_decl_sameFormal g rnd x y (by have := wtFs_mem hx; unfold wtF at this; omega))) ?_
 simp [encD, h1, h2, h3, h4]
 repeat refine sg ?_
 refine RVn_call (c_slices_EqualFunc_api_Param_api_Param_api_Param_api_Param g rnd a.flds b.flds (by have := wtFs_len a.flds; omega) (fun x hx y _ => c_decl_sameParam g rnd x y (by have := wtFs_mem hx; unfold wtF at this; omega))) ?_
 simp [encD, h1, h2, h3, h4]
 repeat refine sg ?_
 refine z _ ?_
 clear z Z
 cases h5 : (eqL sameG a.sigs b.sigs)
 refine sr fun Z z => ?_
 simp [encD, h1, h2, h3, h4, h5]
 refine RVn_call (c_slices_EqualFunc_api_Sig_api_Sig_api_Sig_api_Sig g rnd a.sigs b.sigs (by have := wtGs_len a.sigs; omega) (fun x hx y _ => c_decl_SameSig g rnd x y (by have := wtGs_mem hx; omega))) ?_
 simp [encD, h1, h2, h3, h4, h5]
 repeat refine sg ?_
 refine z _ ?_
 clear z Z
 refine AT_ret ?_
 simp [encD, Tryz.f11]
 (· simp [sameD, h1, h2, h3, h4, h5])
 cases h6 : (a.recv == b.recv)
 refine sr fun Z z => ?_
 simp [encD, h1, h2, h3, h4, h5, h6]
 refine RVn_call (c_slices_EqualFunc_api_Sig_api_Sig_api_Sig_api_Sig g rnd a.sigs b.sigs (by have := wtGs_len a.sigs; omega) (fun x hx y _ => c_decl_SameSig g rnd x y (by have := wtGs_mem hx; omega))) ?_
 simp [encD, h1, h2, h3, h4, h5, h6]
 repeat refine sg ?_
 refine z _ ?_
 clear z Z
 refine AT_ret ?_
 simp [encD, Tryz.f11]
 (· simp [sameD, h1, h2, h3, h4, h5, h6])
 cases h7 : (eqL (· == ·) a.vars b.vars)
 refine sr fun Z z => ?_
 simp [encD, h1, h2, h3, h4, h5, h6, h7]
 refine RVn_call (c_slices_EqualFunc_api_Sig_api_Sig_api_Sig_api_Sig g rnd a.sigs b.sigs (by have := wtGs_len a.sigs; omega) (fun x hx y _ => c_decl_SameSig g rnd x y (by have := wtGs_mem hx; omega))) ?_
 simp [encD, h1, h2, h3, h4, h5, h6, h7]
 repeat refine sg ?_
 refine RVn_call (c_slices_Equal_string_string g rnd a.vars b.vars (by have := wtSs_len a.vars; omega)) ?_
 simp [encD, h1, h2, h3, h4, h5, h6, h7]
 repeat refine sg ?_
 refine z _ ?_
 clear z Z
 refine AT_ret ?_
 simp [encD, Tryz.f11]
 (· simp [sameD, h1, h2, h3, h4, h5, h6, h7])
 cases h8 : (sameG a.sig b.sig)
 refine sr fun Z z => ?_
 simp [encD, h1, h2, h3, h4, h5, h6, h7, h8]
 refine RVn_call (c_slices_EqualFunc_api_Sig_api_Sig_api_Sig_api_Sig g rnd a.sigs b.sigs (by have := wtGs_len a.sigs; omega) (fun x hx y _ => c_decl_SameSig g rnd x y (by have := wtGs_mem hx; omega))) ?_
 simp [encD, h1, h2, h3, h4, h5, h6, h7, h8]
 repeat refine sg ?_
 refine RVn_call (c_slices_Equal_string_string g rnd a.vars b.vars (by have := wtSs_len a.vars; omega)) ?_
 simp [encD, h1, h2, h3, h4, h5, h6, h7, h8]
 repeat refine sg ?_
 refine RVn_call (c_decl_SameSig g rnd a.sig b.sig (by omega)) ?_
 simp [encD, h1, h2, h3, h4, h5, h6, h7, h8]
 repeat refine sg ?_
 refine z _ ?_
 clear z Z
 refine AT_ret ?_
 simp [encD, Tryz.f11]
 (· simp [sameD, h1, h2, h3, h4, h5, h6, h7, h8])
 refine sr fun Z z => ?_
 simp [encD, h1, h2, h3, h4, h5, h6, h7, h8]
 refine RVn_call (c_slices_EqualFunc_api_Sig_api_Sig_api_Sig_api_Sig g rnd a.sigs b.sigs (by have := wtGs_len a.sigs; omega) (fun x hx y _ => c_decl_SameSig g rnd x y (by have := wtGs_mem hx; omega))) ?_
 simp [encD, h1, h2, h3, h4, h5, h6, h7, h8]
 repeat refine sg ?_
 refine RVn_call (c_slices_Equal_string_string g rnd a.vars b.vars (by have := wtSs_len a.vars; omega)) ?_
 simp [encD, h1, h2, h3, h4, h5, h6, h7, h8]
 repeat refine sg ?_
 refine RVn_call (c_decl_SameSig g rnd a.sig b.sig (by omega)) ?_
 simp [encD, h1, h2, h3, h4, h5, h6, h7, h8]
 repeat refine sg ?_
 refine RVn_call ((by have h := c_expr_Same g rnd a.body b.body (by omega); simp only [encE_def] at h; exact h)) ?_
 simp [encD, h1, h2, h3, h4, h5, h6, h7, h8]
 repeat refine sg ?_
 refine z _ ?_
 clear z Z
 refine AT_ret ?_
 simp [encD, Tryz.f11]
 (· simp [sameD, h1, h2, h3, h4, h5, h6, h7, h8])

theorem c_slices_EqualFunc_api_Decl_api_Decl_api_Decl_api_Decl (a b : List Dc) (hl : a.length ≤ 1099511627776) (hs : ∀ x ∈ a, ∀ y ∈ b, Valid Tryz.prog (G0 g rnd) 11 [.agg (encD x), .agg (encD y)] (.bool (sameD x y))) : Valid Tryz.prog (G0 g rnd) 77 [.slice (a.map encD), .slice (b.map encD), .func 11 []] (.bool (eqL sameD a b)) := by

 refine valid_of [] Tryz.func77 rfl (by kernel_rfl) ?_
 refine sr fun Z z => ?_
 simp [row_map, Tryz.f77]
 refine z _ ?_
 clear z Z
 refine AT_seq_k fun K1 hK1 => ?_
 refine sr fun Z z => ?_
 simp [row_map]
 refine z _ ?_
 clear z Z
 refine AT_cond (g := none) rfl (fun hb14 => ?_) (fun hb14 => ?_)
 simp [row_map] at hb14
 refine sr fun Z z => ?_
 simp [row_map, hb14]
 refine z _ ?_
 clear z Z
 refine AT_ret ?_
 simp [row_map, Tryz.f77]
 (· rw [eqL_len (show a.length ≠ b.length by omega)])
 simp [row_map] at hb14
 have hab : a.length = b.length := by omega
 refine AT_skip ?_
 refine hK1 _ ?_
 refine AT_seq_k fun K2 hK2 => ?_
 refine sr fun Z z => ?_
 simp [row_map]
 refine z _ ?_
 clear z Z
 refine AT_block ?_
 refine AT_loop_q [0,1,2,15,16,17] [] (fun j s => ∃ k, k ≤ a.length ∧ eqL sameD a b = eqL sameD (a.drop k) (b.drop k) ∧ j = a.length - k ∧ s = { n := 32, tm := [(0, .v (.slice (a.map encD)) none), (1, .v (.slice (b.map encD)) none), (2, .v (.func 11 []) none), (15, .v (.slice (a.map encD)) none), (16, .v (.int .i64 a.length) none), (17, .v (.int .i64 k) none)], bx := [], tb := [], sh := [], hint := [] }) (a.length) (by first | rfl | simp) ?_ ?_
 exact ⟨0, by simp⟩
 rintro j s ⟨k, hk, hc, rfl, rfl⟩ K3 hK3
 refine sr fun Z z => ?_
 simp [row_map]
 refine z _ ?_
 clear z Z
 refine AT_seq_k fun K4 hK4 => ?_
 refine AT_cond (g := none) rfl (fun hb18 => ?_) (fun hb18 => ?_)
 simp [row_map] at hb18
 refine AT_skip ?_
 refine hK4 _ ?_
 refine AT_seq_k fun K5 hK5 => ?_
 refine AT_block ?_
 refine sr fun Z z => ?_
 simp [row_map, hb18]
 refine z _ ?_
 clear z Z
 refine sr fun Z z => ?_
 have hkb : k < b.length := by omega
 have hda := List.drop_eq_getElem_cons hb18
 have hdb := List.drop_eq_getElem_cons hkb
 simp [row_map, hkb, hb18]
 refine z _ ?_
 clear z Z
 refine sr fun Z z => ?_
 simp [row_map, hb18]
 refine RVn_call (hs a[k] (by simp) b[k] (by simp)) ?_
 simp [row_map, hb18]
 refine z _ ?_
 clear z Z
 refine AT_cond (g := none) rfl (fun hb30 => ?_) (fun hb30 => ?_)
 simp [row_map, hb18] at hb30
 refine sr fun Z z => ?_
 simp [row_map, hb18, hb30]
 refine z _ ?_
 clear z Z
 refine AT_ret ?_
 simp [row_map, Tryz.f77]
 (· rw [hc, hda, hdb, eqL_cons]; simp [hb30])
 simp [row_map, hb18] at hb30
 refine AT_skip ?_
 refine hK5 _ ?_
 refine AT_region_q fun Z z => ?_
 simp [row_map, hb18, hb30]
 repeat refine sg ?_
 refine z _ ?_
 clear z Z
 refine hK3 _ (by first | rfl | simp) (a.length - (k+1)) (by omega) ?_
 refine ⟨k+1, by omega, ?_, by omega, by simp⟩
 rw [hc, hda, hdb, eqL_cons]; simp [hb30]
 simp [row_map] at hb18
 refine AT_exit ?_
 refine hK2 _ ?_
 refine sr fun Z z => ?_
 simp [row_map, hb18]
 refine z _ ?_
 clear z Z
 refine AT_ret ?_
 simp [row_map, Tryz.f77]
 (· rw [hc, List.drop_eq_nil_of_le hb18, List.drop_eq_nil_of_le (show b.length ≤ k by omega)]; simp [eqL])

theorem c_decl_Same (a b : Pg) (hw : wtPg a ≤ 1000000000) : Valid Tryz.prog (G0 g rnd) 26 [.agg (encPg a), .agg (encPg b)] (.bool (sameP a b)) := by
 have hw2 : wtDs a.decls + wtE a.main ≤ 1000000000 := hw
 refine valid_of [] Tryz.func26 rfl (by kernel_rfl) ?_
 refine sr fun Z z => ?_
 simp [encPg, Tryz.f26]
 refine z _ ?_
 clear z Z
 cases h1 : (eqL sameD a.decls b.decls)
 refine sr fun Z z => ?_
 simp [encPg, h1]
 refine RVn_call (c_slices_EqualFunc_api_Decl_api_Decl_api_Decl_api_Decl g rnd a.decls b.decls (by have := wtDs_len a.decls; omega) (fun x hx y _ => c_decl_SameDecl g rnd x y (by have := wtDs_mem hx; omega))) ?_
 simp [encPg, h1]
 repeat refine sg ?_
 refine z _ ?_
 clear z Z
 refine AT_ret ?_
 simp [encPg, Tryz.f26]
 simp [sameP, h1]
 refine sr fun Z z => ?_
 simp [encPg, h1]
 refine RVn_call (c_slices_EqualFunc_api_Decl_api_Decl_api_Decl_api_Decl g rnd a.decls b.decls (by have := wtDs_len a.decls; omega) (fun x hx y _ => c_decl_SameDecl g rnd x y (by have := wtDs_mem hx; omega))) ?_
 simp [encPg, h1]
 repeat refine sg ?_
 refine RVn_call ((by have h := c_expr_Same g rnd a.main b.main (by omega); simp only [encE_def] at h; exact h)) ?_
 simp [encPg, h1]
 repeat refine sg ?_
 refine z _ ?_
 clear z Z
 refine AT_ret ?_
 simp [encPg, Tryz.f26]
 simp [sameP, h1]

end Go.Proofs.YtdifpfehijnmiaaGreatDoor
end

section
/- Contracts: every. -/
set_option linter.all false
set_option maxHeartbeats 1000000
set_option maxRecDepth 10000
namespace Go.Proofs.YtdifpfehijnmiaaGreatDoor
open Go Go.Pv
variable (g : Nat → Option (List AV)) (rnd : Bool)

theorem c_slices_IndexFunc_api_Formal_api_Formal_q (fid : Nat) (caps : List AV) (q : Fm → Bool) (l : List Fm) (hl : l.length ≤ 1099511627776) (hq : ∀ x ∈ l, Valid Tryz.prog (G0 g rnd) fid ([.agg (encF x)] ++ caps) (.bool (q x))) : Valid Tryz.prog (G0 g rnd) 128 [.slice (l.map encF), .func fid caps] (.int .i64 (idxQ q l 0)) := by

 refine valid_of [] Tryz.func128 rfl (by kernel_rfl) ?_
 refine sr fun Z z => ?_
 simp [row_map, Tryz.f128]
 refine z _ ?_
 clear z Z
 refine AT_seq_k fun K1 hK1 => ?_
 refine sr fun Z z => ?_
 simp [row_map]
 refine z _ ?_
 clear z Z
 refine AT_block ?_
 refine AT_loop_q [0,1,7,8] [] (fun j s => ∃ k, k ≤ l.length ∧ idxQ q l 0 = idxQ q (l.drop k) k ∧ j = l.length - k ∧ s = { n := 19, tm := [(0, .v (.slice (l.map encF)) none), (1, .v (.func fid caps) none), (7, .v (.int .i64 l.length) none), (8, .v (.int .i64 k) none)], bx := [], tb := [], sh := [], hint := [] }) (l.length) (by first | rfl | simp) ?_ ?_
 exact ⟨0, by simp⟩
 rintro j s ⟨k, hk, hc, rfl, rfl⟩ K2 hK2
 refine sr fun Z z => ?_
 simp [row_map]
 refine z _ ?_
 clear z Z
 refine AT_seq_k fun K3 hK3 => ?_
 refine AT_cond (g := none) rfl (fun hb9 => ?_) (fun hb9 => ?_)
 simp [row_map] at hb9
 refine AT_skip ?_
 refine hK3 _ ?_
 refine AT_seq_k fun K4 hK4 => ?_
 refine AT_block ?_
 refine sr fun Z z => ?_
 simp [row_map, hb9]
 refine z _ ?_
 clear z Z
 refine sr fun Z z => ?_
 have hk9 : k < l.length := by omega
 have hda := List.drop_eq_getElem_cons hk9
 simp [row_map, hb9]
 refine RVn_call (hq l[k] (by simp)) ?_
 simp [row_map, hb9]
 refine z _ ?_
 clear z Z
 refine AT_cond (g := none) rfl (fun hb16 => ?_) (fun hb16 => ?_)
 refine sr fun Z z => ?_
 simp [row_map, hb9, hb16]
 refine z _ ?_
 clear z Z
 refine AT_ret ?_
 simp [row_map, Tryz.f128]
 (· rw [hc, hda, idxQ, if_pos hb16])
 refine AT_skip ?_
 refine hK4 _ ?_
 refine AT_region_q fun Z z => ?_
 simp [row_map, hb9, hb16]
 repeat refine sg ?_
 refine z _ ?_
 clear z Z
 refine hK2 _ (by first | rfl | simp) (l.length - (k+1)) (by omega) ?_
 refine ⟨k+1, by omega, ?_, by omega, by simp⟩
 rw [hc, hda, idxQ, if_neg (by simp [hb16])]
 simp [row_map] at hb9
 refine AT_exit ?_
 refine hK1 _ ?_
 refine sr fun Z z => ?_
 simp [row_map, hb9]
 refine z _ ?_
 clear z Z
 refine AT_ret ?_
 simp [row_map, Tryz.f128]
 (rw [hc, List.drop_eq_nil_of_le (by omega)]; rfl)

theorem c_slices_ContainsFunc_api_Formal_api_Formal_q (fid : Nat) (caps : List AV) (q : Fm → Bool) (l : List Fm) (hl : l.length ≤ 1099511627776) (hq : ∀ x ∈ l, Valid Tryz.prog (G0 g rnd) fid ([.agg (encF x)] ++ caps) (.bool (q x))) : Valid Tryz.prog (G0 g rnd) 91 [.slice (l.map encF), .func fid caps] (.bool (l.any q)) := by

 refine valid_of [] Tryz.func91 rfl (by kernel_rfl) ?_
 refine sr fun Z z => ?_
 simp [Tryz.f91]
 refine z _ ?_
 clear z Z
 refine sr fun Z z => ?_
 simp
 refine RVn_call (c_slices_IndexFunc_api_Formal_api_Formal_q g rnd fid caps q l hl hq) ?_
 simp
 refine z _ ?_
 clear z Z
 refine AT_ret ?_
 simp [Tryz.f91]
 exact idxQ_any q l 0

theorem c_decl_every_api_Formal_1 (fid : Nat) (caps : List AV) (v : Bool) (x : Fm) (hx : Valid Tryz.prog (G0 g rnd) fid ([.agg (encF x)] ++ caps) (.bool v)) : Valid Tryz.prog (G0 g rnd) 92 [.agg (encF x), .ro [.func fid caps]] (.bool (!v)) := by

 refine valid_of [] Tryz.func92 rfl (by kernel_rfl) ?_
 refine sr fun Z z => ?_
 simp [Tryz.f92]
 refine z _ ?_
 clear z Z
 refine sr fun Z z => ?_
 simp
 refine RVn_call (hx) ?_
 simp
 refine z _ ?_
 clear z Z
 refine AT_ret ?_
 simp [Tryz.f92]

theorem c_decl_every_api_Formal (fid : Nat) (caps : List AV) (q : Fm → Bool) (l : List Fm) (hl : l.length ≤ 1099511627776) (hq : ∀ x ∈ l, Valid Tryz.prog (G0 g rnd) fid ([.agg (encF x)] ++ caps) (.bool (q x))) : Valid Tryz.prog (G0 g rnd) 32 [.slice (l.map encF), .func fid caps] (.bool (l.all q)) := by

 refine valid_of [(200003, 0)] Tryz.func32 rfl (by kernel_rfl) ?_
 refine sr fun Z z => ?_
 simp [Tryz.f32]
 refine z _ ?_
 clear z Z
 refine sr fun Z z => ?_
 simp
 refine RVn_call (c_slices_ContainsFunc_api_Formal_api_Formal_q g rnd 92 [.ro [.func fid caps]] (fun x => !q x) l hl (fun x hx => c_decl_every_api_Formal_1 g rnd fid caps (q x) x (hq x hx))) ?_
 simp
 refine z _ ?_
 clear z Z
 refine AT_ret ?_
 simp [Tryz.f32]
 simp [List.all_eq_not_any_not]

theorem c_slices_IndexFunc_api_Param_api_Param_q (fid : Nat) (caps : List AV) (q : Fm → Bool) (l : List Fm) (hl : l.length ≤ 1099511627776) (hq : ∀ x ∈ l, Valid Tryz.prog (G0 g rnd) fid ([.agg (encF x)] ++ caps) (.bool (q x))) : Valid Tryz.prog (G0 g rnd) 129 [.slice (l.map encF), .func fid caps] (.int .i64 (idxQ q l 0)) := by

 refine valid_of [] Tryz.func129 rfl (by kernel_rfl) ?_
 refine sr fun Z z => ?_
 simp [row_map, Tryz.f129]
 refine z _ ?_
 clear z Z
 refine AT_seq_k fun K1 hK1 => ?_
 refine sr fun Z z => ?_
 simp [row_map]
 refine z _ ?_
 clear z Z
 refine AT_block ?_
 refine AT_loop_q [0,1,7,8] [] (fun j s => ∃ k, k ≤ l.length ∧ idxQ q l 0 = idxQ q (l.drop k) k ∧ j = l.length - k ∧ s = { n := 19, tm := [(0, .v (.slice (l.map encF)) none), (1, .v (.func fid caps) none), (7, .v (.int .i64 l.length) none), (8, .v (.int .i64 k) none)], bx := [], tb := [], sh := [], hint := [] }) (l.length) (by first | rfl | simp) ?_ ?_
 exact ⟨0, by simp⟩
 rintro j s ⟨k, hk, hc, rfl, rfl⟩ K2 hK2
 refine sr fun Z z => ?_
 simp [row_map]
 refine z _ ?_
 clear z Z
 refine AT_seq_k fun K3 hK3 => ?_
 refine AT_cond (g := none) rfl (fun hb9 => ?_) (fun hb9 => ?_)
 simp [row_map] at hb9
 refine AT_skip ?_
 refine hK3 _ ?_
 refine AT_seq_k fun K4 hK4 => ?_
 refine AT_block ?_
 refine sr fun Z z => ?_
 simp [row_map, hb9]
 refine z _ ?_
 clear z Z
 refine sr fun Z z => ?_
 have hk9 : k < l.length := by omega
 have hda := List.drop_eq_getElem_cons hk9
 simp [row_map, hb9]
 refine RVn_call (hq l[k] (by simp)) ?_
 simp [row_map, hb9]
 refine z _ ?_
 clear z Z
 refine AT_cond (g := none) rfl (fun hb16 => ?_) (fun hb16 => ?_)
 refine sr fun Z z => ?_
 simp [row_map, hb9, hb16]
 refine z _ ?_
 clear z Z
 refine AT_ret ?_
 simp [row_map, Tryz.f129]
 (· rw [hc, hda, idxQ, if_pos hb16])
 refine AT_skip ?_
 refine hK4 _ ?_
 refine AT_region_q fun Z z => ?_
 simp [row_map, hb9, hb16]
 repeat refine sg ?_
 refine z _ ?_
 clear z Z
 refine hK2 _ (by first | rfl | simp) (l.length - (k+1)) (by omega) ?_
 refine ⟨k+1, by omega, ?_, by omega, by simp⟩
 rw [hc, hda, idxQ, if_neg (by simp [hb16])]
 simp [row_map] at hb9
 refine AT_exit ?_
 refine hK1 _ ?_
 refine sr fun Z z => ?_
 simp [row_map, hb9]
 refine z _ ?_
 clear z Z
 refine AT_ret ?_
 simp [row_map, Tryz.f129]
 (rw [hc, List.drop_eq_nil_of_le (by omega)]; rfl)

theorem c_slices_ContainsFunc_api_Param_api_Param_q (fid : Nat) (caps : List AV) (q : Fm → Bool) (l : List Fm) (hl : l.length ≤ 1099511627776) (hq : ∀ x ∈ l, Valid Tryz.prog (G0 g rnd) fid ([.agg (encF x)] ++ caps) (.bool (q x))) : Valid Tryz.prog (G0 g rnd) 93 [.slice (l.map encF), .func fid caps] (.bool (l.any q)) := by

 refine valid_of [] Tryz.func93 rfl (by kernel_rfl) ?_
 refine sr fun Z z => ?_
 simp [Tryz.f93]
 refine z _ ?_
 clear z Z
 refine sr fun Z z => ?_
 simp
 refine RVn_call (c_slices_IndexFunc_api_Param_api_Param_q g rnd fid caps q l hl hq) ?_
 simp
 refine z _ ?_
 clear z Z
 refine AT_ret ?_
 simp [Tryz.f93]
 exact idxQ_any q l 0

theorem c_decl_every_api_Param_1 (fid : Nat) (caps : List AV) (v : Bool) (x : Fm) (hx : Valid Tryz.prog (G0 g rnd) fid ([.agg (encF x)] ++ caps) (.bool v)) : Valid Tryz.prog (G0 g rnd) 94 [.agg (encF x), .ro [.func fid caps]] (.bool (!v)) := by

 refine valid_of [] Tryz.func94 rfl (by kernel_rfl) ?_
 refine sr fun Z z => ?_
 simp [Tryz.f94]
 refine z _ ?_
 clear z Z
 refine sr fun Z z => ?_
 simp
 refine RVn_call (hx) ?_
 simp
 refine z _ ?_
 clear z Z
 refine AT_ret ?_
 simp [Tryz.f94]

theorem c_decl_every_api_Param (fid : Nat) (caps : List AV) (q : Fm → Bool) (l : List Fm) (hl : l.length ≤ 1099511627776) (hq : ∀ x ∈ l, Valid Tryz.prog (G0 g rnd) fid ([.agg (encF x)] ++ caps) (.bool (q x))) : Valid Tryz.prog (G0 g rnd) 34 [.slice (l.map encF), .func fid caps] (.bool (l.all q)) := by

 refine valid_of [(200003, 0)] Tryz.func34 rfl (by kernel_rfl) ?_
 refine sr fun Z z => ?_
 simp [Tryz.f34]
 refine z _ ?_
 clear z Z
 refine sr fun Z z => ?_
 simp
 refine RVn_call (c_slices_ContainsFunc_api_Param_api_Param_q g rnd 94 [.ro [.func fid caps]] (fun x => !q x) l hl (fun x hx => c_decl_every_api_Param_1 g rnd fid caps (q x) x (hq x hx))) ?_
 simp
 refine z _ ?_
 clear z Z
 refine AT_ret ?_
 simp [Tryz.f34]
 simp [List.all_eq_not_any_not]

theorem c_slices_IndexFunc_api_Sig_api_Sig_q (fid : Nat) (caps : List AV) (q : Sg → Bool) (l : List Sg) (hl : l.length ≤ 1099511627776) (hq : ∀ x ∈ l, Valid Tryz.prog (G0 g rnd) fid ([.agg (encG x)] ++ caps) (.bool (q x))) : Valid Tryz.prog (G0 g rnd) 130 [.slice (l.map encG), .func fid caps] (.int .i64 (idxQ q l 0)) := by

 refine valid_of [] Tryz.func130 rfl (by kernel_rfl) ?_
 refine sr fun Z z => ?_
 simp [row_map, Tryz.f130]
 refine z _ ?_
 clear z Z
 refine AT_seq_k fun K1 hK1 => ?_
 refine sr fun Z z => ?_
 simp [row_map]
 refine z _ ?_
 clear z Z
 refine AT_block ?_
 refine AT_loop_q [0,1,7,8] [] (fun j s => ∃ k, k ≤ l.length ∧ idxQ q l 0 = idxQ q (l.drop k) k ∧ j = l.length - k ∧ s = { n := 19, tm := [(0, .v (.slice (l.map encG)) none), (1, .v (.func fid caps) none), (7, .v (.int .i64 l.length) none), (8, .v (.int .i64 k) none)], bx := [], tb := [], sh := [], hint := [] }) (l.length) (by first | rfl | simp) ?_ ?_
 exact ⟨0, by simp⟩
 rintro j s ⟨k, hk, hc, rfl, rfl⟩ K2 hK2
 refine sr fun Z z => ?_
 simp [row_map]
 refine z _ ?_
 clear z Z
 refine AT_seq_k fun K3 hK3 => ?_
 refine AT_cond (g := none) rfl (fun hb9 => ?_) (fun hb9 => ?_)
 simp [row_map] at hb9
 refine AT_skip ?_
 refine hK3 _ ?_
 refine AT_seq_k fun K4 hK4 => ?_
 refine AT_block ?_
 refine sr fun Z z => ?_
 simp [row_map, hb9]
 refine z _ ?_
 clear z Z
 refine sr fun Z z => ?_
 have hk9 : k < l.length := by omega
 have hda := List.drop_eq_getElem_cons hk9
 simp [row_map, hb9]
 refine RVn_call (hq l[k] (by simp)) ?_
 simp [row_map, hb9]
 refine z _ ?_
 clear z Z
 refine AT_cond (g := none) rfl (fun hb16 => ?_) (fun hb16 => ?_)
 refine sr fun Z z => ?_
 simp [row_map, hb9, hb16]
 refine z _ ?_
 clear z Z
 refine AT_ret ?_
 simp [row_map, Tryz.f130]
 (· rw [hc, hda, idxQ, if_pos hb16])
 refine AT_skip ?_
 refine hK4 _ ?_
 refine AT_region_q fun Z z => ?_
 simp [row_map, hb9, hb16]
 repeat refine sg ?_
 refine z _ ?_
 clear z Z
 refine hK2 _ (by first | rfl | simp) (l.length - (k+1)) (by omega) ?_
 refine ⟨k+1, by omega, ?_, by omega, by simp⟩
 rw [hc, hda, idxQ, if_neg (by simp [hb16])]
 simp [row_map] at hb9
 refine AT_exit ?_
 refine hK1 _ ?_
 refine sr fun Z z => ?_
 simp [row_map, hb9]
 refine z _ ?_
 clear z Z
 refine AT_ret ?_
 simp [row_map, Tryz.f130]
 (rw [hc, List.drop_eq_nil_of_le (by omega)]; rfl)

theorem c_slices_ContainsFunc_api_Sig_api_Sig_q (fid : Nat) (caps : List AV) (q : Sg → Bool) (l : List Sg) (hl : l.length ≤ 1099511627776) (hq : ∀ x ∈ l, Valid Tryz.prog (G0 g rnd) fid ([.agg (encG x)] ++ caps) (.bool (q x))) : Valid Tryz.prog (G0 g rnd) 95 [.slice (l.map encG), .func fid caps] (.bool (l.any q)) := by

 refine valid_of [] Tryz.func95 rfl (by kernel_rfl) ?_
 refine sr fun Z z => ?_
 simp [Tryz.f95]
 refine z _ ?_
 clear z Z
 refine sr fun Z z => ?_
 simp
 refine RVn_call (c_slices_IndexFunc_api_Sig_api_Sig_q g rnd fid caps q l hl hq) ?_
 simp
 refine z _ ?_
 clear z Z
 refine AT_ret ?_
 simp [Tryz.f95]
 exact idxQ_any q l 0

theorem c_decl_every_api_Sig_1 (fid : Nat) (caps : List AV) (v : Bool) (x : Sg) (hx : Valid Tryz.prog (G0 g rnd) fid ([.agg (encG x)] ++ caps) (.bool v)) : Valid Tryz.prog (G0 g rnd) 96 [.agg (encG x), .ro [.func fid caps]] (.bool (!v)) := by

 refine valid_of [] Tryz.func96 rfl (by kernel_rfl) ?_
 refine sr fun Z z => ?_
 simp [Tryz.f96]
 refine z _ ?_
 clear z Z
 refine sr fun Z z => ?_
 simp
 refine RVn_call (hx) ?_
 simp
 refine z _ ?_
 clear z Z
 refine AT_ret ?_
 simp [Tryz.f96]

theorem c_decl_every_api_Sig (fid : Nat) (caps : List AV) (q : Sg → Bool) (l : List Sg) (hl : l.length ≤ 1099511627776) (hq : ∀ x ∈ l, Valid Tryz.prog (G0 g rnd) fid ([.agg (encG x)] ++ caps) (.bool (q x))) : Valid Tryz.prog (G0 g rnd) 36 [.slice (l.map encG), .func fid caps] (.bool (l.all q)) := by

 refine valid_of [(200003, 0)] Tryz.func36 rfl (by kernel_rfl) ?_
 refine sr fun Z z => ?_
 simp [Tryz.f36]
 refine z _ ?_
 clear z Z
 refine sr fun Z z => ?_
 simp
 refine RVn_call (c_slices_ContainsFunc_api_Sig_api_Sig_q g rnd 96 [.ro [.func fid caps]] (fun x => !q x) l hl (fun x hx => c_decl_every_api_Sig_1 g rnd fid caps (q x) x (hq x hx))) ?_
 simp
 refine z _ ?_
 clear z Z
 refine AT_ret ?_
 simp [Tryz.f36]
 simp [List.all_eq_not_any_not]

theorem c_slices_IndexFunc_api_Decl_api_Decl_q (fid : Nat) (caps : List AV) (q : Dc → Bool) (l : List Dc) (hl : l.length ≤ 1099511627776) (hq : ∀ x ∈ l, Valid Tryz.prog (G0 g rnd) fid ([.agg (encD x)] ++ caps) (.bool (q x))) : Valid Tryz.prog (G0 g rnd) 140 [.slice (l.map encD), .func fid caps] (.int .i64 (idxQ q l 0)) := by

 refine valid_of [] Tryz.func140 rfl (by kernel_rfl) ?_
 refine sr fun Z z => ?_
 simp [row_map, Tryz.f140]
 refine z _ ?_
 clear z Z
 refine AT_seq_k fun K1 hK1 => ?_
 refine sr fun Z z => ?_
 simp [row_map]
 refine z _ ?_
 clear z Z
 refine AT_block ?_
 refine AT_loop_q [0,1,7,8] [] (fun j s => ∃ k, k ≤ l.length ∧ idxQ q l 0 = idxQ q (l.drop k) k ∧ j = l.length - k ∧ s = { n := 19, tm := [(0, .v (.slice (l.map encD)) none), (1, .v (.func fid caps) none), (7, .v (.int .i64 l.length) none), (8, .v (.int .i64 k) none)], bx := [], tb := [], sh := [], hint := [] }) (l.length) (by first | rfl | simp) ?_ ?_
 exact ⟨0, by simp⟩
 rintro j s ⟨k, hk, hc, rfl, rfl⟩ K2 hK2
 refine sr fun Z z => ?_
 simp [row_map]
 refine z _ ?_
 clear z Z
 refine AT_seq_k fun K3 hK3 => ?_
 refine AT_cond (g := none) rfl (fun hb9 => ?_) (fun hb9 => ?_)
 simp [row_map] at hb9
 refine AT_skip ?_
 refine hK3 _ ?_
 refine AT_seq_k fun K4 hK4 => ?_
 refine AT_block ?_
 refine sr fun Z z => ?_
 simp [row_map, hb9]
 refine z _ ?_
 clear z Z
 refine sr fun Z z => ?_
 have hk9 : k < l.length := by omega
 have hda := List.drop_eq_getElem_cons hk9
 simp [row_map, hb9]
 refine RVn_call (hq l[k] (by simp)) ?_
 simp [row_map, hb9]
 refine z _ ?_
 clear z Z
 refine AT_cond (g := none) rfl (fun hb16 => ?_) (fun hb16 => ?_)
 refine sr fun Z z => ?_
 simp [row_map, hb9, hb16]
 refine z _ ?_
 clear z Z
 refine AT_ret ?_
 simp [row_map, Tryz.f140]
 (· rw [hc, hda, idxQ, if_pos hb16])
 refine AT_skip ?_
 refine hK4 _ ?_
 refine AT_region_q fun Z z => ?_
 simp [row_map, hb9, hb16]
 repeat refine sg ?_
 refine z _ ?_
 clear z Z
 refine hK2 _ (by first | rfl | simp) (l.length - (k+1)) (by omega) ?_
 refine ⟨k+1, by omega, ?_, by omega, by simp⟩
 rw [hc, hda, idxQ, if_neg (by simp [hb16])]
 simp [row_map] at hb9
 refine AT_exit ?_
 refine hK1 _ ?_
 refine sr fun Z z => ?_
 simp [row_map, hb9]
 refine z _ ?_
 clear z Z
 refine AT_ret ?_
 simp [row_map, Tryz.f140]
 (rw [hc, List.drop_eq_nil_of_le (by omega)]; rfl)

theorem c_slices_ContainsFunc_api_Decl_api_Decl_q (fid : Nat) (caps : List AV) (q : Dc → Bool) (l : List Dc) (hl : l.length ≤ 1099511627776) (hq : ∀ x ∈ l, Valid Tryz.prog (G0 g rnd) fid ([.agg (encD x)] ++ caps) (.bool (q x))) : Valid Tryz.prog (G0 g rnd) 110 [.slice (l.map encD), .func fid caps] (.bool (l.any q)) := by

 refine valid_of [] Tryz.func110 rfl (by kernel_rfl) ?_
 refine sr fun Z z => ?_
 simp [Tryz.f110]
 refine z _ ?_
 clear z Z
 refine sr fun Z z => ?_
 simp
 refine RVn_call (c_slices_IndexFunc_api_Decl_api_Decl_q g rnd fid caps q l hl hq) ?_
 simp
 refine z _ ?_
 clear z Z
 refine AT_ret ?_
 simp [Tryz.f110]
 exact idxQ_any q l 0

theorem c_decl_every_api_Decl_1 (fid : Nat) (caps : List AV) (v : Bool) (x : Dc) (hx : Valid Tryz.prog (G0 g rnd) fid ([.agg (encD x)] ++ caps) (.bool v)) : Valid Tryz.prog (G0 g rnd) 111 [.agg (encD x), .ro [.func fid caps]] (.bool (!v)) := by

 refine valid_of [] Tryz.func111 rfl (by kernel_rfl) ?_
 refine sr fun Z z => ?_
 simp [Tryz.f111]
 refine z _ ?_
 clear z Z
 refine sr fun Z z => ?_
 simp
 refine RVn_call (hx) ?_
 simp
 refine z _ ?_
 clear z Z
 refine AT_ret ?_
 simp [Tryz.f111]

theorem c_decl_every_api_Decl (fid : Nat) (caps : List AV) (q : Dc → Bool) (l : List Dc) (hl : l.length ≤ 1099511627776) (hq : ∀ x ∈ l, Valid Tryz.prog (G0 g rnd) fid ([.agg (encD x)] ++ caps) (.bool (q x))) : Valid Tryz.prog (G0 g rnd) 71 [.slice (l.map encD), .func fid caps] (.bool (l.all q)) := by

 refine valid_of [(200003, 0)] Tryz.func71 rfl (by kernel_rfl) ?_
 refine sr fun Z z => ?_
 simp [Tryz.f71]
 refine z _ ?_
 clear z Z
 refine sr fun Z z => ?_
 simp
 refine RVn_call (c_slices_ContainsFunc_api_Decl_api_Decl_q g rnd 111 [.ro [.func fid caps]] (fun x => !q x) l hl (fun x hx => c_decl_every_api_Decl_1 g rnd fid caps (q x) x (hq x hx))) ?_
 simp
 refine z _ ?_
 clear z Z
 refine AT_ret ?_
 simp [Tryz.f71]
 simp [List.all_eq_not_any_not]

end Go.Proofs.YtdifpfehijnmiaaGreatDoor
end

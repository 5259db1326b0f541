import Derived.Test.YtepbmjchhcmcoaaGreatDoorPt
import Derived.Test.YtepbmjchhcmcoaaGreatDoorPvPb
import Derived.Test.YtepbmjchhcmcoaaGreatDoorPvY
import Derived.Test.YtepbmjchhcmcoaaGreatDoorPvDe
import Derived.Test.YtepbmjchhcmcoaaGreatDoorXDcN
import Derived.Test.YtepbmjchhcmcoaaGreatDoorPvDb
import Derived.Test.YtepbmjchhcmcoaaGreatDoorPvMb
import Derived.Test.YtepbmjchhcmcoaaGreatDoorXExC
import Derived.Test.YtepbmjchhcmcoaaGreatDoorXLbJ
import Derived.Test.YtepbmjchhcmcoaaGreatDoorXRdE
import Derived.Test.YtepbmjchhcmcoaaGreatDoorPvP
import Derived.Test.YtepbmjchhcmcoaaGreatDoorPvFc
import Derived.Test.YtepbmjchhcmcoaaGreatDoorXPrE
import Derived.Test.YtepbmjchhcmcoaaGreatDoorXDcP
section
/- Contracts: the reference on declarations. -/
set_option linter.all false
set_option maxHeartbeats 1000000
set_option maxRecDepth 10000
namespace Go.Proofs.YtepbmjchhcmcoaaGreatDoor
open Go Go.Pv
variable (g : Nat → Option (List AV)) (rnd : Bool)

theorem c_ref06x_rightFormals (a : List Fm) (hw : wtFs a ≤ 1000000000) : Valid Tryz.prog (G0 g rnd) 49 [.slice (a.map encF)] (.bool (a.all rightF)) := by
 have hl := wtFs_len a
 refine valid_of [] Tryz.func49 rfl (by kernel_rfl) ?_
 refine sr fun Z z => ?_
 simp [row_map, encF, Tryz.f49]
 refine z _ ?_
 clear z Z
 refine AT_seq_k fun K1 hK1 => ?_
 refine sr fun Z z => ?_
 simp [row_map, encF]
 refine z _ ?_
 clear z Z
 refine AT_block ?_
 refine AT_loop_q [0,3] [] (fun j s => ∃ k, k ≤ a.length ∧ a.all rightF = (a.drop k).all rightF ∧ j = a.length - k ∧ s = { n := 26, tm := [(0, .v (.slice (a.map encF)) none), (3, .v (.int .i64 k) none)], bx := [], tb := [], sh := [], hint := [] }) (a.length) (by first | rfl | simp) ?_ ?_
 exact ⟨0, by simp⟩
 rintro j s ⟨k, hk, hc, rfl, rfl⟩ K2 hK2
 refine AT_seq_k fun K3 hK3 => ?_
 refine sr fun Z z => ?_
 simp [row_map, encF]
 refine z _ ?_
 clear z Z
 refine AT_cond (g := none) rfl (fun hb7 => ?_) (fun hb7 => ?_)
 simp [row_map, encF] at hb7
 refine AT_skip ?_
 simp only [nrm, reduceIte, Nat.reduceEqDiff]
 refine hK3 _ ?_
 refine AT_seq_k fun K4 hK4 => ?_
 refine AT_block ?_
 cases h1 : (isName a[k].name)
 refine sr fun Z z => ?_
 have hka : k < a.length := by omega
 have hda := List.drop_eq_getElem_cons hka
 have hm9 := wtFs_mem (l := a) (f := a[k]) (by simp)
 have hm8 : wtF a[k] = a[k].name.length + 1 + wt a[k].ty := rfl
 simp [row_map, encF, hb7, h1]
 refine RVn_call (c_ref01x_Is g rnd a[k].name (by omega)) ?_
 simp [row_map, encF, hb7, h1]
 repeat refine sg ?_
 refine z _ ?_
 clear z Z
 refine AT_cond (b := true) (g := none) (by simp [hb7, h1]) (fun hb => ?_) (fun hb => ?_)
 clear hb
 refine sr fun Z z => ?_
 simp [row_map, encF, hb7, h1]
 refine z _ ?_
 clear z Z
 refine AT_ret ?_
 simp [row_map, encF, Tryz.f49]
 (have hz : a.all rightF = false := by rw [hc, hda, List.all_cons, rightF, h1]; rfl
  simpa using hz)
 cases hb
 cases h2 : (rightT a[k].ty)
 refine sr fun Z z => ?_
 have hka : k < a.length := by omega
 have hda := List.drop_eq_getElem_cons hka
 have hm9 := wtFs_mem (l := a) (f := a[k]) (by simp)
 have hm8 : wtF a[k] = a[k].name.length + 1 + wt a[k].ty := rfl
 simp [row_map, encF, hb7, h1, h2]
 refine RVn_call (c_ref01x_Is g rnd a[k].name (by omega)) ?_
 simp [row_map, encF, hb7, h1, h2]
 repeat refine sg ?_
 refine RVn_call ((by have h := c_ref04x_Right g rnd a[k].ty (by omega); simp only [encTy_def] at h; exact h)) ?_
 simp [row_map, encF, hb7, h1, h2]
 repeat refine sg ?_
 refine z _ ?_
 clear z Z
 refine AT_cond (b := true) (g := none) (by simp [hb7, h1, h2]) (fun hb => ?_) (fun hb => ?_)
 clear hb
 refine sr fun Z z => ?_
 simp [row_map, encF, hb7, h1, h2]
 refine z _ ?_
 clear z Z
 refine AT_ret ?_
 simp [row_map, encF, Tryz.f49]
 (have hz : a.all rightF = false := by rw [hc, hda, List.all_cons, rightF, h1, h2]; rfl
  simpa using hz)
 cases hb
 refine sr fun Z z => ?_
 have hka : k < a.length := by omega
 have hda := List.drop_eq_getElem_cons hka
 have hm9 := wtFs_mem (l := a) (f := a[k]) (by simp)
 have hm8 : wtF a[k] = a[k].name.length + 1 + wt a[k].ty := rfl
 simp [row_map, encF, hb7, h1, h2]
 refine RVn_call (c_ref01x_Is g rnd a[k].name (by omega)) ?_
 simp [row_map, encF, hb7, h1, h2]
 repeat refine sg ?_
 refine RVn_call ((by have h := c_ref04x_Right g rnd a[k].ty (by omega); simp only [encTy_def] at h; exact h)) ?_
 simp [row_map, encF, hb7, h1, h2]
 repeat refine sg ?_
 refine z _ ?_
 clear z Z
 refine AT_cond (b := false) (g := none) (by simp [hb7, h1, h2]) (fun hb => ?_) (fun hb => ?_)
 cases hb
 clear hb
 refine AT_skip ?_
 refine hK4 _ ?_
 refine AT_region_q fun Z z => ?_
 simp [row_map, encF, hb7, h1, h2]
 repeat refine sg ?_
 refine z _ ?_
 clear z Z
 simp only [nrm, reduceIte, Nat.reduceEqDiff]
 refine hK2 _ (by first | rfl | simp) (a.length - (k+1)) (by omega) ?_
 refine ⟨k+1, by omega, ?_, by omega, by simp⟩
 rw [hc, hda, List.all_cons, rightF, h1, h2]; rfl
 simp [row_map, encF] at hb7
 refine AT_exit ?_
 simp only [nrm, reduceIte, Nat.reduceEqDiff]
 refine hK1 _ ?_
 refine sr fun Z z => ?_
 simp [row_map, encF, hb7]
 refine z _ ?_
 clear z Z
 refine AT_ret ?_
 simp [row_map, encF, Tryz.f49]
 (have hz : a.all rightF = true := by rw [hc, List.drop_eq_nil_of_le (by omega)]; rfl
  simpa using hz)

theorem c_ref06x_rightParams (a : List Fm) (hw : wtFs a ≤ 1000000000) : Valid Tryz.prog (G0 g rnd) 50 [.slice (a.map encF)] (.bool (a.all rightF)) := by
 have hl := wtFs_len a
 refine valid_of [] Tryz.func50 rfl (by kernel_rfl) ?_
 refine sr fun Z z => ?_
 simp [row_map, encF, Tryz.f50]
 refine z _ ?_
 clear z Z
 refine AT_seq_k fun K1 hK1 => ?_
 refine sr fun Z z => ?_
 simp [row_map, encF]
 refine z _ ?_
 clear z Z
 refine AT_block ?_
 refine AT_loop_q [0,3] [] (fun j s => ∃ k, k ≤ a.length ∧ a.all rightF = (a.drop k).all rightF ∧ j = a.length - k ∧ s = { n := 26, tm := [(0, .v (.slice (a.map encF)) none), (3, .v (.int .i64 k) none)], bx := [], tb := [], sh := [], hint := [] }) (a.length) (by first | rfl | simp) ?_ ?_
 exact ⟨0, by simp⟩
 rintro j s ⟨k, hk, hc, rfl, rfl⟩ K2 hK2
 refine AT_seq_k fun K3 hK3 => ?_
 refine sr fun Z z => ?_
 simp [row_map, encF]
 refine z _ ?_
 clear z Z
 refine AT_cond (g := none) rfl (fun hb7 => ?_) (fun hb7 => ?_)
 simp [row_map, encF] at hb7
 refine AT_skip ?_
 simp only [nrm, reduceIte, Nat.reduceEqDiff]
 refine hK3 _ ?_
 refine AT_seq_k fun K4 hK4 => ?_
 refine AT_block ?_
 cases h1 : (isName a[k].name)
 refine sr fun Z z => ?_
 have hka : k < a.length := by omega
 have hda := List.drop_eq_getElem_cons hka
 have hm9 := wtFs_mem (l := a) (f := a[k]) (by simp)
 have hm8 : wtF a[k] = a[k].name.length + 1 + wt a[k].ty := rfl
 simp [row_map, encF, hb7, h1]
 refine RVn_call (c_ref01x_Is g rnd a[k].name (by omega)) ?_
 simp [row_map, encF, hb7, h1]
 repeat refine sg ?_
 refine z _ ?_
 clear z Z
 refine AT_cond (b := true) (g := none) (by simp [hb7, h1]) (fun hb => ?_) (fun hb => ?_)
 clear hb
 refine sr fun Z z => ?_
 simp [row_map, encF, hb7, h1]
 refine z _ ?_
 clear z Z
 refine AT_ret ?_
 simp [row_map, encF, Tryz.f50]
 (have hz : a.all rightF = false := by rw [hc, hda, List.all_cons, rightF, h1]; rfl
  simpa using hz)
 cases hb
 cases h2 : (rightT a[k].ty)
 refine sr fun Z z => ?_
 have hka : k < a.length := by omega
 have hda := List.drop_eq_getElem_cons hka
 have hm9 := wtFs_mem (l := a) (f := a[k]) (by simp)
 have hm8 : wtF a[k] = a[k].name.length + 1 + wt a[k].ty := rfl
 simp [row_map, encF, hb7, h1, h2]
 refine RVn_call (c_ref01x_Is g rnd a[k].name (by omega)) ?_
 simp [row_map, encF, hb7, h1, h2]
 repeat refine sg ?_
 refine RVn_call ((by have h := c_ref04x_Right g rnd a[k].ty (by omega); simp only [encTy_def] at h; exact h)) ?_
 simp [row_map, encF, hb7, h1, h2]
 repeat refine sg ?_
 refine z _ ?_
 clear z Z
 refine AT_cond (b := true) (g := none) (by simp [hb7, h1, h2]) (fun hb => ?_) (fun hb => ?_)
 clear hb
 refine sr fun Z z => ?_
 simp [row_map, encF, hb7, h1, h2]
 refine z _ ?_
 clear z Z
 refine AT_ret ?_
 simp [row_map, encF, Tryz.f50]
 (have hz : a.all rightF = false := by rw [hc, hda, List.all_cons, rightF, h1, h2]; rfl
  simpa using hz)
 cases hb
 refine sr fun Z z => ?_
 have hka : k < a.length := by omega
 have hda := List.drop_eq_getElem_cons hka
 have hm9 := wtFs_mem (l := a) (f := a[k]) (by simp)
 have hm8 : wtF a[k] = a[k].name.length + 1 + wt a[k].ty := rfl
 simp [row_map, encF, hb7, h1, h2]
 refine RVn_call (c_ref01x_Is g rnd a[k].name (by omega)) ?_
 simp [row_map, encF, hb7, h1, h2]
 repeat refine sg ?_
 refine RVn_call ((by have h := c_ref04x_Right g rnd a[k].ty (by omega); simp only [encTy_def] at h; exact h)) ?_
 simp [row_map, encF, hb7, h1, h2]
 repeat refine sg ?_
 refine z _ ?_
 clear z Z
 refine AT_cond (b := false) (g := none) (by simp [hb7, h1, h2]) (fun hb => ?_) (fun hb => ?_)
 cases hb
 clear hb
 refine AT_skip ?_
 refine hK4 _ ?_
 refine AT_region_q fun Z z => ?_
 simp [row_map, encF, hb7, h1, h2]
 repeat refine sg ?_
 refine z _ ?_
 clear z Z
 simp only [nrm, reduceIte, Nat.reduceEqDiff]
 refine hK2 _ (by first | rfl | simp) (a.length - (k+1)) (by omega) ?_
 refine ⟨k+1, by omega, ?_, by omega, by simp⟩
 rw [hc, hda, List.all_cons, rightF, h1, h2]; rfl
 simp [row_map, encF] at hb7
 refine AT_exit ?_
 simp only [nrm, reduceIte, Nat.reduceEqDiff]
 refine hK1 _ ?_
 refine sr fun Z z => ?_
 simp [row_map, encF, hb7]
 refine z _ ?_
 clear z Z
 refine AT_ret ?_
 simp [row_map, encF, Tryz.f50]
 (have hz : a.all rightF = true := by rw [hc, List.drop_eq_nil_of_le (by omega)]; rfl
  simpa using hz)

theorem c_ref06x_rightSig (a : Sg) (hw : wtG a ≤ 1000000000) : Valid Tryz.prog (G0 g rnd) 51 [.agg (encG a)] (.bool (rightG a)) := by
 have hw2 : a.name.length + 1 + wtFs a.fms + wtFs a.pms + wt a.res ≤ 1000000000 := hw
 refine valid_of [] Tryz.func51 rfl (by kernel_rfl) ?_
 refine sr fun Z z => ?_
 simp [encG, Tryz.f51]
 refine z _ ?_
 clear z Z
 cases h1 : (isName a.name)
 refine sr fun Z z => ?_
 simp [encG, h1]
 refine RVn_call (c_ref01x_Is g rnd a.name (by omega)) ?_
 simp [encG, h1]
 repeat refine sg ?_
 refine z _ ?_
 clear z Z
 refine AT_ret ?_
 simp [encG, Tryz.f51]
 (· simp [rightG, h1])
 cases h2 : (a.fms.all rightF)
 refine sr fun Z z => ?_
 simp [encG, h1, h2]
 refine RVn_call (c_ref01x_Is g rnd a.name (by omega)) ?_
 simp [encG, h1, h2]
 repeat refine sg ?_
 refine RVn_call (c_ref06x_rightFormals g rnd a.fms (by omega)) ?_
 simp [encG, h1, h2]
 repeat refine sg ?_
 refine z _ ?_
 clear z Z
 refine AT_ret ?_
 simp [encG, Tryz.f51]
 (· simp [rightG, h1, h2])
 cases h3 : (a.pms.all rightF)
 refine sr fun Z z => ?_
 simp [encG, h1, h2, h3]
 refine RVn_call (c_ref01x_Is g rnd a.name (by omega)) ?_
 simp [encG, h1, h2, h3]
 repeat refine sg ?_
 refine RVn_call (c_ref06x_rightFormals g rnd a.fms (by omega)) ?_
 simp [encG, h1, h2, h3]
 repeat refine sg ?_
 refine RVn_call (c_ref06x_rightParams g rnd a.pms (by omega)) ?_
 simp [encG, h1, h2, h3]
 repeat refine sg ?_
 refine z _ ?_
 clear z Z
 refine AT_ret ?_
 simp [encG, Tryz.f51]
 (· simp [rightG, h1, h2, h3])
 refine sr fun Z z => ?_
 simp [encG, h1, h2, h3]
 refine RVn_call (c_ref01x_Is g rnd a.name (by omega)) ?_
 simp [encG, h1, h2, h3]
 repeat refine sg ?_
 refine RVn_call (c_ref06x_rightFormals g rnd a.fms (by omega)) ?_
 simp [encG, h1, h2, h3]
 repeat refine sg ?_
 refine RVn_call (c_ref06x_rightParams g rnd a.pms (by omega)) ?_
 simp [encG, h1, h2, h3]
 repeat refine sg ?_
 refine RVn_call ((by have h := c_ref04x_Right g rnd a.res (by omega); simp only [encTy_def] at h; exact h)) ?_
 simp [encG, h1, h2, h3]
 repeat refine sg ?_
 refine z _ ?_
 clear z Z
 refine AT_ret ?_
 simp [encG, Tryz.f51]
 (· simp [rightG, h1, h2, h3])

theorem c_ref06x_RightDecl (a : Dc) (hw : wtD a ≤ 400000000) : Valid Tryz.prog (G0 g rnd) 19 [.agg (encD a)] (.bool (rightD a)) := by
 have hw2 : a.name.length + 1 + wtFs a.fms + wtFs a.flds + wtGs a.sigs + a.recv.length + wtSs a.vars + wtG a.sig + wtE a.body ≤ 400000000 := hw
 have hl1 := wtFs_len a.fms
 have hl2 := wtFs_len a.flds
 have hl3 := wtGs_len a.sigs
 have hl4 := wtSs_len a.vars
 refine valid_of [] Tryz.func19 rfl (by kernel_rfl) ?_
 refine sr fun Z z => ?_
 simp [row_map, encD, len_is0, Tryz.f19]
 refine z _ ?_
 clear z Z
 refine AT_seq_k fun K1 hK1 => ?_
 cases h1 : (isName a.name)
 refine sr fun Z z => ?_
 simp [row_map, encD, len_is0, h1]
 refine RVn_call (c_ref01x_Is g rnd a.name (by omega)) ?_
 simp [row_map, encD, len_is0, h1]
 repeat refine sg ?_
 refine z _ ?_
 clear z Z
 refine AT_cond (b := true) (g := none) (by simp [h1]) (fun hb => ?_) (fun hb => ?_)
 clear hb
 refine sr fun Z z => ?_
 simp [row_map, encD, len_is0, h1]
 refine z _ ?_
 clear z Z
 refine AT_ret ?_
 simp [row_map, encD, len_is0, Tryz.f19]
 rw [rightD_eq]
 (· simp only [rightDR, h1, Bool.false_and])
 cases hb
 cases h2 : (a.fms.all rightF)
 refine sr fun Z z => ?_
 simp [row_map, encD, len_is0, h1, h2]
 refine RVn_call (c_ref01x_Is g rnd a.name (by omega)) ?_
 simp [row_map, encD, len_is0, h1, h2]
 repeat refine sg ?_
 refine RVn_call (c_ref06x_rightFormals g rnd a.fms (by omega)) ?_
 simp [row_map, encD, len_is0, h1, h2]
 repeat refine sg ?_
 refine z _ ?_
 clear z Z
 refine AT_cond (b := true) (g := none) (by simp [h1, h2]) (fun hb => ?_) (fun hb => ?_)
 clear hb
 refine sr fun Z z => ?_
 simp [row_map, encD, len_is0, h1, h2]
 refine z _ ?_
 clear z Z
 refine AT_ret ?_
 simp [row_map, encD, len_is0, Tryz.f19]
 rw [rightD_eq]
 (· simp only [rightDR, h2, Bool.false_and, Bool.and_false])
 cases hb
 cases h3 : (a.flds.all rightF)
 refine sr fun Z z => ?_
 simp [row_map, encD, len_is0, h1, h2, h3]
 refine RVn_call (c_ref01x_Is g rnd a.name (by omega)) ?_
 simp [row_map, encD, len_is0, h1, h2, h3]
 repeat refine sg ?_
 refine RVn_call (c_ref06x_rightFormals g rnd a.fms (by omega)) ?_
 simp [row_map, encD, len_is0, h1, h2, h3]
 repeat refine sg ?_
 refine RVn_call (c_ref06x_rightParams g rnd a.flds (by omega)) ?_
 simp [row_map, encD, len_is0, h1, h2, h3]
 repeat refine sg ?_
 refine z _ ?_
 clear z Z
 refine AT_cond (b := true) (g := none) (by simp [h1, h2, h3]) (fun hb => ?_) (fun hb => ?_)
 clear hb
 refine sr fun Z z => ?_
 simp [row_map, encD, len_is0, h1, h2, h3]
 refine z _ ?_
 clear z Z
 refine AT_ret ?_
 simp [row_map, encD, len_is0, Tryz.f19]
 rw [rightD_eq]
 (· simp only [rightDR, h3, Bool.false_and, Bool.and_false])
 cases hb
 refine sr fun Z z => ?_
 simp [row_map, encD, len_is0, h1, h2, h3]
 refine RVn_call (c_ref01x_Is g rnd a.name (by omega)) ?_
 simp [row_map, encD, len_is0, h1, h2, h3]
 repeat refine sg ?_
 refine RVn_call (c_ref06x_rightFormals g rnd a.fms (by omega)) ?_
 simp [row_map, encD, len_is0, h1, h2, h3]
 repeat refine sg ?_
 refine RVn_call (c_ref06x_rightParams g rnd a.flds (by omega)) ?_
 simp [row_map, encD, len_is0, h1, h2, h3]
 repeat refine sg ?_
 refine z _ ?_
 clear z Z
 refine AT_cond (b := false) (g := none) (by simp [h1, h2, h3]) (fun hb => ?_) (fun hb => ?_)
 cases hb
 clear hb
 refine AT_skip ?_
 simp only [nrm, reduceIte, Nat.reduceEqDiff]
 refine hK1 _ ?_
 refine AT_seq_k fun K2 hK2 => ?_
 refine sr fun Z z => ?_
 simp [row_map, encD, len_is0, h1, h2, h3]
 refine z _ ?_
 clear z Z
 refine AT_block ?_
 refine AT_loop_q [1,3] [1] (fun j s => ∃ k, k ≤ a.sigs.length ∧ a.sigs.all rightG = (a.sigs.drop k).all rightG ∧ j = a.sigs.length - k ∧ s = { n := 124, tm := [(1, .lp 1 0), (3, .v (.int .i64 k) none)], bx := [(1, encD a)], tb := [], sh := [], hint := [] }) (a.sigs.length) (by first | rfl | simp) ?_ ?_
 exact ⟨0, by simp [encD]⟩
 rintro j s ⟨k, hk, hc, rfl, rfl⟩ K3 hK3
 refine AT_seq_k fun K4 hK4 => ?_
 refine sr fun Z z => ?_
 simp [row_map, encD, len_is0, h1, h2, h3]
 refine z _ ?_
 clear z Z
 refine AT_cond (g := none) rfl (fun hb26 => ?_) (fun hb26 => ?_)
 simp [row_map, encD, len_is0, h1, h2, h3] at hb26
 refine AT_skip ?_
 simp only [nrm, reduceIte, Nat.reduceEqDiff]
 refine hK4 _ ?_
 refine AT_seq_k fun K5 hK5 => ?_
 refine AT_block ?_
 refine sr fun Z z => ?_
 have hka : k < a.sigs.length := by omega
 have hda := List.drop_eq_getElem_cons hka
 have hm9 := wtGs_mem (l := a.sigs) (f := a.sigs[k]) (by simp)
 simp [row_map, encD, len_is0, encG, h1, h2, h3, hb26]
 refine RVn_call ((by have h := c_ref06x_rightSig g rnd a.sigs[k] (by omega); simp only [encG] at h; exact h)) ?_
 simp [row_map, encD, len_is0, encG, h1, h2, h3, hb26]
 refine z _ ?_
 clear z Z
 refine AT_cond (g := none) rfl (fun hb35 => ?_) (fun hb35 => ?_)
 simp [row_map, encD, len_is0, h1, h2, h3, hb26] at hb35
 refine sr fun Z z => ?_
 simp [row_map, encD, len_is0, h1, h2, h3, hb26]
 refine z _ ?_
 clear z Z
 refine AT_ret ?_
 simp [row_map, encD, len_is0, Tryz.f19]
 rw [rightD_eq]
 (· rw [rightDR, hc, hda, List.all_cons, hb35]; simp only [Bool.false_and, Bool.and_false])
 simp [row_map, encD, len_is0, h1, h2, h3, hb26] at hb35
 refine AT_skip ?_
 refine hK5 _ ?_
 refine AT_region_q fun Z z => ?_
 simp [row_map, encD, len_is0, h1, h2, h3, hb26]
 repeat refine sg ?_
 refine z _ ?_
 clear z Z
 simp only [nrm, reduceIte, Nat.reduceEqDiff]
 refine hK3 _ (by first | rfl | simp) (a.sigs.length - (k+1)) (by omega) ?_
 refine ⟨k+1, by omega, ?_, by omega, by simp [encD]⟩
 rw [hc, hda, List.all_cons, hb35]; rfl
 simp [row_map, encD, len_is0, h1, h2, h3] at hb26
 refine AT_exit ?_
 simp only [nrm, reduceIte, Nat.reduceEqDiff]
 refine hK2 _ ?_
 refine AT_seq_k fun K6 hK6 => ?_
 refine sr fun Z z => ?_
 have hS : a.sigs.all rightG = true := by rw [hc, List.drop_eq_nil_of_le (by omega)]; rfl
 simp [row_map, encD, len_is0, h1, h2, h3, hb26]
 refine z _ ?_
 clear z Z
 refine AT_block ?_
 refine AT_loop_q [1,4] [1] (fun j s => ∃ k, k ≤ a.vars.length ∧ a.vars.all isName = (a.vars.drop k).all isName ∧ j = a.vars.length - k ∧ s = { n := 124, tm := [(1, .lp 1 0), (4, .v (.int .i64 k) none)], bx := [(1, encD a)], tb := [], sh := [], hint := [] }) (a.vars.length) (by first | rfl | simp) ?_ ?_
 exact ⟨0, by simp [encD]⟩
 rintro j s ⟨k, hk, hv, rfl, rfl⟩ K7 hK7
 refine AT_seq_k fun K8 hK8 => ?_
 refine sr fun Z z => ?_
 simp [row_map, encD, len_is0, h1, h2, h3, hb26]
 refine z _ ?_
 clear z Z
 refine AT_cond (g := none) rfl (fun hb40 => ?_) (fun hb40 => ?_)
 simp [row_map, encD, len_is0, h1, h2, h3, hb26] at hb40
 refine AT_skip ?_
 simp only [nrm, reduceIte, Nat.reduceEqDiff]
 refine hK8 _ ?_
 refine AT_seq_k fun K9 hK9 => ?_
 refine AT_block ?_
 refine sr fun Z z => ?_
 have hka : k < a.vars.length := by omega
 have hda := List.drop_eq_getElem_cons hka
 have hm9 := wtSs_mem (l := a.vars) (f := a.vars[k]) (by simp)
 simp [row_map, encD, len_is0, encS, h1, h2, h3, hb26, hb40]
 refine RVn_call (c_ref01x_Is g rnd a.vars[k] (by omega)) ?_
 simp [row_map, encD, len_is0, encS, h1, h2, h3, hb26, hb40]
 refine z _ ?_
 clear z Z
 refine AT_cond (g := none) rfl (fun hb49 => ?_) (fun hb49 => ?_)
 simp [row_map, encD, len_is0, h1, h2, h3, hb26, hb40] at hb49
 refine sr fun Z z => ?_
 simp [row_map, encD, len_is0, h1, h2, h3, hb26, hb40]
 refine z _ ?_
 clear z Z
 refine AT_ret ?_
 simp [row_map, encD, len_is0, Tryz.f19]
 rw [rightD_eq]
 (· rw [rightDR, hv, hda, List.all_cons, hb49]; simp only [Bool.false_and, Bool.and_false])
 simp [row_map, encD, len_is0, h1, h2, h3, hb26, hb40] at hb49
 refine AT_skip ?_
 refine hK9 _ ?_
 refine AT_region_q fun Z z => ?_
 simp [row_map, encD, len_is0, h1, h2, h3, hb26, hb40]
 repeat refine sg ?_
 refine z _ ?_
 clear z Z
 simp only [nrm, reduceIte, Nat.reduceEqDiff]
 refine hK7 _ (by first | rfl | simp) (a.vars.length - (k+1)) (by omega) ?_
 refine ⟨k+1, by omega, ?_, by omega, by simp [encD]⟩
 rw [hv, hda, List.all_cons, hb49]; rfl
 simp [row_map, encD, len_is0, h1, h2, h3, hb26] at hb40
 refine AT_exit ?_
 simp only [nrm, reduceIte, Nat.reduceEqDiff]
 refine hK6 _ ?_
 refine AT_seq_k fun K10 hK10 => ?_
 cases hk3 : (a.kind == 3)
 refine sr fun Z z => ?_
 have hV : a.vars.all isName = true := by rw [hv, List.drop_eq_nil_of_le (by omega)]; rfl
 simp [row_map, encD, len_is0, h1, h2, h3, hb26, hb40, hk3]
 refine z _ ?_
 clear z Z
 refine AT_cond (b := false) (g := none) (by simp [h1, h2, h3, hb26, hb40, hk3]) (fun hb => ?_) (fun hb => ?_)
 cases hb
 clear hb
 refine AT_skip ?_
 simp only [nrm, reduceIte, Nat.reduceEqDiff]
 refine hK10 _ ?_
 cases h4 : (a.recv == [])
 refine sr fun Z z => ?_
 simp [row_map, encD, len_is0, h1, h2, h3, hb26, hb40, hk3, h4]
 refine z _ ?_
 clear z Z
 cases h8 : (a.kind == 1)
 cases h10 : (a.kind == 2)
 refine sr fun Z z => ?_
 simp [row_map, encD, len_is0, h1, h2, h3, hb26, hb40, hk3, h4, h8, h10]
 refine z _ ?_
 clear z Z
 refine AT_ret ?_
 simp [row_map, encD, len_is0, Tryz.f19]
 rw [rightD_eq]
 (rw [rightDR_no h1 h2 h3 hS hV hk3, h4]; rfl)
 refine sr fun Z z => ?_
 simp [row_map, encD, len_is0, h1, h2, h3, hb26, hb40, hk3, h4, h8, h10]
 refine z _ ?_
 clear z Z
 refine AT_ret ?_
 simp [row_map, encD, len_is0, Tryz.f19]
 rw [rightD_eq]
 (rw [rightDR_no h1 h2 h3 hS hV hk3, h4]; rfl)
 cases h9 : a.sigs.isEmpty
 cases h10 : (a.kind == 2)
 refine sr fun Z z => ?_
 simp [row_map, encD, len_is0, h1, h2, h3, hb26, hb40, hk3, h4, h8, h9, h10]
 refine z _ ?_
 clear z Z
 refine AT_ret ?_
 simp [row_map, encD, len_is0, Tryz.f19]
 rw [rightD_eq]
 (rw [rightDR_no h1 h2 h3 hS hV hk3, h4]; rfl)
 refine sr fun Z z => ?_
 simp [row_map, encD, len_is0, h1, h2, h3, hb26, hb40, hk3, h4, h8, h9, h10]
 refine z _ ?_
 clear z Z
 refine AT_ret ?_
 simp [row_map, encD, len_is0, Tryz.f19]
 rw [rightD_eq]
 (rw [rightDR_no h1 h2 h3 hS hV hk3, h4]; rfl)
 refine sr fun Z z => ?_
 simp [row_map, encD, len_is0, h1, h2, h3, hb26, hb40, hk3, h4, h8, h9]
 refine z _ ?_
 clear z Z
 refine AT_ret ?_
 simp [row_map, encD, len_is0, Tryz.f19]
 rw [rightD_eq]
 (rw [rightDR_no h1 h2 h3 hS hV hk3, h4]; rfl)
 cases h5 : (a.vars.isEmpty)
 refine sr fun Z z => ?_
 simp [row_map, encD, len_is0, h1, h2, h3, hb26, hb40, hk3, h4, h5]
 refine z _ ?_
 clear z Z
 cases h8 : (a.kind == 1)
 cases h10 : (a.kind == 2)
 refine sr fun Z z => ?_
 simp [row_map, encD, len_is0, h1, h2, h3, hb26, hb40, hk3, h4, h5, h8, h10]
 refine z _ ?_
 clear z Z
 refine AT_ret ?_
 simp [row_map, encD, len_is0, Tryz.f19]
 rw [rightD_eq]
 (rw [rightDR_no h1 h2 h3 hS hV hk3, h4, h5]; rfl)
 refine sr fun Z z => ?_
 simp [row_map, encD, len_is0, h1, h2, h3, hb26, hb40, hk3, h4, h5, h8, h10]
 refine z _ ?_
 clear z Z
 refine AT_ret ?_
 simp [row_map, encD, len_is0, Tryz.f19]
 rw [rightD_eq]
 (rw [rightDR_no h1 h2 h3 hS hV hk3, h4, h5]; rfl)
 cases h9 : a.sigs.isEmpty
 cases h10 : (a.kind == 2)
 refine sr fun Z z => ?_
 simp [row_map, encD, len_is0, h1, h2, h3, hb26, hb40, hk3, h4, h5, h8, h9, h10]
 refine z _ ?_
 clear z Z
 refine AT_ret ?_
 simp [row_map, encD, len_is0, Tryz.f19]
 rw [rightD_eq]
 (rw [rightDR_no h1 h2 h3 hS hV hk3, h4, h5]; rfl)
 refine sr fun Z z => ?_
 simp [row_map, encD, len_is0, h1, h2, h3, hb26, hb40, hk3, h4, h5, h8, h9, h10]
 refine z _ ?_
 clear z Z
 refine AT_ret ?_
 simp [row_map, encD, len_is0, Tryz.f19]
 rw [rightD_eq]
 (rw [rightDR_no h1 h2 h3 hS hV hk3, h4, h5]; rfl)
 refine sr fun Z z => ?_
 simp [row_map, encD, len_is0, h1, h2, h3, hb26, hb40, hk3, h4, h5, h8, h9]
 refine z _ ?_
 clear z Z
 refine AT_ret ?_
 simp [row_map, encD, len_is0, Tryz.f19]
 rw [rightD_eq]
 (rw [rightDR_no h1 h2 h3 hS hV hk3, h4, h5]; rfl)
 cases h6 : (sameG a.sig ⟨[], [], [], .mk [] [] 0, 0⟩)
 refine sr fun Z z => ?_
 simp [row_map, encD, len_is0, h1, h2, h3, hb26, hb40, hk3, h4, h5, h6]
 refine RVn_call ((by have h := c_ref06x_Sig g rnd a.sig ⟨[], [], [], .mk [] [] 0, 0⟩ (by omega); simp only [encG,  List.map_nil, Ty.name, Ty.args, Ty.pos] at h ⊢; exact h)) ?_
 simp [row_map, encD, len_is0, h1, h2, h3, hb26, hb40, hk3, h4, h5, h6]
 repeat refine sg ?_
 refine z _ ?_
 clear z Z
 cases h8 : (a.kind == 1)
 cases h10 : (a.kind == 2)
 refine sr fun Z z => ?_
 simp [row_map, encD, len_is0, h1, h2, h3, hb26, hb40, hk3, h4, h5, h6, h8, h10]
 refine z _ ?_
 clear z Z
 refine AT_ret ?_
 simp [row_map, encD, len_is0, Tryz.f19]
 rw [rightD_eq]
 (rw [rightDR_no h1 h2 h3 hS hV hk3, h4, h5, h6]; rfl)
 refine sr fun Z z => ?_
 simp [row_map, encD, len_is0, h1, h2, h3, hb26, hb40, hk3, h4, h5, h6, h8, h10]
 refine z _ ?_
 clear z Z
 refine AT_ret ?_
 simp [row_map, encD, len_is0, Tryz.f19]
 rw [rightD_eq]
 (rw [rightDR_no h1 h2 h3 hS hV hk3, h4, h5, h6]; rfl)
 cases h9 : a.sigs.isEmpty
 cases h10 : (a.kind == 2)
 refine sr fun Z z => ?_
 simp [row_map, encD, len_is0, h1, h2, h3, hb26, hb40, hk3, h4, h5, h6, h8, h9, h10]
 refine z _ ?_
 clear z Z
 refine AT_ret ?_
 simp [row_map, encD, len_is0, Tryz.f19]
 rw [rightD_eq]
 (rw [rightDR_no h1 h2 h3 hS hV hk3, h4, h5, h6]; rfl)
 refine sr fun Z z => ?_
 simp [row_map, encD, len_is0, h1, h2, h3, hb26, hb40, hk3, h4, h5, h6, h8, h9, h10]
 refine z _ ?_
 clear z Z
 refine AT_ret ?_
 simp [row_map, encD, len_is0, Tryz.f19]
 rw [rightD_eq]
 (rw [rightDR_no h1 h2 h3 hS hV hk3, h4, h5, h6]; rfl)
 refine sr fun Z z => ?_
 simp [row_map, encD, len_is0, h1, h2, h3, hb26, hb40, hk3, h4, h5, h6, h8, h9]
 refine z _ ?_
 clear z Z
 refine AT_ret ?_
 simp [row_map, encD, len_is0, Tryz.f19]
 rw [rightD_eq]
 (rw [rightDR_no h1 h2 h3 hS hV hk3, h4, h5, h6]; rfl)
 cases h7 : (sameE a.body (.mk 0 [] (.mk [] [] 0) [] [] 0))
 refine sr fun Z z => ?_
 simp [row_map, encD, len_is0, h1, h2, h3, hb26, hb40, hk3, h4, h5, h6, h7]
 refine RVn_call ((by have h := c_ref06x_Sig g rnd a.sig ⟨[], [], [], .mk [] [] 0, 0⟩ (by omega); simp only [encG,  List.map_nil, Ty.name, Ty.args, Ty.pos] at h ⊢; exact h)) ?_
 simp [row_map, encD, len_is0, h1, h2, h3, hb26, hb40, hk3, h4, h5, h6, h7]
 repeat refine sg ?_
 refine RVn_call ((by have h := c_ref05x_Same g rnd a.body (.mk 0 [] (.mk [] [] 0) [] [] 0) (by omega); simp only [encE_def,  List.map_nil, Ty.name, Ty.args, Ty.pos, Exp.kind, Exp.name, Exp.ty, Exp.ta, Exp.kids, Exp.pos] at h ⊢; exact h)) ?_
 simp [row_map, encD, len_is0, h1, h2, h3, hb26, hb40, hk3, h4, h5, h6, h7]
 repeat refine sg ?_
 refine z _ ?_
 clear z Z
 cases h8 : (a.kind == 1)
 cases h10 : (a.kind == 2)
 refine sr fun Z z => ?_
 simp [row_map, encD, len_is0, h1, h2, h3, hb26, hb40, hk3, h4, h5, h6, h7, h8, h10]
 refine z _ ?_
 clear z Z
 refine AT_ret ?_
 simp [row_map, encD, len_is0, Tryz.f19]
 rw [rightD_eq]
 (rw [rightDR_no h1 h2 h3 hS hV hk3, h4, h5, h6, h7]; rfl)
 refine sr fun Z z => ?_
 simp [row_map, encD, len_is0, h1, h2, h3, hb26, hb40, hk3, h4, h5, h6, h7, h8, h10]
 refine z _ ?_
 clear z Z
 refine AT_ret ?_
 simp [row_map, encD, len_is0, Tryz.f19]
 rw [rightD_eq]
 (rw [rightDR_no h1 h2 h3 hS hV hk3, h4, h5, h6, h7]; rfl)
 cases h9 : a.sigs.isEmpty
 cases h10 : (a.kind == 2)
 refine sr fun Z z => ?_
 simp [row_map, encD, len_is0, h1, h2, h3, hb26, hb40, hk3, h4, h5, h6, h7, h8, h9, h10]
 refine z _ ?_
 clear z Z
 refine AT_ret ?_
 simp [row_map, encD, len_is0, Tryz.f19]
 rw [rightD_eq]
 (rw [rightDR_no h1 h2 h3 hS hV hk3, h4, h5, h6, h7]; rfl)
 refine sr fun Z z => ?_
 simp [row_map, encD, len_is0, h1, h2, h3, hb26, hb40, hk3, h4, h5, h6, h7, h8, h9, h10]
 refine z _ ?_
 clear z Z
 refine AT_ret ?_
 simp [row_map, encD, len_is0, Tryz.f19]
 rw [rightD_eq]
 (rw [rightDR_no h1 h2 h3 hS hV hk3, h4, h5, h6, h7]; rfl)
 refine sr fun Z z => ?_
 simp [row_map, encD, len_is0, h1, h2, h3, hb26, hb40, hk3, h4, h5, h6, h7, h8, h9]
 refine z _ ?_
 clear z Z
 refine AT_ret ?_
 simp [row_map, encD, len_is0, Tryz.f19]
 rw [rightD_eq]
 (rw [rightDR_no h1 h2 h3 hS hV hk3, h4, h5, h6, h7]; rfl)
 refine sr fun Z z => ?_
 simp [row_map, encD, len_is0, h1, h2, h3, hb26, hb40, hk3, h4, h5, h6, h7]
 refine RVn_call ((by have h := c_ref06x_Sig g rnd a.sig ⟨[], [], [], .mk [] [] 0, 0⟩ (by omega); simp only [encG,  List.map_nil, Ty.name, Ty.args, Ty.pos] at h ⊢; exact h)) ?_
 simp [row_map, encD, len_is0, h1, h2, h3, hb26, hb40, hk3, h4, h5, h6, h7]
 repeat refine sg ?_
 refine RVn_call ((by have h := c_ref05x_Same g rnd a.body (.mk 0 [] (.mk [] [] 0) [] [] 0) (by omega); simp only [encE_def,  List.map_nil, Ty.name, Ty.args, Ty.pos, Exp.kind, Exp.name, Exp.ty, Exp.ta, Exp.kids, Exp.pos] at h ⊢; exact h)) ?_
 simp [row_map, encD, len_is0, h1, h2, h3, hb26, hb40, hk3, h4, h5, h6, h7]
 repeat refine sg ?_
 refine z _ ?_
 clear z Z
 cases h8 : (a.kind == 1)
 cases h10 : (a.kind == 2)
 refine sr fun Z z => ?_
 simp [row_map, encD, len_is0, h1, h2, h3, hb26, hb40, hk3, h4, h5, h6, h7, h8, h10]
 refine z _ ?_
 clear z Z
 refine AT_ret ?_
 simp [row_map, encD, len_is0, Tryz.f19]
 rw [rightD_eq]
 (rw [rightDR_no h1 h2 h3 hS hV hk3, h4, h5, h6, h7, h8, h10]; rfl)
 refine sr fun Z z => ?_
 simp [row_map, encD, len_is0, h1, h2, h3, hb26, hb40, hk3, h4, h5, h6, h7, h8, h10]
 refine z _ ?_
 clear z Z
 refine AT_ret ?_
 simp [row_map, encD, len_is0, Tryz.f19]
 rw [rightD_eq]
 (rw [rightDR_no h1 h2 h3 hS hV hk3, h4, h5, h6, h7, h8, h10]; rfl)
 cases h9 : a.sigs.isEmpty
 cases h10 : (a.kind == 2)
 refine sr fun Z z => ?_
 simp [row_map, encD, len_is0, h1, h2, h3, hb26, hb40, hk3, h4, h5, h6, h7, h8, h9, h10]
 refine z _ ?_
 clear z Z
 refine AT_ret ?_
 simp [row_map, encD, len_is0, Tryz.f19]
 rw [rightD_eq]
 (rw [rightDR_no h1 h2 h3 hS hV hk3, h4, h5, h6, h7, h8, h9, h10]; rfl)
 refine sr fun Z z => ?_
 simp [row_map, encD, len_is0, h1, h2, h3, hb26, hb40, hk3, h4, h5, h6, h7, h8, h9, h10]
 refine z _ ?_
 clear z Z
 refine AT_ret ?_
 simp [row_map, encD, len_is0, Tryz.f19]
 rw [rightD_eq]
 (rw [rightDR_no h1 h2 h3 hS hV hk3, h4, h5, h6, h7, h8, h9, h10]; rfl)
 refine sr fun Z z => ?_
 simp [row_map, encD, len_is0, h1, h2, h3, hb26, hb40, hk3, h4, h5, h6, h7, h8, h9]
 refine z _ ?_
 clear z Z
 refine AT_ret ?_
 simp [row_map, encD, len_is0, Tryz.f19]
 rw [rightD_eq]
 (rw [rightDR_no h1 h2 h3 hS hV hk3, h4, h5, h6, h7, h8, h9]; rfl)
 refine sr fun Z z => ?_
 have hV : a.vars.all isName = true := by rw [hv, List.drop_eq_nil_of_le (by omega)]; rfl
 simp [row_map, encD, len_is0, h1, h2, h3, hb26, hb40, hk3]
 refine z _ ?_
 clear z Z
 refine AT_cond (b := true) (g := none) (by simp [h1, h2, h3, hb26, hb40, hk3]) (fun hb => ?_) (fun hb => ?_)
 clear hb
 cases h4 : (isName a.recv)
 refine sr fun Z z => ?_
 simp [row_map, encD, len_is0, h1, h2, h3, hb26, hb40, hk3, h4]
 refine RVn_call (c_ref01x_Is g rnd a.recv (by omega)) ?_
 simp [row_map, encD, len_is0, h1, h2, h3, hb26, hb40, hk3, h4]
 repeat refine sg ?_
 refine z _ ?_
 clear z Z
 refine AT_ret ?_
 simp [row_map, encD, len_is0, Tryz.f19]
 rw [rightD_eq]
 (rw [rightDR_yes h1 h2 h3 hS hV hk3, h4]; rfl)
 cases h5 : ((a.fms.length : Int) + a.flds.length + a.sigs.length == 0)
 refine sr fun Z z => ?_
 simp [row_map, encD, len_is0, h1, h2, h3, hb26, hb40, hk3, h4, h5]
 refine RVn_call (c_ref01x_Is g rnd a.recv (by omega)) ?_
 simp [row_map, encD, len_is0, h1, h2, h3, hb26, hb40, hk3, h4, h5]
 repeat refine sg ?_
 refine z _ ?_
 clear z Z
 refine AT_ret ?_
 simp [row_map, encD, len_is0, Tryz.f19]
 rw [rightD_eq]
 (rw [rightDR_yes h1 h2 h3 hS hV hk3, h4, h5]; rfl)
 cases h6 : (rightG a.sig)
 refine sr fun Z z => ?_
 simp [row_map, encD, len_is0, h1, h2, h3, hb26, hb40, hk3, h4, h5, h6]
 refine RVn_call (c_ref01x_Is g rnd a.recv (by omega)) ?_
 simp [row_map, encD, len_is0, h1, h2, h3, hb26, hb40, hk3, h4, h5, h6]
 repeat refine sg ?_
 refine RVn_call ((by have h := c_ref06x_rightSig g rnd a.sig (by omega); simp only [encG] at h; exact h)) ?_
 simp [row_map, encD, len_is0, h1, h2, h3, hb26, hb40, hk3, h4, h5, h6]
 repeat refine sg ?_
 refine z _ ?_
 clear z Z
 refine AT_ret ?_
 simp [row_map, encD, len_is0, Tryz.f19]
 rw [rightD_eq]
 (rw [rightDR_yes h1 h2 h3 hS hV hk3, h4, h5, h6]; rfl)
 refine sr fun Z z => ?_
 simp [row_map, encD, len_is0, h1, h2, h3, hb26, hb40, hk3, h4, h5, h6]
 refine RVn_call (c_ref01x_Is g rnd a.recv (by omega)) ?_
 simp [row_map, encD, len_is0, h1, h2, h3, hb26, hb40, hk3, h4, h5, h6]
 repeat refine sg ?_
 refine RVn_call ((by have h := c_ref06x_rightSig g rnd a.sig (by omega); simp only [encG] at h; exact h)) ?_
 simp [row_map, encD, len_is0, h1, h2, h3, hb26, hb40, hk3, h4, h5, h6]
 repeat refine sg ?_
 refine RVn_call ((by have h := c_ref05x_Right g rnd a.body (by omega); simp only [encE_def] at h; exact h)) ?_
 simp [row_map, encD, len_is0, h1, h2, h3, hb26, hb40, hk3, h4, h5, h6]
 repeat refine sg ?_
 refine z _ ?_
 clear z Z
 refine AT_ret ?_
 simp [row_map, encD, len_is0, Tryz.f19]
 rw [rightD_eq]
 (rw [rightDR_yes h1 h2 h3 hS hV hk3, h4, h5, h6]; rfl)
 cases hb

end Go.Proofs.YtepbmjchhcmcoaaGreatDoor
end

section
/- Contracts: the reference's types of a program. -/
set_option linter.all false
set_option maxHeartbeats 1000000
set_option maxRecDepth 10000
namespace Go.Proofs.YtepbmjchhcmcoaaGreatDoor
open Go Go.Pv
variable (g : Nat → Option (List AV)) (rnd : Bool)

theorem c_ref06x_Right (p : Pg) (hw : wtPg p ≤ 400000000) : Valid Tryz.prog (G0 g rnd) 8 [.agg (encPg p)] (.bool (rightPg p)) := by
 have hw2 : wtDs p.decls + wtE p.main ≤ 400000000 := hw
 have hlD := wtDs_len p.decls
 refine valid_of [] Tryz.func8 rfl (by kernel_rfl) ?_
 refine sr fun Z z => ?_
 simp [row_map, encPg, Tryz.f8]
 refine z _ ?_
 clear z Z
 refine AT_seq_k fun K1 hK1 => ?_
 refine sr fun Z z => ?_
 simp [row_map, encPg]
 refine z _ ?_
 clear z Z
 refine AT_block ?_
 refine AT_loop_q [1,3] [1] (fun j s => ∃ k, k ≤ p.decls.length ∧ p.decls.all rightD = (p.decls.drop k).all rightD ∧ j = p.decls.length - k ∧ s = { n := 21, tm := [(1, .lp 1 0), (3, .v (.int .i64 k) none)], bx := [(1, encPg p)], tb := [], sh := [], hint := [] }) (p.decls.length) (by first | rfl | simp) ?_ ?_
 exact ⟨0, by simp [encPg]⟩
 rintro j s ⟨k, hk, hc, rfl, rfl⟩ K2 hK2
 refine AT_seq_k fun K3 hK3 => ?_
 refine sr fun Z z => ?_
 simp [row_map, encPg]
 refine z _ ?_
 clear z Z
 refine AT_cond (g := none) rfl (fun hb8 => ?_) (fun hb8 => ?_)
 simp [row_map, encPg] at hb8
 refine AT_skip ?_
 simp only [nrm, reduceIte, Nat.reduceEqDiff]
 refine hK3 _ ?_
 refine AT_seq_k fun K4 hK4 => ?_
 refine AT_block ?_
 refine sr fun Z z => ?_
 have hka : k < p.decls.length := by omega
 have hda := List.drop_eq_getElem_cons hka
 have hwd := wtDs_mem (l := p.decls) (f := p.decls[k]) (by simp)
 simp [row_map, encPg, hb8]
 refine RVn_call (c_ref06x_RightDecl g rnd p.decls[k] (by omega)) ?_
 simp [row_map, encPg, hb8]
 refine z _ ?_
 clear z Z
 refine AT_cond (g := none) rfl (fun hb17 => ?_) (fun hb17 => ?_)
 simp [row_map, encPg, hb8] at hb17
 refine sr fun Z z => ?_
 simp [row_map, encPg, hb8]
 refine z _ ?_
 clear z Z
 refine AT_ret ?_
 simp [row_map, encPg, Tryz.f8]
 (· have hz : rightPg p = false := by rw [rightPg, hc, hda, List.all_cons, hb17]; rfl
    rw [hz])
 simp [row_map, encPg, hb8] at hb17
 refine AT_skip ?_
 refine hK4 _ ?_
 refine AT_region_q fun Z z => ?_
 simp [row_map, encPg, hb8]
 repeat refine sg ?_
 refine z _ ?_
 clear z Z
 simp only [nrm, reduceIte, Nat.reduceEqDiff]
 refine hK2 _ (by first | rfl | simp) (p.decls.length - (k+1)) (by omega) ?_
 refine ⟨k+1, by omega, ?_, by omega, by simp [encPg]⟩
 rw [hc, hda, List.all_cons, hb17]; rfl
 simp [row_map, encPg] at hb8
 refine AT_exit ?_
 simp only [nrm, reduceIte, Nat.reduceEqDiff]
 refine hK1 _ ?_
 refine sr fun Z z => ?_
 simp [row_map, encPg, hb8]
 refine RVn_call ((by have h := c_ref05x_Right g rnd p.main (by omega); simp only [encE_def] at h; exact h)) ?_
 simp [row_map, encPg, hb8]
 refine z _ ?_
 clear z Z
 refine AT_ret ?_
 simp [row_map, encPg, Tryz.f8]
 (· have hz : p.decls.all rightD = true := by rw [hc, List.drop_eq_nil_of_le (by omega)]; rfl
    rw [rightPg, hz]; simp)

end Go.Proofs.YtepbmjchhcmcoaaGreatDoor
end

section
/- The law: the text of a program consists of the texts of its declarations. -/
set_option linter.all false
set_option maxHeartbeats 1000000
set_option maxRecDepth 10000
namespace Go.Proofs.YtepbmjchhcmcoaaGreatDoor
open Go Go.Pv
variable (g : Nat → Option (List AV)) (rnd : Bool)

theorem c_law09x_PrintParts (p : Pg) (hf : fitPg p) (hres : g 2 = some reservedA) : Valid Tryz.prog (G0 g false) 4 [.agg (encPg p)] (.bool true) := by

 refine valid_of [] Tryz.func4 rfl (by kernel_rfl) ?_
 refine sr fun Z z => ?_
 simp [row_map, encPg, Tryz.f4]
 refine z _ ?_
 clear z Z
 refine AT_seq_k fun K1 hK1 => ?_
 by_cases hc : cntPg p ≤ 600
 have hwp := fewPg_wt hc
 cases hr : rightPg p
 refine sr fun Z z => ?_
 simp [row_map, encPg, hc, hr]
 refine RVn_call (c_law09x_awake g hres) ?_
 simp [row_map, encPg, hc, hr]
 repeat refine sg ?_
 refine RVn_call ((by have h := c_ref06x_Few g false p hf; simp only [encPg] at h; exact h)) ?_
 simp [row_map, encPg, hc, hr]
 repeat refine sg ?_
 refine RVn_call ((by have h := c_ref06x_Right g false p (by omega); simp only [encPg] at h; exact h)) ?_
 simp [row_map, encPg, hc, hr]
 repeat refine sg ?_
 refine z _ ?_
 clear z Z
 refine AT_cond (b := true) (g := none) (by simp [hc, hr]) (fun hb => ?_) (fun hb => ?_)
 clear hb
 refine sr fun Z z => ?_
 simp [row_map, encPg, hc, hr]
 refine RVn_call (c_law09x_awake g hres) ?_
 simp [row_map, encPg, hc, hr]
 refine z _ ?_
 clear z Z
 refine AT_ret ?_
 simp [row_map, encPg, Tryz.f4]
 skip
 cases hb
 refine sr fun Z z => ?_
 simp [row_map, encPg, hc, hr]
 refine RVn_call (c_law09x_awake g hres) ?_
 simp [row_map, encPg, hc, hr]
 repeat refine sg ?_
 refine RVn_call ((by have h := c_ref06x_Few g false p hf; simp only [encPg] at h; exact h)) ?_
 simp [row_map, encPg, hc, hr]
 repeat refine sg ?_
 refine RVn_call ((by have h := c_ref06x_Right g false p (by omega); simp only [encPg] at h; exact h)) ?_
 simp [row_map, encPg, hc, hr]
 repeat refine sg ?_
 refine z _ ?_
 clear z Z
 refine AT_cond (b := false) (g := none) (by simp [hc, hr]) (fun hb => ?_) (fun hb => ?_)
 cases hb
 clear hb
 refine AT_skip ?_
 simp only [nrm, reduceIte, Nat.reduceEqDiff]
 refine hK1 _ ?_
 refine sr fun Z z => ?_
 simp [row_map, encPg, hc, hr]
 refine z _ ?_
 clear z Z
 refine AT_seq_k fun K2 hK2 => ?_
 refine sr fun Z z => ?_
 simp [row_map, encPg, hc, hr]
 refine z _ ?_
 clear z Z
 refine AT_block ?_
 refine AT_loop_q [1,3,4] [1] (fun j s => ∃ k, k ≤ p.decls.length ∧ j = p.decls.length - k ∧ s = { n := 55, tm := [(1, .lp 1 0), (3, .v (.str (wHead ++ flT (p.decls.map declT) k)) none), (4, .v (.int .i64 k) none)], bx := [(1, encPg p)], tb := [], sh := [], hint := [] }) (p.decls.length) (by first | rfl | simp) ?_ ?_
 exact ⟨0, by simp [flT_nil, encPg, wHead]⟩
 rintro j s ⟨k, hk, rfl, rfl⟩ K3 hK3
 refine AT_seq_k fun K4 hK4 => ?_
 refine sr fun Z z => ?_
 simp [row_map, encPg, hc, hr]
 refine z _ ?_
 clear z Z
 refine AT_cond (g := none) rfl (fun hb23 => ?_) (fun hb23 => ?_)
 simp [row_map, encPg, hc, hr] at hb23
 refine AT_skip ?_
 simp only [nrm, reduceIte, Nat.reduceEqDiff]
 refine hK4 _ ?_
 refine AT_seq_k fun K5 hK5 => ?_
 refine AT_block ?_
 refine AT_region_q fun Z z => ?_
 have hk9 : k < p.decls.length := by omega
 have hlD := wtDs_len p.decls
 obtain ⟨hrm, hrd, hrk⟩ := rightPg_parts hr
 have hm9 := wtDs_mem (l := p.decls) (f := p.decls[k]) (by simp)
 have hw9 : wtDs p.decls + wtE p.main = wtPg p := rfl
 have hx9 := declT_wt p.decls[k]
 have hu9 := decls_succ p.decls k hk9
 have hv9 := decls_len p.decls k
 simp [row_map, encPg, wHead, hc, hr, hb23]
 refine RVn_call (c_print_Decl g false p.decls[k] (by omega) (hrd _ (by simp))) ?_
 simp [row_map, encPg, wHead, hc, hr, hb23]
 repeat refine sg ?_
 refine z _ ?_
 clear z Z
 refine hK5 _ ?_
 refine AT_region_q fun Z z => ?_
 simp [row_map, encPg, hc, hr, hb23]
 repeat refine sg ?_
 refine z _ ?_
 clear z Z
 simp only [nrm, reduceIte, Nat.reduceEqDiff]
 refine hK3 _ (by first | rfl | simp) (p.decls.length - (k+1)) (by omega) ?_
 refine ⟨k+1, by omega, by omega, ?_⟩
 simp only [hu9]
 simp [encPg, wHead]
 simp [row_map, encPg, hc, hr] at hb23
 refine AT_exit ?_
 simp only [nrm, reduceIte, Nat.reduceEqDiff]
 refine hK2 _ ?_
 refine sr fun Z z => ?_
 have hk9 : k = p.decls.length := by omega
 subst hk9
 obtain ⟨hrm, hrd, hrk⟩ := rightPg_parts hr
 have hw9 : wtDs p.decls + wtE p.main = wtPg p := rfl
 have hda := decls_all p.decls
 have hv9 := decls_len p.decls p.decls.length
 rw [hda] at hv9 ⊢
 have hpp := progT_parts p
 have hl9 := bare_len p
 have hl8 := bare_len2 p
 have hl7 := bare_min p
 have hl6 := wHead_len
 have hl5 := txtE_wt p.main
 have hl4 := joinD_wt p.decls
 simp [row_map, encPg, hc, hr, hb23]
 refine RVn_call ((by have h := c_print_Program g false ⟨[], p.main⟩ (by have := wtPg_bare p; omega) hrm (fun d hd => nomatch hd); simp only [encPg, List.map_nil, encE_def] at h; exact h)) ?_
 simp [row_map, encPg, hc, hr, hb23]
 refine z _ ?_
 clear z Z
 skip
 refine AT_seq_draw Pt.mixed (by kernel_rfl) fun Z z => ?_
 simp [row_map, encPg, encPg, hc, hr, hb23, hpp, hl7]
 refine RVdn_call ((by have h := c_print_Program g false p (by omega) hrm hrd; simp only [encPg] at h; exact h)) ?_
 simp [row_map, encPg, encPg, hc, hr, hb23, hpp, hl7]
 repeat refine sg ?_
 refine RVdn_call ((by have h := c_print_Program g false p (by omega) hrm hrd; simp only [encPg] at h; exact h)) ?_
 simp [row_map, encPg, encPg, hc, hr, hb23, hpp, hl7]
 repeat refine sg ?_
 refine RVdn_call ((by have h := c_ref09x_Program g false p (by omega) hrm hrk; simp only [encPg] at h; exact h)) ?_
 simp [row_map, encPg, encPg, hc, hr, hb23, hpp, hl7]
 repeat refine sg ?_
 refine z _ ?_
 clear z Z
 refine AT_ret ?_
 simp [row_map, encPg, Tryz.f4]
 skip
 refine sr fun Z z => ?_
 simp [row_map, encPg, hc]
 refine RVn_call (c_law09x_awake g hres) ?_
 simp [row_map, encPg, hc]
 repeat refine sg ?_
 refine RVn_call ((by have h := c_ref06x_Few g false p hf; simp only [encPg] at h; exact h)) ?_
 simp [row_map, encPg, hc]
 repeat refine sg ?_
 refine z _ ?_
 clear z Z
 refine AT_cond (b := true) (g := none) (by simp [hc]) (fun hb => ?_) (fun hb => ?_)
 clear hb
 refine sr fun Z z => ?_
 simp [row_map, encPg, hc]
 refine RVn_call (c_law09x_awake g hres) ?_
 simp [row_map, encPg, hc]
 refine z _ ?_
 clear z Z
 refine AT_ret ?_
 simp [row_map, encPg, Tryz.f4]
 skip
 cases hb

end Go.Proofs.YtepbmjchhcmcoaaGreatDoor
end

import Derived.Test.YtepbmjchhcmcoaaGreatDoorPt
import Derived.Test.YtepbmjchhcmcoaaGreatDoorPvPb
import Derived.Test.YtepbmjchhcmcoaaGreatDoorPvY
import Derived.Test.YtepbmjchhcmcoaaGreatDoorPvDc
import Derived.Test.YtepbmjchhcmcoaaGreatDoorPvEa
import Derived.Test.YtepbmjchhcmcoaaGreatDoorPvMb
import Derived.Test.YtepbmjchhcmcoaaGreatDoorXExC
import Derived.Test.YtepbmjchhcmcoaaGreatDoorXLbJ
import Derived.Test.YtepbmjchhcmcoaaGreatDoorXRdE
import Derived.Test.YtepbmjchhcmcoaaGreatDoorXExG
import Derived.Test.YtepbmjchhcmcoaaGreatDoorPvP
section
/- Contracts: the reference compares declarations. -/
set_option linter.all false
set_option maxHeartbeats 1000000
set_option maxRecDepth 10000
namespace Go.Proofs.YtepbmjchhcmcoaaGreatDoor
open Go Go.Pv
variable (g : Nat → Option (List AV)) (rnd : Bool)

theorem c_ref06x_formals (a b : List Fm) (hw : wtFs a ≤ 1000000000) (hl : a.length ≤ 1000000000) : Valid Tryz.prog (G0 g rnd) 81 [.slice (a.map encF), .slice (b.map encF), .bool false] (.bool (eqL sameF a b)) := by

 refine valid_of [] Tryz.func81 rfl (by kernel_rfl) ?_
 refine sr fun Z z => ?_
 simp [row_map, encF, Tryz.f81]
 refine z _ ?_
 clear z Z
 refine AT_seq_k fun K1 hK1 => ?_
 refine sr fun Z z => ?_
 simp [row_map, encF]
 refine z _ ?_
 clear z Z
 refine AT_cond (g := none) rfl (fun hb12 => ?_) (fun hb12 => ?_)
 simp [row_map, encF] at hb12
 refine sr fun Z z => ?_
 simp [row_map, encF, hb12]
 refine z _ ?_
 clear z Z
 refine AT_ret ?_
 simp [row_map, encF, Tryz.f81]
 (· rw [eqL_len (show a.length ≠ b.length by omega)])
 simp [row_map, encF] at hb12
 have hab : a.length = b.length := by omega
 refine AT_skip ?_
 simp only [nrm, reduceIte, Nat.reduceEqDiff]
 refine hK1 _ ?_
 refine AT_seq_k fun K2 hK2 => ?_
 refine sr fun Z z => ?_
 simp [row_map, encF]
 refine z _ ?_
 clear z Z
 refine AT_block ?_
 refine AT_loop_q [0,1,2,7] [] (fun j s => ∃ k, k ≤ a.length ∧ eqL sameF a b = eqL sameF (a.drop k) (b.drop k) ∧ j = a.length - k ∧ s = { n := 72, tm := [(0, .v (.slice (a.map encF)) none), (1, .v (.slice (b.map encF)) none), (2, .v (.bool false) none), (7, .v (.int .i64 k) none)], bx := [], tb := [], sh := [], hint := [] }) (a.length) (by first | rfl | simp) ?_ ?_
 exact ⟨0, by simp⟩
 rintro j s ⟨k, hk, hc, rfl, rfl⟩ K3 hK3
 refine AT_seq_k fun K4 hK4 => ?_
 refine sr fun Z z => ?_
 simp [row_map, encF]
 refine z _ ?_
 clear z Z
 refine AT_cond (g := none) rfl (fun hb16 => ?_) (fun hb16 => ?_)
 simp [row_map, encF] at hb16
 refine AT_skip ?_
 simp only [nrm, reduceIte, Nat.reduceEqDiff]
 refine hK4 _ ?_
 refine AT_seq_k fun K5 hK5 => ?_
 refine AT_block ?_
 refine AT_seq_k fun K6 hK6 => ?_
 cases h1 : (a[k].name == b[k].name)
 refine AT_seq_draw Pt.mixed (by kernel_rfl) fun Z z => ?_
 have hkb : k < b.length := by omega
 have hka : k < a.length := by omega
 have hda := List.drop_eq_getElem_cons hka
 have hdb := List.drop_eq_getElem_cons hkb
 have hm9 := wtFs_mem (l := a) (f := a[k]) (by simp)
 have hm8 : wtF a[k] = a[k].name.length + 1 + wt a[k].ty := rfl
 simp [row_map, encF, hkb, hb16, h1]
 refine z _ ?_
 clear z Z
 refine AT_cond (b := true) (g := none) (by simp [hb16, h1]) (fun hb => ?_) (fun hb => ?_)
 clear hb
 refine sr fun Z z => ?_
 simp [row_map, encF, hb16, h1]
 refine z _ ?_
 clear z Z
 refine AT_ret ?_
 simp [row_map, encF, Tryz.f81]
 (rw [hc, hda, hdb, eqL_cons, sameF, h1]; rfl)
 cases hb
 cases h2 : (cmpT a[k].ty b[k].ty == 0)
 refine AT_seq_draw Pt.mixed (by kernel_rfl) fun Z z => ?_
 have hkb : k < b.length := by omega
 have hka : k < a.length := by omega
 have hda := List.drop_eq_getElem_cons hka
 have hdb := List.drop_eq_getElem_cons hkb
 have hm9 := wtFs_mem (l := a) (f := a[k]) (by simp)
 have hm8 : wtF a[k] = a[k].name.length + 1 + wt a[k].ty := rfl
 simp [row_map, encF, hkb, hb16, h1, h2]
 refine RVdn_call ((by have h := c_ref04x_Same g rnd a[k].ty b[k].ty (by omega); simp only [encTy_def] at h; exact h)) ?_
 simp [row_map, encF, hkb, hb16, h1, h2]
 repeat refine sg ?_
 refine z _ ?_
 clear z Z
 refine AT_cond (b := true) (g := none) (by simp [hb16, h1, h2]) (fun hb => ?_) (fun hb => ?_)
 clear hb
 refine sr fun Z z => ?_
 simp [row_map, encF, hb16, h1, h2]
 refine z _ ?_
 clear z Z
 refine AT_ret ?_
 simp [row_map, encF, Tryz.f81]
 (rw [hc, hda, hdb, eqL_cons, sameF, h2, h1]; rfl)
 cases hb
 refine AT_seq_draw Pt.mixed (by kernel_rfl) fun Z z => ?_
 have hkb : k < b.length := by omega
 have hka : k < a.length := by omega
 have hda := List.drop_eq_getElem_cons hka
 have hdb := List.drop_eq_getElem_cons hkb
 have hm9 := wtFs_mem (l := a) (f := a[k]) (by simp)
 have hm8 : wtF a[k] = a[k].name.length + 1 + wt a[k].ty := rfl
 simp [row_map, encF, hkb, hb16, h1, h2]
 refine RVdn_call ((by have h := c_ref04x_Same g rnd a[k].ty b[k].ty (by omega); simp only [encTy_def] at h; exact h)) ?_
 simp [row_map, encF, hkb, hb16, h1, h2]
 repeat refine sg ?_
 refine z _ ?_
 clear z Z
 refine AT_cond (b := false) (g := none) (by simp [hb16, h1, h2]) (fun hb => ?_) (fun hb => ?_)
 cases hb
 clear hb
 refine AT_skip ?_
 simp only [nrm, reduceIte, Nat.reduceEqDiff]
 refine hK6 _ ?_
 refine AT_seq_draw Pt.mixed (by kernel_rfl) fun Z z => ?_
 simp [row_map, encF, hb16, h1, h2]
 refine z _ ?_
 clear z Z
 refine AT_cond (b := false) (g := none) (by simp [hb16, h1, h2]) (fun hb => ?_) (fun hb => ?_)
 cases hb
 clear hb
 refine AT_skip ?_
 simp only [nrm, reduceIte, Nat.reduceEqDiff]
 refine hK5 _ ?_
 refine AT_region_q fun Z z => ?_
 simp [row_map, encF, hb16, h1, h2]
 repeat refine sg ?_
 refine z _ ?_
 clear z Z
 simp only [nrm, reduceIte, Nat.reduceEqDiff]
 refine hK3 _ (by first | rfl | simp) (a.length - (k+1)) (by omega) ?_
 refine ⟨k+1, by omega, ?_, by omega, by simp⟩
 rw [hc, hda, hdb, eqL_cons, sameF, h2, h1]; rfl
 simp [row_map, encF] at hb16
 refine AT_exit ?_
 simp only [nrm, reduceIte, Nat.reduceEqDiff]
 refine hK2 _ ?_
 refine sr fun Z z => ?_
 simp [row_map, encF, hb16]
 refine z _ ?_
 clear z Z
 refine AT_ret ?_
 simp [row_map, encF, Tryz.f81]
 (rw [hc, List.drop_eq_nil_of_le (by omega), List.drop_eq_nil_of_le (show b.length ≤ k by omega)]; rfl)

theorem c_ref06x_params (a b : List Fm) (hw : wtFs a ≤ 1000000000) (hl : a.length ≤ 1000000000) : Valid Tryz.prog (G0 g rnd) 82 [.slice (a.map encF), .slice (b.map encF), .bool false] (.bool (eqL sameF a b)) := by

 refine valid_of [] Tryz.func82 rfl (by kernel_rfl) ?_
 refine sr fun Z z => ?_
 simp [row_map, encF, Tryz.f82]
 refine z _ ?_
 clear z Z
 refine AT_seq_k fun K1 hK1 => ?_
 refine sr fun Z z => ?_
 simp [row_map, encF]
 refine z _ ?_
 clear z Z
 refine AT_cond (g := none) rfl (fun hb12 => ?_) (fun hb12 => ?_)
 simp [row_map, encF] at hb12
 refine sr fun Z z => ?_
 simp [row_map, encF, hb12]
 refine z _ ?_
 clear z Z
 refine AT_ret ?_
 simp [row_map, encF, Tryz.f82]
 (· rw [eqL_len (show a.length ≠ b.length by omega)])
 simp [row_map, encF] at hb12
 have hab : a.length = b.length := by omega
 refine AT_skip ?_
 simp only [nrm, reduceIte, Nat.reduceEqDiff]
 refine hK1 _ ?_
 refine AT_seq_k fun K2 hK2 => ?_
 refine sr fun Z z => ?_
 simp [row_map, encF]
 refine z _ ?_
 clear z Z
 refine AT_block ?_
 refine AT_loop_q [0,1,2,7] [] (fun j s => ∃ k, k ≤ a.length ∧ eqL sameF a b = eqL sameF (a.drop k) (b.drop k) ∧ j = a.length - k ∧ s = { n := 72, tm := [(0, .v (.slice (a.map encF)) none), (1, .v (.slice (b.map encF)) none), (2, .v (.bool false) none), (7, .v (.int .i64 k) none)], bx := [], tb := [], sh := [], hint := [] }) (a.length) (by first | rfl | simp) ?_ ?_
 exact ⟨0, by simp⟩
 rintro j s ⟨k, hk, hc, rfl, rfl⟩ K3 hK3
 refine AT_seq_k fun K4 hK4 => ?_
 refine sr fun Z z => ?_
 simp [row_map, encF]
 refine z _ ?_
 clear z Z
 refine AT_cond (g := none) rfl (fun hb16 => ?_) (fun hb16 => ?_)
 simp [row_map, encF] at hb16
 refine AT_skip ?_
 simp only [nrm, reduceIte, Nat.reduceEqDiff]
 refine hK4 _ ?_
 refine AT_seq_k fun K5 hK5 => ?_
 refine AT_block ?_
 refine AT_seq_k fun K6 hK6 => ?_
 cases h1 : (a[k].name == b[k].name)
 refine AT_seq_draw Pt.mixed (by kernel_rfl) fun Z z => ?_
 have hkb : k < b.length := by omega
 have hka : k < a.length := by omega
 have hda := List.drop_eq_getElem_cons hka
 have hdb := List.drop_eq_getElem_cons hkb
 have hm9 := wtFs_mem (l := a) (f := a[k]) (by simp)
 have hm8 : wtF a[k] = a[k].name.length + 1 + wt a[k].ty := rfl
 simp [row_map, encF, hkb, hb16, h1]
 refine z _ ?_
 clear z Z
 refine AT_cond (b := true) (g := none) (by simp [hb16, h1]) (fun hb => ?_) (fun hb => ?_)
 clear hb
 refine sr fun Z z => ?_
 simp [row_map, encF, hb16, h1]
 refine z _ ?_
 clear z Z
 refine AT_ret ?_
 simp [row_map, encF, Tryz.f82]
 (rw [hc, hda, hdb, eqL_cons, sameF, h1]; rfl)
 cases hb
 cases h2 : (cmpT a[k].ty b[k].ty == 0)
 refine AT_seq_draw Pt.mixed (by kernel_rfl) fun Z z => ?_
 have hkb : k < b.length := by omega
 have hka : k < a.length := by omega
 have hda := List.drop_eq_getElem_cons hka
 have hdb := List.drop_eq_getElem_cons hkb
 have hm9 := wtFs_mem (l := a) (f := a[k]) (by simp)
 have hm8 : wtF a[k] = a[k].name.length + 1 + wt a[k].ty := rfl
 simp [row_map, encF, hkb, hb16, h1, h2]
 refine RVdn_call ((by have h := c_ref04x_Same g rnd a[k].ty b[k].ty (by omega); simp only [encTy_def] at h; exact h)) ?_
 simp [row_map, encF, hkb, hb16, h1, h2]
 repeat refine sg ?_
 refine z _ ?_
 clear z Z
 refine AT_cond (b := true) (g := none) (by simp [hb16, h1, h2]) (fun hb => ?_) (fun hb => ?_)
 clear hb
 refine sr fun Z z => ?_
 simp [row_map, encF, hb16, h1, h2]
 refine z _ ?_
 clear z Z
 refine AT_ret ?_
 simp [row_map, encF, Tryz.f82]
 (rw [hc, hda, hdb, eqL_cons, sameF, h2, h1]; rfl)
 cases hb
 refine AT_seq_draw Pt.mixed (by kernel_rfl) fun Z z => ?_
 have hkb : k < b.length := by omega
 have hka : k < a.length := by omega
 have hda := List.drop_eq_getElem_cons hka
 have hdb := List.drop_eq_getElem_cons hkb
 have hm9 := wtFs_mem (l := a) (f := a[k]) (by simp)
 have hm8 : wtF a[k] = a[k].name.length + 1 + wt a[k].ty := rfl
 simp [row_map, encF, hkb, hb16, h1, h2]
 refine RVdn_call ((by have h := c_ref04x_Same g rnd a[k].ty b[k].ty (by omega); simp only [encTy_def] at h; exact h)) ?_
 simp [row_map, encF, hkb, hb16, h1, h2]
 repeat refine sg ?_
 refine z _ ?_
 clear z Z
 refine AT_cond (b := false) (g := none) (by simp [hb16, h1, h2]) (fun hb => ?_) (fun hb => ?_)
 cases hb
 clear hb
 refine AT_skip ?_
 simp only [nrm, reduceIte, Nat.reduceEqDiff]
 refine hK6 _ ?_
 refine AT_seq_draw Pt.mixed (by kernel_rfl) fun Z z => ?_
 simp [row_map, encF, hb16, h1, h2]
 refine z _ ?_
 clear z Z
 refine AT_cond (b := false) (g := none) (by simp [hb16, h1, h2]) (fun hb => ?_) (fun hb => ?_)
 cases hb
 clear hb
 refine AT_skip ?_
 simp only [nrm, reduceIte, Nat.reduceEqDiff]
 refine hK5 _ ?_
 refine AT_region_q fun Z z => ?_
 simp [row_map, encF, hb16, h1, h2]
 repeat refine sg ?_
 refine z _ ?_
 clear z Z
 simp only [nrm, reduceIte, Nat.reduceEqDiff]
 refine hK3 _ (by first | rfl | simp) (a.length - (k+1)) (by omega) ?_
 refine ⟨k+1, by omega, ?_, by omega, by simp⟩
 rw [hc, hda, hdb, eqL_cons, sameF, h2, h1]; rfl
 simp [row_map, encF] at hb16
 refine AT_exit ?_
 simp only [nrm, reduceIte, Nat.reduceEqDiff]
 refine hK2 _ ?_
 refine sr fun Z z => ?_
 simp [row_map, encF, hb16]
 refine z _ ?_
 clear z Z
 refine AT_ret ?_
 simp [row_map, encF, Tryz.f82]
 (rw [hc, List.drop_eq_nil_of_le (by omega), List.drop_eq_nil_of_le (show b.length ≤ k by omega)]; rfl)

theorem c_ref06x_Sig (a b : Sg) (hw : wtG a ≤ 1000000000) : Valid Tryz.prog (G0 g rnd) 52 [.agg (encG a), .agg (encG b), .bool false] (.bool (sameG a b)) := by
 have hw2 : a.name.length + 1 + wtFs a.fms + wtFs a.pms + wt a.res ≤ 1000000000 := hw
 refine valid_of [] Tryz.func52 rfl (by kernel_rfl) ?_
 refine sr fun Z z => ?_
 simp [encG, Tryz.f52]
 refine z _ ?_
 clear z Z
 refine AT_seq_k fun K1 hK1 => ?_
 cases h1 : (a.name == b.name)
 refine sr fun Z z => ?_
 simp [encG, h1]
 refine z _ ?_
 clear z Z
 refine AT_cond (b := true) (g := none) (by simp [h1]) (fun hb => ?_) (fun hb => ?_)
 clear hb
 refine sr fun Z z => ?_
 simp [encG, h1]
 refine z _ ?_
 clear z Z
 refine AT_ret ?_
 simp [encG, Tryz.f52]
 (simp only [sameG, h1]; rfl)
 cases hb
 cases h2 : (eqL sameF a.fms b.fms)
 refine sr fun Z z => ?_
 simp [encG, h1, h2]
 refine RVn_call (c_ref06x_formals g rnd a.fms b.fms (by omega) (by have := wtFs_len a.fms; omega)) ?_
 simp [encG, h1, h2]
 repeat refine sg ?_
 refine z _ ?_
 clear z Z
 refine AT_cond (b := true) (g := none) (by simp [h1, h2]) (fun hb => ?_) (fun hb => ?_)
 clear hb
 refine sr fun Z z => ?_
 simp [encG, h1, h2]
 refine z _ ?_
 clear z Z
 refine AT_ret ?_
 simp [encG, Tryz.f52]
 (simp only [sameG, h1, h2]; rfl)
 cases hb
 cases h3 : (eqL sameF a.pms b.pms)
 refine sr fun Z z => ?_
 simp [encG, h1, h2, h3]
 refine RVn_call (c_ref06x_formals g rnd a.fms b.fms (by omega) (by have := wtFs_len a.fms; omega)) ?_
 simp [encG, h1, h2, h3]
 repeat refine sg ?_
 refine RVn_call (c_ref06x_params g rnd a.pms b.pms (by omega) (by have := wtFs_len a.pms; omega)) ?_
 simp [encG, h1, h2, h3]
 repeat refine sg ?_
 refine z _ ?_
 clear z Z
 refine AT_cond (b := true) (g := none) (by simp [h1, h2, h3]) (fun hb => ?_) (fun hb => ?_)
 clear hb
 refine sr fun Z z => ?_
 simp [encG, h1, h2, h3]
 refine z _ ?_
 clear z Z
 refine AT_ret ?_
 simp [encG, Tryz.f52]
 (simp only [sameG, h1, h2, h3]; rfl)
 cases hb
 cases h4 : (cmpT a.res b.res == 0)
 refine sr fun Z z => ?_
 simp [encG, h1, h2, h3, h4]
 refine RVn_call (c_ref06x_formals g rnd a.fms b.fms (by omega) (by have := wtFs_len a.fms; omega)) ?_
 simp [encG, h1, h2, h3, h4]
 repeat refine sg ?_
 refine RVn_call (c_ref06x_params g rnd a.pms b.pms (by omega) (by have := wtFs_len a.pms; omega)) ?_
 simp [encG, h1, h2, h3, h4]
 repeat refine sg ?_
 refine RVn_call ((by have h := c_ref04x_Same g rnd a.res b.res (by omega); simp only [encTy_def] at h; exact h)) ?_
 simp [encG, h1, h2, h3, h4]
 repeat refine sg ?_
 refine z _ ?_
 clear z Z
 refine AT_cond (b := true) (g := none) (by simp [h1, h2, h3, h4]) (fun hb => ?_) (fun hb => ?_)
 clear hb
 refine sr fun Z z => ?_
 simp [encG, h1, h2, h3, h4]
 refine z _ ?_
 clear z Z
 refine AT_ret ?_
 simp [encG, Tryz.f52]
 (simp only [sameG, h1, h2, h3, h4]; rfl)
 cases hb
 refine sr fun Z z => ?_
 simp [encG, h1, h2, h3, h4]
 refine RVn_call (c_ref06x_formals g rnd a.fms b.fms (by omega) (by have := wtFs_len a.fms; omega)) ?_
 simp [encG, h1, h2, h3, h4]
 repeat refine sg ?_
 refine RVn_call (c_ref06x_params g rnd a.pms b.pms (by omega) (by have := wtFs_len a.pms; omega)) ?_
 simp [encG, h1, h2, h3, h4]
 repeat refine sg ?_
 refine RVn_call ((by have h := c_ref04x_Same g rnd a.res b.res (by omega); simp only [encTy_def] at h; exact h)) ?_
 simp [encG, h1, h2, h3, h4]
 repeat refine sg ?_
 refine z _ ?_
 clear z Z
 refine AT_cond (b := false) (g := none) (by simp [h1, h2, h3, h4]) (fun hb => ?_) (fun hb => ?_)
 cases hb
 clear hb
 refine AT_skip ?_
 simp only [nrm, reduceIte, Nat.reduceEqDiff]
 refine hK1 _ ?_
 refine sr fun Z z => ?_
 simp [encG, h1, h2, h3, h4]
 refine z _ ?_
 clear z Z
 refine AT_ret ?_
 simp [encG, Tryz.f52]
 (simp only [sameG, h1, h2, h3, h4]; rfl)

end Go.Proofs.YtepbmjchhcmcoaaGreatDoor
end

section
/- Contracts: the reference on declarations. -/
set_option linter.all false
set_option maxHeartbeats 1000000
set_option maxRecDepth 10000
namespace Go.Proofs.YtepbmjchhcmcoaaGreatDoor
open Go Go.Pv
variable (g : Nat → Option (List AV)) (rnd : Bool)

theorem c_ref06x_Decl (a b : Dc) (hw : wtD a ≤ 400000000) : Valid Tryz.prog (G0 g rnd) 59 [.agg (encD a), .agg (encD b), .bool false] (.bool (sameD a b)) := by
 have hw2 : a.name.length + 1 + wtFs a.fms + wtFs a.flds + wtGs a.sigs + a.recv.length + wtSs a.vars + wtG a.sig + wtE a.body ≤ 400000000 := hw
 have hl1 := wtFs_len a.fms
 have hl2 := wtFs_len a.flds
 have hl3 := wtGs_len a.sigs
 have hl4 := wtSs_len a.vars
 refine valid_of [] Tryz.func59 rfl (by kernel_rfl) ?_
 refine sr fun Z z => ?_
 simp [row_map, encD, Tryz.f59]
 refine z _ ?_
 clear z Z
 refine AT_seq_k fun K1 hK1 => ?_
 cases h1 : (a.kind != b.kind)
 cases h2 : (a.name == b.name)
 refine sr fun Z z => ?_
 simp [row_map, encD, h1, h2]
 refine z _ ?_
 clear z Z
 refine AT_cond (b := true) (g := none) (by simp [h1, h2]) (fun hb => ?_) (fun hb => ?_)
 clear hb
 refine sr fun Z z => ?_
 simp [row_map, encD, h1, h2]
 refine z _ ?_
 clear z Z
 refine AT_ret ?_
 simp [row_map, encD, Tryz.f59]
 have h1b : (a.kind == b.kind) = !(a.kind != b.kind) := by rw [bne, Bool.not_not]
 rw [h1] at h1b
 simp only [Bool.not_true, Bool.not_false] at h1b
 (· simp only [sameD, h2, Bool.false_and, Bool.and_false])
 cases hb
 cases h3 : (a.recv == b.recv)
 refine sr fun Z z => ?_
 simp [row_map, encD, h1, h2, h3]
 refine z _ ?_
 clear z Z
 refine AT_cond (b := true) (g := none) (by simp [h1, h2, h3]) (fun hb => ?_) (fun hb => ?_)
 clear hb
 refine sr fun Z z => ?_
 simp [row_map, encD, h1, h2, h3]
 refine z _ ?_
 clear z Z
 refine AT_ret ?_
 simp [row_map, encD, Tryz.f59]
 have h1b : (a.kind == b.kind) = !(a.kind != b.kind) := by rw [bne, Bool.not_not]
 rw [h1] at h1b
 simp only [Bool.not_true, Bool.not_false] at h1b
 (· simp only [sameD, h3, Bool.false_and, Bool.and_false])
 cases hb
 cases h4 : (eqL sameF a.fms b.fms)
 refine sr fun Z z => ?_
 simp [row_map, encD, h1, h2, h3, h4]
 refine RVn_call (c_ref06x_formals g rnd a.fms b.fms (by omega) (by have := wtFs_len a.fms; omega)) ?_
 simp [row_map, encD, h1, h2, h3, h4]
 repeat refine sg ?_
 refine z _ ?_
 clear z Z
 refine AT_cond (b := true) (g := none) (by simp [h1, h2, h3, h4]) (fun hb => ?_) (fun hb => ?_)
 clear hb
 refine sr fun Z z => ?_
 simp [row_map, encD, h1, h2, h3, h4]
 refine z _ ?_
 clear z Z
 refine AT_ret ?_
 simp [row_map, encD, Tryz.f59]
 have h1b : (a.kind == b.kind) = !(a.kind != b.kind) := by rw [bne, Bool.not_not]
 rw [h1] at h1b
 simp only [Bool.not_true, Bool.not_false] at h1b
 (· simp only [sameD, h4, Bool.false_and, Bool.and_false])
 cases hb
 cases h5 : (eqL sameF a.flds b.flds)
 refine sr fun Z z => ?_
 simp [row_map, encD, h1, h2, h3, h4, h5]
 refine RVn_call (c_ref06x_formals g rnd a.fms b.fms (by omega) (by have := wtFs_len a.fms; omega)) ?_
 simp [row_map, encD, h1, h2, h3, h4, h5]
 repeat refine sg ?_
 refine RVn_call (c_ref06x_params g rnd a.flds b.flds (by omega) (by have := wtFs_len a.flds; omega)) ?_
 simp [row_map, encD, h1, h2, h3, h4, h5]
 repeat refine sg ?_
 refine z _ ?_
 clear z Z
 refine AT_cond (b := true) (g := none) (by simp [h1, h2, h3, h4, h5]) (fun hb => ?_) (fun hb => ?_)
 clear hb
 refine sr fun Z z => ?_
 simp [row_map, encD, h1, h2, h3, h4, h5]
 refine z _ ?_
 clear z Z
 refine AT_ret ?_
 simp [row_map, encD, Tryz.f59]
 have h1b : (a.kind == b.kind) = !(a.kind != b.kind) := by rw [bne, Bool.not_not]
 rw [h1] at h1b
 simp only [Bool.not_true, Bool.not_false] at h1b
 (· simp only [sameD, h5, Bool.false_and, Bool.and_false])
 cases hb
 cases h6 : ((a.sigs.length : Int) != b.sigs.length)
 cases h7 : ((a.vars.length : Int) != b.vars.length)
 refine sr fun Z z => ?_
 simp [row_map, encD, h1, h2, h3, h4, h5, h6, h7]
 refine RVn_call (c_ref06x_formals g rnd a.fms b.fms (by omega) (by have := wtFs_len a.fms; omega)) ?_
 simp [row_map, encD, h1, h2, h3, h4, h5, h6, h7]
 repeat refine sg ?_
 refine RVn_call (c_ref06x_params g rnd a.flds b.flds (by omega) (by have := wtFs_len a.flds; omega)) ?_
 simp [row_map, encD, h1, h2, h3, h4, h5, h6, h7]
 repeat refine sg ?_
 refine z _ ?_
 clear z Z
 refine AT_cond (b := false) (g := none) (by simp [h1, h2, h3, h4, h5, h6, h7]) (fun hb => ?_) (fun hb => ?_)
 cases hb
 clear hb
 refine AT_skip ?_
 simp only [nrm, reduceIte, Nat.reduceEqDiff]
 refine hK1 _ ?_
 refine AT_seq_k fun K2 hK2 => ?_
 refine sr fun Z z => ?_
 have h6c : (a.sigs.length : Int) = b.sigs.length := by simpa using h6
 have h7c : (a.vars.length : Int) = b.vars.length := by simpa using h7
 have h6b : a.sigs.length = b.sigs.length := by omega
 have h7b : a.vars.length = b.vars.length := by omega
 simp [row_map, encD, h1, h2, h3, h4, h5, h6, h7]
 refine z _ ?_
 clear z Z
 refine AT_block ?_
 refine AT_loop_q [2,3,4,7] [3,4] (fun j s => ∃ k, k ≤ a.sigs.length ∧ eqL sameG a.sigs b.sigs = eqL sameG (a.sigs.drop k) (b.sigs.drop k) ∧ j = a.sigs.length - k ∧ s = { n := 133, tm := [(2, .v (.bool false) none), (3, .lp 3 0), (4, .lp 4 0), (7, .v (.int .i64 k) none)], bx := [(3, encD a), (4, encD b)], tb := [], sh := [], hint := [] }) (a.sigs.length) (by first | rfl | simp) ?_ ?_
 exact ⟨0, by simp [encD]⟩
 rintro j s ⟨k, hk, hc, rfl, rfl⟩ K3 hK3
 refine AT_seq_k fun K4 hK4 => ?_
 refine sr fun Z z => ?_
 simp [row_map, encD, h1, h2, h3, h4, h5, h6, h7]
 refine z _ ?_
 clear z Z
 refine AT_cond (g := none) rfl (fun hb68 => ?_) (fun hb68 => ?_)
 simp [row_map, encD, h1, h2, h3, h4, h5, h6, h7] at hb68
 refine AT_skip ?_
 simp only [nrm, reduceIte, Nat.reduceEqDiff]
 refine hK4 _ ?_
 refine AT_seq_k fun K5 hK5 => ?_
 refine AT_block ?_
 refine AT_seq_draw Pt.mixed (by kernel_rfl) fun Z z => ?_
 have hkb : k < b.sigs.length := by omega
 have hka : k < a.sigs.length := by omega
 have hda := List.drop_eq_getElem_cons hka
 have hdb := List.drop_eq_getElem_cons hkb
 have hm9 := wtGs_mem (l := a.sigs) (f := a.sigs[k]) (by simp)
 simp [row_map, encD, hkb, encG, h1, h2, h3, h4, h5, h6, h7, hb68]
 refine RVdn_call ((by have h := c_ref06x_Sig g rnd a.sigs[k] b.sigs[k] (by omega); simp only [encG] at h; exact h)) ?_
 simp [row_map, encD, hkb, encG, h1, h2, h3, h4, h5, h6, h7, hb68]
 refine z _ ?_
 clear z Z
 refine AT_cond (g := none) rfl (fun hb83 => ?_) (fun hb83 => ?_)
 simp [row_map, encD, h1, h2, h3, h4, h5, h6, h7, hb68] at hb83
 refine sr fun Z z => ?_
 simp [row_map, encD, h1, h2, h3, h4, h5, h6, h7, hb68]
 refine z _ ?_
 clear z Z
 refine AT_ret ?_
 simp [row_map, encD, Tryz.f59]
 have h1b : (a.kind == b.kind) = !(a.kind != b.kind) := by rw [bne, Bool.not_not]
 rw [h1] at h1b
 simp only [Bool.not_true, Bool.not_false] at h1b
 (· simp only [sameD, hc, hda, hdb, eqL_cons, hb83, Bool.false_and, Bool.and_false])
 simp [row_map, encD, h1, h2, h3, h4, h5, h6, h7, hb68] at hb83
 refine AT_skip ?_
 simp only [nrm, reduceIte, Nat.reduceEqDiff]
 refine hK5 _ ?_
 refine AT_region_q fun Z z => ?_
 simp [row_map, encD, h1, h2, h3, h4, h5, h6, h7, hb68]
 repeat refine sg ?_
 refine z _ ?_
 clear z Z
 simp only [nrm, reduceIte, Nat.reduceEqDiff]
 refine hK3 _ (by first | rfl | simp) (a.sigs.length - (k+1)) (by omega) ?_
 refine ⟨k+1, by omega, ?_, by omega, by simp [encD]⟩
 rw [hc, hda, hdb, eqL_cons, hb83]; rfl
 simp [row_map, encD, h1, h2, h3, h4, h5, h6, h7] at hb68
 refine AT_exit ?_
 simp only [nrm, reduceIte, Nat.reduceEqDiff]
 refine hK2 _ ?_
 refine AT_seq_k fun K6 hK6 => ?_
 refine sr fun Z z => ?_
 have hS : eqL sameG a.sigs b.sigs = true := by rw [hc, List.drop_eq_nil_of_le (by omega), List.drop_eq_nil_of_le (show b.sigs.length ≤ k by omega)]; rfl
 simp [row_map, encD, h1, h2, h3, h4, h5, h6, h7, hb68]
 refine z _ ?_
 clear z Z
 refine AT_block ?_
 refine AT_loop_q [2,3,4,8] [3,4] (fun j s => ∃ k, k ≤ a.vars.length ∧ eqL (· == ·) a.vars b.vars = eqL (· == ·) (a.vars.drop k) (b.vars.drop k) ∧ j = a.vars.length - k ∧ s = { n := 133, tm := [(2, .v (.bool false) none), (3, .lp 3 0), (4, .lp 4 0), (8, .v (.int .i64 k) none)], bx := [(3, encD a), (4, encD b)], tb := [], sh := [], hint := [] }) (a.vars.length) (by first | rfl | simp) ?_ ?_
 exact ⟨0, by simp [encD]⟩
 rintro j s ⟨k, hk, hv, rfl, rfl⟩ K7 hK7
 refine AT_seq_k fun K8 hK8 => ?_
 refine sr fun Z z => ?_
 simp [row_map, encD, h1, h2, h3, h4, h5, h6, h7, hb68]
 refine z _ ?_
 clear z Z
 refine AT_cond (g := none) rfl (fun hb88 => ?_) (fun hb88 => ?_)
 simp [row_map, encD, h1, h2, h3, h4, h5, h6, h7, hb68] at hb88
 refine AT_skip ?_
 simp only [nrm, reduceIte, Nat.reduceEqDiff]
 refine hK8 _ ?_
 refine AT_seq_k fun K9 hK9 => ?_
 refine AT_block ?_
 cases hq : (a.vars[k] == b.vars[k])
 refine AT_seq_draw Pt.mixed (by kernel_rfl) fun Z z => ?_
 have hkb : k < b.vars.length := by omega
 have hka : k < a.vars.length := by omega
 have hda := List.drop_eq_getElem_cons hka
 have hdb := List.drop_eq_getElem_cons hkb
 simp [row_map, encD, hkb, encS, h1, h2, h3, h4, h5, h6, h7, hb68, hb88, hq]
 refine z _ ?_
 clear z Z
 refine AT_cond (b := true) (g := none) (by simp [h1, h2, h3, h4, h5, h6, h7, hb68, hb88, hq]) (fun hb => ?_) (fun hb => ?_)
 clear hb
 refine sr fun Z z => ?_
 simp [row_map, encD, h1, h2, h3, h4, h5, h6, h7, hb68, hb88, hq]
 refine z _ ?_
 clear z Z
 refine AT_ret ?_
 simp [row_map, encD, Tryz.f59]
 have h1b : (a.kind == b.kind) = !(a.kind != b.kind) := by rw [bne, Bool.not_not]
 rw [h1] at h1b
 simp only [Bool.not_true, Bool.not_false] at h1b
 (· simp only [sameD, hv, hda, hdb, eqL_cons, hq, Bool.false_and, Bool.and_false])
 cases hb
 refine AT_seq_draw Pt.mixed (by kernel_rfl) fun Z z => ?_
 have hkb : k < b.vars.length := by omega
 have hka : k < a.vars.length := by omega
 have hda := List.drop_eq_getElem_cons hka
 have hdb := List.drop_eq_getElem_cons hkb
 simp [row_map, encD, hkb, encS, h1, h2, h3, h4, h5, h6, h7, hb68, hb88, hq]
 refine z _ ?_
 clear z Z
 refine AT_cond (b := false) (g := none) (by simp [h1, h2, h3, h4, h5, h6, h7, hb68, hb88, hq]) (fun hb => ?_) (fun hb => ?_)
 cases hb
 clear hb
 refine AT_skip ?_
 simp only [nrm, reduceIte, Nat.reduceEqDiff]
 refine hK9 _ ?_
 refine AT_region_q fun Z z => ?_
 simp [row_map, encD, h1, h2, h3, h4, h5, h6, h7, hb68, hb88, hq]
 repeat refine sg ?_
 refine z _ ?_
 clear z Z
 simp only [nrm, reduceIte, Nat.reduceEqDiff]
 refine hK7 _ (by first | rfl | simp) (a.vars.length - (k+1)) (by omega) ?_
 refine ⟨k+1, by omega, ?_, by omega, by simp [encD]⟩
 rw [hv, hda, hdb, eqL_cons, hq]; rfl
 simp [row_map, encD, h1, h2, h3, h4, h5, h6, h7, hb68] at hb88
 refine AT_exit ?_
 simp only [nrm, reduceIte, Nat.reduceEqDiff]
 refine hK6 _ ?_
 refine AT_seq_k fun K10 hK10 => ?_
 cases h8 : (sameG a.sig b.sig)
 refine sr fun Z z => ?_
 have hV : eqL (· == ·) a.vars b.vars = true := by rw [hv, List.drop_eq_nil_of_le (by omega), List.drop_eq_nil_of_le (show b.vars.length ≤ k by omega)]; rfl
 simp [row_map, encD, h1, h2, h3, h4, h5, h6, h7, hb68, hb88, h8]
 refine RVn_call ((by have h := c_ref06x_Sig g rnd a.sig b.sig (by omega); simp only [encG] at h; exact h)) ?_
 simp [row_map, encD, h1, h2, h3, h4, h5, h6, h7, hb68, hb88, h8]
 repeat refine sg ?_
 refine z _ ?_
 clear z Z
 refine AT_cond (b := true) (g := none) (by simp [h1, h2, h3, h4, h5, h6, h7, hb68, hb88, h8]) (fun hb => ?_) (fun hb => ?_)
 clear hb
 refine sr fun Z z => ?_
 simp [row_map, encD, h1, h2, h3, h4, h5, h6, h7, hb68, hb88, h8]
 refine z _ ?_
 clear z Z
 refine AT_ret ?_
 simp [row_map, encD, Tryz.f59]
 have h1b : (a.kind == b.kind) = !(a.kind != b.kind) := by rw [bne, Bool.not_not]
 rw [h1] at h1b
 simp only [Bool.not_true, Bool.not_false] at h1b
 (simp only [sameD, h1b, h2, h3, h4, h5, hS, hV, h8]; rfl)
 cases hb
 cases h9 : (sameE a.body b.body)
 refine sr fun Z z => ?_
 have hV : eqL (· == ·) a.vars b.vars = true := by rw [hv, List.drop_eq_nil_of_le (by omega), List.drop_eq_nil_of_le (show b.vars.length ≤ k by omega)]; rfl
 simp [row_map, encD, h1, h2, h3, h4, h5, h6, h7, hb68, hb88, h8, h9]
 refine RVn_call ((by have h := c_ref06x_Sig g rnd a.sig b.sig (by omega); simp only [encG] at h; exact h)) ?_
 simp [row_map, encD, h1, h2, h3, h4, h5, h6, h7, hb68, hb88, h8, h9]
 repeat refine sg ?_
 refine RVn_call ((by have h := c_ref05x_Same g rnd a.body b.body (by omega); simp only [encE_def] at h; exact h)) ?_
 simp [row_map, encD, h1, h2, h3, h4, h5, h6, h7, hb68, hb88, h8, h9]
 repeat refine sg ?_
 refine z _ ?_
 clear z Z
 refine AT_cond (b := true) (g := none) (by simp [h1, h2, h3, h4, h5, h6, h7, hb68, hb88, h8, h9]) (fun hb => ?_) (fun hb => ?_)
 clear hb
 refine sr fun Z z => ?_
 simp [row_map, encD, h1, h2, h3, h4, h5, h6, h7, hb68, hb88, h8, h9]
 refine z _ ?_
 clear z Z
 refine AT_ret ?_
 simp [row_map, encD, Tryz.f59]
 have h1b : (a.kind == b.kind) = !(a.kind != b.kind) := by rw [bne, Bool.not_not]
 rw [h1] at h1b
 simp only [Bool.not_true, Bool.not_false] at h1b
 (simp only [sameD, h1b, h2, h3, h4, h5, hS, hV, h8, h9]; rfl)
 cases hb
 refine sr fun Z z => ?_
 have hV : eqL (· == ·) a.vars b.vars = true := by rw [hv, List.drop_eq_nil_of_le (by omega), List.drop_eq_nil_of_le (show b.vars.length ≤ k by omega)]; rfl
 simp [row_map, encD, h1, h2, h3, h4, h5, h6, h7, hb68, hb88, h8, h9]
 refine RVn_call ((by have h := c_ref06x_Sig g rnd a.sig b.sig (by omega); simp only [encG] at h; exact h)) ?_
 simp [row_map, encD, h1, h2, h3, h4, h5, h6, h7, hb68, hb88, h8, h9]
 repeat refine sg ?_
 refine RVn_call ((by have h := c_ref05x_Same g rnd a.body b.body (by omega); simp only [encE_def] at h; exact h)) ?_
 simp [row_map, encD, h1, h2, h3, h4, h5, h6, h7, hb68, hb88, h8, h9]
 repeat refine sg ?_
 refine z _ ?_
 clear z Z
 refine AT_cond (b := false) (g := none) (by simp [h1, h2, h3, h4, h5, h6, h7, hb68, hb88, h8, h9]) (fun hb => ?_) (fun hb => ?_)
 cases hb
 clear hb
 refine AT_skip ?_
 simp only [nrm, reduceIte, Nat.reduceEqDiff]
 refine hK10 _ ?_
 refine sr fun Z z => ?_
 simp [row_map, encD, h1, h2, h3, h4, h5, h6, h7, hb68, hb88, h8, h9]
 refine z _ ?_
 clear z Z
 refine AT_ret ?_
 simp [row_map, encD, Tryz.f59]
 have h1b : (a.kind == b.kind) = !(a.kind != b.kind) := by rw [bne, Bool.not_not]
 rw [h1] at h1b
 simp only [Bool.not_true, Bool.not_false] at h1b
 (simp only [sameD, h1b, h2, h3, h4, h5, hS, hV, h8, h9]; rfl)
 refine sr fun Z z => ?_
 simp [row_map, encD, h1, h2, h3, h4, h5, h6, h7]
 refine RVn_call (c_ref06x_formals g rnd a.fms b.fms (by omega) (by have := wtFs_len a.fms; omega)) ?_
 simp [row_map, encD, h1, h2, h3, h4, h5, h6, h7]
 repeat refine sg ?_
 refine RVn_call (c_ref06x_params g rnd a.flds b.flds (by omega) (by have := wtFs_len a.flds; omega)) ?_
 simp [row_map, encD, h1, h2, h3, h4, h5, h6, h7]
 repeat refine sg ?_
 refine z _ ?_
 clear z Z
 refine AT_cond (b := true) (g := none) (by simp [h1, h2, h3, h4, h5, h6, h7]) (fun hb => ?_) (fun hb => ?_)
 clear hb
 refine sr fun Z z => ?_
 simp [row_map, encD, h1, h2, h3, h4, h5, h6, h7]
 refine z _ ?_
 clear z Z
 refine AT_ret ?_
 simp [row_map, encD, Tryz.f59]
 have h1b : (a.kind == b.kind) = !(a.kind != b.kind) := by rw [bne, Bool.not_not]
 rw [h1] at h1b
 simp only [Bool.not_true, Bool.not_false] at h1b
 (· rw [sameD, eqL_len (a := a.vars) (b := b.vars) (int_ne h7)]; simp only [Bool.false_and, Bool.and_false])
 cases hb
 refine sr fun Z z => ?_
 simp [row_map, encD, h1, h2, h3, h4, h5, h6]
 refine RVn_call (c_ref06x_formals g rnd a.fms b.fms (by omega) (by have := wtFs_len a.fms; omega)) ?_
 simp [row_map, encD, h1, h2, h3, h4, h5, h6]
 repeat refine sg ?_
 refine RVn_call (c_ref06x_params g rnd a.flds b.flds (by omega) (by have := wtFs_len a.flds; omega)) ?_
 simp [row_map, encD, h1, h2, h3, h4, h5, h6]
 repeat refine sg ?_
 refine z _ ?_
 clear z Z
 refine AT_cond (b := true) (g := none) (by simp [h1, h2, h3, h4, h5, h6]) (fun hb => ?_) (fun hb => ?_)
 clear hb
 refine sr fun Z z => ?_
 simp [row_map, encD, h1, h2, h3, h4, h5, h6]
 refine z _ ?_
 clear z Z
 refine AT_ret ?_
 simp [row_map, encD, Tryz.f59]
 have h1b : (a.kind == b.kind) = !(a.kind != b.kind) := by rw [bne, Bool.not_not]
 rw [h1] at h1b
 simp only [Bool.not_true, Bool.not_false] at h1b
 (· rw [sameD, eqL_len (a := a.sigs) (b := b.sigs) (int_ne h6)]; simp only [Bool.false_and, Bool.and_false])
 cases hb
 refine sr fun Z z => ?_
 simp [row_map, encD, h1]
 refine z _ ?_
 clear z Z
 refine AT_cond (b := true) (g := none) (by simp [h1]) (fun hb => ?_) (fun hb => ?_)
 clear hb
 refine sr fun Z z => ?_
 simp [row_map, encD, h1]
 refine z _ ?_
 clear z Z
 refine AT_ret ?_
 simp [row_map, encD, Tryz.f59]
 have h1b : (a.kind == b.kind) = !(a.kind != b.kind) := by rw [bne, Bool.not_not]
 rw [h1] at h1b
 simp only [Bool.not_true, Bool.not_false] at h1b
 (· simp only [sameD, h1b, Bool.false_and])
 cases hb

theorem c_ref06x_rightFormals (a : List Fm) (hw : wtFs a ≤ 1000000000) : Valid Tryz.prog (G0 g rnd) 49 [.slice (a.map encF)] (.bool (a.all rightF)) := by
 have hl := wtFs_len a
 refine valid_of [] Tryz.func49 rfl (by kernel_rfl) ?_
 refine sr fun Z z => ?_
 simp [row_map, encF, Tryz.f49]
 refine z _ ?_
 clear z Z
 refine AT_seq_k fun K1 hK1 => ?_
 refine sr fun Z z => ?_
 simp [row_map, encF]
 refine z _ ?_
 clear z Z
 refine AT_block ?_
 refine AT_loop_q [0,3] [] (fun j s => ∃ k, k ≤ a.length ∧ a.all rightF = (a.drop k).all rightF ∧ j = a.length - k ∧ s = { n := 26, tm := [(0, .v (.slice (a.map encF)) none), (3, .v (.int .i64 k) none)], bx := [], tb := [], sh := [], hint := [] }) (a.length) (by first | rfl | simp) ?_ ?_
 exact ⟨0, by simp⟩
 rintro j s ⟨k, hk, hc, rfl, rfl⟩ K2 hK2
 refine AT_seq_k fun K3 hK3 => ?_
 refine sr fun Z z => ?_
 simp [row_map, encF]
 refine z _ ?_
 clear z Z
 refine AT_cond (g := none) rfl (fun hb7 => ?_) (fun hb7 => ?_)
 simp [row_map, encF] at hb7
 refine AT_skip ?_
 simp only [nrm, reduceIte, Nat.reduceEqDiff]
 refine hK3 _ ?_
 refine AT_seq_k fun K4 hK4 => ?_
 refine AT_block ?_
 cases h1 : (isName a[k].name)
 refine sr fun Z z => ?_
 have hka : k < a.length := by omega
 have hda := List.drop_eq_getElem_cons hka
 have hm9 := wtFs_mem (l := a) (f := a[k]) (by simp)
 have hm8 : wtF a[k] = a[k].name.length + 1 + wt a[k].ty := rfl
 simp [row_map, encF, hb7, h1]
 refine RVn_call (c_ref01x_Is g rnd a[k].name (by omega)) ?_
 simp [row_map, encF, hb7, h1]
 repeat refine sg ?_
 refine z _ ?_
 clear z Z
 refine AT_cond (b := true) (g := none) (by simp [hb7, h1]) (fun hb => ?_) (fun hb => ?_)
 clear hb
 refine sr fun Z z => ?_
 simp [row_map, encF, hb7, h1]
 refine z _ ?_
 clear z Z
 refine AT_ret ?_
 simp [row_map, encF, Tryz.f49]
 (have hz : a.all rightF = false := by rw [hc, hda, List.all_cons, rightF, h1]; rfl
  simpa using hz)
 cases hb
 cases h2 : (rightT a[k].ty)
 refine sr fun Z z => ?_
 have hka : k < a.length := by omega
 have hda := List.drop_eq_getElem_cons hka
 have hm9 := wtFs_mem (l := a) (f := a[k]) (by simp)
 have hm8 : wtF a[k] = a[k].name.length + 1 + wt a[k].ty := rfl
 simp [row_map, encF, hb7, h1, h2]
 refine RVn_call (c_ref01x_Is g rnd a[k].name (by omega)) ?_
 simp [row_map, encF, hb7, h1, h2]
 repeat refine sg ?_
 refine RVn_call ((by have h := c_ref04x_Right g rnd a[k].ty (by omega); simp only [encTy_def] at h; exact h)) ?_
 simp [row_map, encF, hb7, h1, h2]
 repeat refine sg ?_
 refine z _ ?_
 clear z Z
 refine AT_cond (b := true) (g := none) (by simp [hb7, h1, h2]) (fun hb => ?_) (fun hb => ?_)
 clear hb
 refine sr fun Z z => ?_
 simp [row_map, encF, hb7, h1, h2]
 refine z _ ?_
 clear z Z
 refine AT_ret ?_
 simp [row_map, encF, Tryz.f49]
 (have hz : a.all rightF = false := by rw [hc, hda, List.all_cons, rightF, h1, h2]; rfl
  simpa using hz)
 cases hb
 refine sr fun Z z => ?_
 have hka : k < a.length := by omega
 have hda := List.drop_eq_getElem_cons hka
 have hm9 := wtFs_mem (l := a) (f := a[k]) (by simp)
 have hm8 : wtF a[k] = a[k].name.length + 1 + wt a[k].ty := rfl
 simp [row_map, encF, hb7, h1, h2]
 refine RVn_call (c_ref01x_Is g rnd a[k].name (by omega)) ?_
 simp [row_map, encF, hb7, h1, h2]
 repeat refine sg ?_
 refine RVn_call ((by have h := c_ref04x_Right g rnd a[k].ty (by omega); simp only [encTy_def] at h; exact h)) ?_
 simp [row_map, encF, hb7, h1, h2]
 repeat refine sg ?_
 refine z _ ?_
 clear z Z
 refine AT_cond (b := false) (g := none) (by simp [hb7, h1, h2]) (fun hb => ?_) (fun hb => ?_)
 cases hb
 clear hb
 refine AT_skip ?_
 refine hK4 _ ?_
 refine AT_region_q fun Z z => ?_
 simp [row_map, encF, hb7, h1, h2]
 repeat refine sg ?_
 refine z _ ?_
 clear z Z
 simp only [nrm, reduceIte, Nat.reduceEqDiff]
 refine hK2 _ (by first | rfl | simp) (a.length - (k+1)) (by omega) ?_
 refine ⟨k+1, by omega, ?_, by omega, by simp⟩
 rw [hc, hda, List.all_cons, rightF, h1, h2]; rfl
 simp [row_map, encF] at hb7
 refine AT_exit ?_
 simp only [nrm, reduceIte, Nat.reduceEqDiff]
 refine hK1 _ ?_
 refine sr fun Z z => ?_
 simp [row_map, encF, hb7]
 refine z _ ?_
 clear z Z
 refine AT_ret ?_
 simp [row_map, encF, Tryz.f49]
 (have hz : a.all rightF = true := by rw [hc, List.drop_eq_nil_of_le (by omega)]; rfl
  simpa using hz)

theorem c_ref06x_rightParams (a : List Fm) (hw : wtFs a ≤ 1000000000) : Valid Tryz.prog (G0 g rnd) 50 [.slice (a.map encF)] (.bool (a.all rightF)) := by
 have hl := wtFs_len a
 refine valid_of [] Tryz.func50 rfl (by kernel_rfl) ?_
 refine sr fun Z z => ?_
 simp [row_map, encF, Tryz.f50]
 refine z _ ?_
 clear z Z
 refine AT_seq_k fun K1 hK1 => ?_
 refine sr fun Z z => ?_
 simp [row_map, encF]
 refine z _ ?_
 clear z Z
 refine AT_block ?_
 refine AT_loop_q [0,3] [] (fun j s => ∃ k, k ≤ a.length ∧ a.all rightF = (a.drop k).all rightF ∧ j = a.length - k ∧ s = { n := 26, tm := [(0, .v (.slice (a.map encF)) none), (3, .v (.int .i64 k) none)], bx := [], tb := [], sh := [], hint := [] }) (a.length) (by first | rfl | simp) ?_ ?_
 exact ⟨0, by simp⟩
 rintro j s ⟨k, hk, hc, rfl, rfl⟩ K2 hK2
 refine AT_seq_k fun K3 hK3 => ?_
 refine sr fun Z z => ?_
 simp [row_map, encF]
 refine z _ ?_
 clear z Z
 refine AT_cond (g := none) rfl (fun hb7 => ?_) (fun hb7 => ?_)
 simp [row_map, encF] at hb7
 refine AT_skip ?_
 simp only [nrm, reduceIte, Nat.reduceEqDiff]
 refine hK3 _ ?_
 refine AT_seq_k fun K4 hK4 => ?_
 refine AT_block ?_
 cases h1 : (isName a[k].name)
 refine sr fun Z z => ?_
 have hka : k < a.length := by omega
 have hda := List.drop_eq_getElem_cons hka
 have hm9 := wtFs_mem (l := a) (f := a[k]) (by simp)
 have hm8 : wtF a[k] = a[k].name.length + 1 + wt a[k].ty := rfl
 simp [row_map, encF, hb7, h1]
 refine RVn_call (c_ref01x_Is g rnd a[k].name (by omega)) ?_
 simp [row_map, encF, hb7, h1]
 repeat refine sg ?_
 refine z _ ?_
 clear z Z
 refine AT_cond (b := true) (g := none) (by simp [hb7, h1]) (fun hb => ?_) (fun hb => ?_)
 clear hb
 refine sr fun Z z => ?_
 simp [row_map, encF, hb7, h1]
 refine z _ ?_
 clear z Z
 refine AT_ret ?_
 simp [row_map, encF, Tryz.f50]
 (have hz : a.all rightF = false := by rw [hc, hda, List.all_cons, rightF, h1]; rfl
  simpa using hz)
 cases hb
 cases h2 : (rightT a[k].ty)
 refine sr fun Z z => ?_
 have hka : k < a.length := by omega
 have hda := List.drop_eq_getElem_cons hka
 have hm9 := wtFs_mem (l := a) (f := a[k]) (by simp)
 have hm8 : wtF a[k] = a[k].name.length + 1 + wt a[k].ty := rfl
 simp [row_map, encF, hb7, h1, h2]
 refine RVn_call (c_ref01x_Is g rnd a[k].name (by omega)) ?_
 simp [row_map, encF, hb7, h1, h2]
 repeat refine sg ?_
 refine RVn_call ((by have h := c_ref04x_Right g rnd a[k].ty (by omega); simp only [encTy_def] at h; exact h)) ?_
 simp [row_map, encF, hb7, h1, h2]
 repeat refine sg ?_
 refine z _ ?_
 clear z Z
 refine AT_cond (b := true) (g := none) (by simp [hb7, h1, h2]) (fun hb => ?_) (fun hb => ?_)
 clear hb
 refine sr fun Z z => ?_
 simp [row_map, encF, hb7, h1, h2]
 refine z _ ?_
 clear z Z
 refine AT_ret ?_
 simp [row_map, encF, Tryz.f50]
 (have hz : a.all rightF = false := by rw [hc, hda, List.all_cons, rightF, h1, h2]; rfl
  simpa using hz)
 cases hb
 refine sr fun Z z => ?_
 have hka : k < a.length := by omega
 have hda := List.drop_eq_getElem_cons hka
 have hm9 := wtFs_mem (l := a) (f := a[k]) (by simp)
 have hm8 : wtF a[k] = a[k].name.length + 1 + wt a[k].ty := rfl
 simp [row_map, encF, hb7, h1, h2]
 refine RVn_call (c_ref01x_Is g rnd a[k].name (by omega)) ?_
 simp [row_map, encF, hb7, h1, h2]
 repeat refine sg ?_
 refine RVn_call ((by have h := c_ref04x_Right g rnd a[k].ty (by omega); simp only [encTy_def] at h; exact h)) ?_
 simp [row_map, encF, hb7, h1, h2]
 repeat refine sg ?_
 refine z _ ?_
 clear z Z
 refine AT_cond (b := false) (g := none) (by simp [hb7, h1, h2]) (fun hb => ?_) (fun hb => ?_)
 cases hb
 clear hb
 refine AT_skip ?_
 refine hK4 _ ?_
 refine AT_region_q fun Z z => ?_
 simp [row_map, encF, hb7, h1, h2]
 repeat refine sg ?_
 refine z _ ?_
 clear z Z
 simp only [nrm, reduceIte, Nat.reduceEqDiff]
 refine hK2 _ (by first | rfl | simp) (a.length - (k+1)) (by omega) ?_
 refine ⟨k+1, by omega, ?_, by omega, by simp⟩
 rw [hc, hda, List.all_cons, rightF, h1, h2]; rfl
 simp [row_map, encF] at hb7
 refine AT_exit ?_
 simp only [nrm, reduceIte, Nat.reduceEqDiff]
 refine hK1 _ ?_
 refine sr fun Z z => ?_
 simp [row_map, encF, hb7]
 refine z _ ?_
 clear z Z
 refine AT_ret ?_
 simp [row_map, encF, Tryz.f50]
 (have hz : a.all rightF = true := by rw [hc, List.drop_eq_nil_of_le (by omega)]; rfl
  simpa using hz)

theorem c_ref06x_rightSig (a : Sg) (hw : wtG a ≤ 1000000000) : Valid Tryz.prog (G0 g rnd) 51 [.agg (encG a)] (.bool (rightG a)) := by
 have hw2 : a.name.length + 1 + wtFs a.fms + wtFs a.pms + wt a.res ≤ 1000000000 := hw
 refine valid_of [] Tryz.func51 rfl (by kernel_rfl) ?_
 refine sr fun Z z => ?_
 simp [encG, Tryz.f51]
 refine z _ ?_
 clear z Z
 cases h1 : (isName a.name)
 refine sr fun Z z => ?_
 simp [encG, h1]
 refine RVn_call (c_ref01x_Is g rnd a.name (by omega)) ?_
 simp [encG, h1]
 repeat refine sg ?_
 refine z _ ?_
 clear z Z
 refine AT_ret ?_
 simp [encG, Tryz.f51]
 (· simp [rightG, h1])
 cases h2 : (a.fms.all rightF)
 refine sr fun Z z => ?_
 simp [encG, h1, h2]
 refine RVn_call (c_ref01x_Is g rnd a.name (by omega)) ?_
 simp [encG, h1, h2]
 repeat refine sg ?_
 refine RVn_call (c_ref06x_rightFormals g rnd a.fms (by omega)) ?_
 simp [encG, h1, h2]
 repeat refine sg ?_
 refine z _ ?_
 clear z Z
 refine AT_ret ?_
 simp [encG, Tryz.f51]
 (· simp [rightG, h1, h2])
 cases h3 : (a.pms.all rightF)
 refine sr fun Z z => ?_
 simp [encG, h1, h2, h3]
 refine RVn_call (c_ref01x_Is g rnd a.name (by omega)) ?_
 simp [encG, h1, h2, h3]
 repeat refine sg ?_
 refine RVn_call (c_ref06x_rightFormals g rnd a.fms (by omega)) ?_
 simp [encG, h1, h2, h3]
 repeat refine sg ?_
 refine RVn_call (c_ref06x_rightParams g rnd a.pms (by omega)) ?_
 simp [encG, h1, h2, h3]
 repeat refine sg ?_
 refine z _ ?_
 clear z Z
 refine AT_ret ?_
 simp [encG, Tryz.f51]
 (· simp [rightG, h1, h2, h3])
 refine sr fun Z z => ?_
 simp [encG, h1, h2, h3]
 refine RVn_call (c_ref01x_Is g rnd a.name (by omega)) ?_
 simp [encG, h1, h2, h3]
 repeat refine sg ?_
 refine RVn_call (c_ref06x_rightFormals g rnd a.fms (by omega)) ?_
 simp [encG, h1, h2, h3]
 repeat refine sg ?_
 refine RVn_call (c_ref06x_rightParams g rnd a.pms (by omega)) ?_
 simp [encG, h1, h2, h3]
 repeat refine sg ?_
 refine RVn_call ((by have h := c_ref04x_Right g rnd a.res (by omega); simp only [encTy_def] at h; exact h)) ?_
 simp [encG, h1, h2, h3]
 repeat refine sg ?_
 refine z _ ?_
 clear z Z
 refine AT_ret ?_
 simp [encG, Tryz.f51]
 (· simp [rightG, h1, h2, h3])

theorem c_ref06x_RightDecl (a : Dc) (hw : wtD a ≤ 400000000) : Valid Tryz.prog (G0 g rnd) 19 [.agg (encD a)] (.bool (rightD a)) := by
 have hw2 : a.name.length + 1 + wtFs a.fms + wtFs a.flds + wtGs a.sigs + a.recv.length + wtSs a.vars + wtG a.sig + wtE a.body ≤ 400000000 := hw
 have hl1 := wtFs_len a.fms
 have hl2 := wtFs_len a.flds
 have hl3 := wtGs_len a.sigs
 have hl4 := wtSs_len a.vars
 refine valid_of [] Tryz.func19 rfl (by kernel_rfl) ?_
 refine sr fun Z z => ?_
 simp [row_map, encD, len_is0, Tryz.f19]
 refine z _ ?_
 clear z Z
 refine AT_seq_k fun K1 hK1 => ?_
 cases h1 : (isName a.name)
 refine sr fun Z z => ?_
 simp [row_map, encD, len_is0, h1]
 refine RVn_call (c_ref01x_Is g rnd a.name (by omega)) ?_
 simp [row_map, encD, len_is0, h1]
 repeat refine sg ?_
 refine z _ ?_
 clear z Z
 refine AT_cond (b := true) (g := none) (by simp [h1]) (fun hb => ?_) (fun hb => ?_)
 clear hb
 refine sr fun Z z => ?_
 simp [row_map, encD, len_is0, h1]
 refine z _ ?_
 clear z Z
 refine AT_ret ?_
 simp [row_map, encD, len_is0, Tryz.f19]
 rw [rightD_eq]
 (· simp only [rightDR, h1, Bool.false_and])
 cases hb
 cases h2 : (a.fms.all rightF)
 refine sr fun Z z => ?_
 simp [row_map, encD, len_is0, h1, h2]
 refine RVn_call (c_ref01x_Is g rnd a.name (by omega)) ?_
 simp [row_map, encD, len_is0, h1, h2]
 repeat refine sg ?_
 refine RVn_call (c_ref06x_rightFormals g rnd a.fms (by omega)) ?_
 simp [row_map, encD, len_is0, h1, h2]
 repeat refine sg ?_
 refine z _ ?_
 clear z Z
 refine AT_cond (b := true) (g := none) (by simp [h1, h2]) (fun hb => ?_) (fun hb => ?_)
 clear hb
 refine sr fun Z z => ?_
 simp [row_map, encD, len_is0, h1, h2]
 refine z _ ?_
 clear z Z
 refine AT_ret ?_
 simp [row_map, encD, len_is0, Tryz.f19]
 rw [rightD_eq]
 (· simp only [rightDR, h2, Bool.false_and, Bool.and_false])
 cases hb
 cases h3 : (a.flds.all rightF)
 refine sr fun Z z => ?_
 simp [row_map, encD, len_is0, h1, h2, h3]
 refine RVn_call (c_ref01x_Is g rnd a.name (by omega)) ?_
 simp [row_map, encD, len_is0, h1, h2, h3]
 repeat refine sg ?_
 refine RVn_call (c_ref06x_rightFormals g rnd a.fms (by omega)) ?_
 simp [row_map, encD, len_is0, h1, h2, h3]
 repeat refine sg ?_
 refine RVn_call (c_ref06x_rightParams g rnd a.flds (by omega)) ?_
 simp [row_map, encD, len_is0, h1, h2, h3]
 repeat refine sg ?_
 refine z _ ?_
 clear z Z
 refine AT_cond (b := true) (g := none) (by simp [h1, h2, h3]) (fun hb => ?_) (fun hb => ?_)
 clear hb
 refine sr fun Z z => ?_
 simp [row_map, encD, len_is0, h1, h2, h3]
 refine z _ ?_
 clear z Z
 refine AT_ret ?_
 simp [row_map, encD, len_is0, Tryz.f19]
 rw [rightD_eq]
 (· simp only [rightDR, h3, Bool.false_and, Bool.and_false])
 cases hb
 refine sr fun Z z => ?_
 simp [row_map, encD, len_is0, h1, h2, h3]
 refine RVn_call (c_ref01x_Is g rnd a.name (by omega)) ?_
 simp [row_map, encD, len_is0, h1, h2, h3]
 repeat refine sg ?_
 refine RVn_call (c_ref06x_rightFormals g rnd a.fms (by omega)) ?_
 simp [row_map, encD, len_is0, h1, h2, h3]
 repeat refine sg ?_
 refine RVn_call (c_ref06x_rightParams g rnd a.flds (by omega)) ?_
 simp [row_map, encD, len_is0, h1, h2, h3]
 repeat refine sg ?_
 refine z _ ?_
 clear z Z
 refine AT_cond (b := false) (g := none) (by simp [h1, h2, h3]) (fun hb => ?_) (fun hb => ?_)
 cases hb
 clear hb
 refine AT_skip ?_
 simp only [nrm, reduceIte, Nat.reduceEqDiff]
 refine hK1 _ ?_
 refine AT_seq_k fun K2 hK2 => ?_
 refine sr fun Z z => ?_
 simp [row_map, encD, len_is0, h1, h2, h3]
 refine z _ ?_
 clear z Z
 refine AT_block ?_
 refine AT_loop_q [1,3] [1] (fun j s => ∃ k, k ≤ a.sigs.length ∧ a.sigs.all rightG = (a.sigs.drop k).all rightG ∧ j = a.sigs.length - k ∧ s = { n := 124, tm := [(1, .lp 1 0), (3, .v (.int .i64 k) none)], bx := [(1, encD a)], tb := [], sh := [], hint := [] }) (a.sigs.length) (by first | rfl | simp) ?_ ?_
 exact ⟨0, by simp [encD]⟩
 rintro j s ⟨k, hk, hc, rfl, rfl⟩ K3 hK3
 refine AT_seq_k fun K4 hK4 => ?_
 refine sr fun Z z => ?_
 simp [row_map, encD, len_is0, h1, h2, h3]
 refine z _ ?_
 clear z Z
 refine AT_cond (g := none) rfl (fun hb26 => ?_) (fun hb26 => ?_)
 simp [row_map, encD, len_is0, h1, h2, h3] at hb26
 refine AT_skip ?_
 simp only [nrm, reduceIte, Nat.reduceEqDiff]
 refine hK4 _ ?_
 refine AT_seq_k fun K5 hK5 => ?_
 refine AT_block ?_
 refine sr fun Z z => ?_
 have hka : k < a.sigs.length := by omega
 have hda := List.drop_eq_getElem_cons hka
 have hm9 := wtGs_mem (l := a.sigs) (f := a.sigs[k]) (by simp)
 simp [row_map, encD, len_is0, encG, h1, h2, h3, hb26]
 refine RVn_call ((by have h := c_ref06x_rightSig g rnd a.sigs[k] (by omega); simp only [encG] at h; exact h)) ?_
 simp [row_map, encD, len_is0, encG, h1, h2, h3, hb26]
 refine z _ ?_
 clear z Z
 refine AT_cond (g := none) rfl (fun hb35 => ?_) (fun hb35 => ?_)
 simp [row_map, encD, len_is0, h1, h2, h3, hb26] at hb35
 refine sr fun Z z => ?_
 simp [row_map, encD, len_is0, h1, h2, h3, hb26]
 refine z _ ?_
 clear z Z
 refine AT_ret ?_
 simp [row_map, encD, len_is0, Tryz.f19]
 rw [rightD_eq]
 (· rw [rightDR, hc, hda, List.all_cons, hb35]; simp only [Bool.false_and, Bool.and_false])
 simp [row_map, encD, len_is0, h1, h2, h3, hb26] at hb35
 refine AT_skip ?_
 refine hK5 _ ?_
 refine AT_region_q fun Z z => ?_
 simp [row_map, encD, len_is0, h1, h2, h3, hb26]
 repeat refine sg ?_
 refine z _ ?_
 clear z Z
 simp only [nrm, reduceIte, Nat.reduceEqDiff]
 refine hK3 _ (by first | rfl | simp) (a.sigs.length - (k+1)) (by omega) ?_
 refine ⟨k+1, by omega, ?_, by omega, by simp [encD]⟩
 rw [hc, hda, List.all_cons, hb35]; rfl
 simp [row_map, encD, len_is0, h1, h2, h3] at hb26
 refine AT_exit ?_
 simp only [nrm, reduceIte, Nat.reduceEqDiff]
 refine hK2 _ ?_
 refine AT_seq_k fun K6 hK6 => ?_
 refine sr fun Z z => ?_
 have hS : a.sigs.all rightG = true := by rw [hc, List.drop_eq_nil_of_le (by omega)]; rfl
 simp [row_map, encD, len_is0, h1, h2, h3, hb26]
 refine z _ ?_
 clear z Z
 refine AT_block ?_
 refine AT_loop_q [1,4] [1] (fun j s => ∃ k, k ≤ a.vars.length ∧ a.vars.all isName = (a.vars.drop k).all isName ∧ j = a.vars.length - k ∧ s = { n := 124, tm := [(1, .lp 1 0), (4, .v (.int .i64 k) none)], bx := [(1, encD a)], tb := [], sh := [], hint := [] }) (a.vars.length) (by first | rfl | simp) ?_ ?_
 exact ⟨0, by simp [encD]⟩
 rintro j s ⟨k, hk, hv, rfl, rfl⟩ K7 hK7
 refine AT_seq_k fun K8 hK8 => ?_
 refine sr fun Z z => ?_
 simp [row_map, encD, len_is0, h1, h2, h3, hb26]
 refine z _ ?_
 clear z Z
 refine AT_cond (g := none) rfl (fun hb40 => ?_) (fun hb40 => ?_)
 simp [row_map, encD, len_is0, h1, h2, h3, hb26] at hb40
 refine AT_skip ?_
 simp only [nrm, reduceIte, Nat.reduceEqDiff]
 refine hK8 _ ?_
 refine AT_seq_k fun K9 hK9 => ?_
 refine AT_block ?_
 refine sr fun Z z => ?_
 have hka : k < a.vars.length := by omega
 have hda := List.drop_eq_getElem_cons hka
 have hm9 := wtSs_mem (l := a.vars) (f := a.vars[k]) (by simp)
 simp [row_map, encD, len_is0, encS, h1, h2, h3, hb26, hb40]
 refine RVn_call (c_ref01x_Is g rnd a.vars[k] (by omega)) ?_
 simp [row_map, encD, len_is0, encS, h1, h2, h3, hb26, hb40]
 refine z _ ?_
 clear z Z
 refine AT_cond (g := none) rfl (fun hb49 => ?_) (fun hb49 => ?_)
 simp [row_map, encD, len_is0, h1, h2, h3, hb26, hb40] at hb49
 refine sr fun Z z => ?_
 simp [row_map, encD, len_is0, h1, h2, h3, hb26, hb40]
 refine z _ ?_
 clear z Z
 refine AT_ret ?_
 simp [row_map, encD, len_is0, Tryz.f19]
 rw [rightD_eq]
 (· rw [rightDR, hv, hda, List.all_cons, hb49]; simp only [Bool.false_and, Bool.and_false])
 simp [row_map, encD, len_is0, h1, h2, h3, hb26, hb40] at hb49
 refine AT_skip ?_
 refine hK9 _ ?_
 refine AT_region_q fun Z z => ?_
 simp [row_map, encD, len_is0, h1, h2, h3, hb26, hb40]
 repeat refine sg ?_
 refine z _ ?_
 clear z Z
 simp only [nrm, reduceIte, Nat.reduceEqDiff]
 refine hK7 _ (by first | rfl | simp) (a.vars.length - (k+1)) (by omega) ?_
 refine ⟨k+1, by omega, ?_, by omega, by simp [encD]⟩
 rw [hv, hda, List.all_cons, hb49]; rfl
 simp [row_map, encD, len_is0, h1, h2, h3, hb26] at hb40
 refine AT_exit ?_
 simp only [nrm, reduceIte, Nat.reduceEqDiff]
 refine hK6 _ ?_
 refine AT_seq_k fun K10 hK10 => ?_
 cases hk3 : (a.kind == 3)
 refine sr fun Z z => ?_
 have hV : a.vars.all isName = true := by rw [hv, List.drop_eq_nil_of_le (by omega)]; rfl
 simp [row_map, encD, len_is0, h1, h2, h3, hb26, hb40, hk3]
 refine z _ ?_
 clear z Z
 refine AT_cond (b := false) (g := none) (by simp [h1, h2, h3, hb26, hb40, hk3]) (fun hb => ?_) (fun hb => ?_)
 cases hb
 clear hb
 refine AT_skip ?_
 simp only [nrm, reduceIte, Nat.reduceEqDiff]
 refine hK10 _ ?_
 cases h4 : (a.recv == [])
 refine sr fun Z z => ?_
 simp [row_map, encD, len_is0, h1, h2, h3, hb26, hb40, hk3, h4]
 refine z _ ?_
 clear z Z
 cases h8 : (a.kind == 1)
 cases h10 : (a.kind == 2)
 refine sr fun Z z => ?_
 simp [row_map, encD, len_is0, h1, h2, h3, hb26, hb40, hk3, h4, h8, h10]
 refine z _ ?_
 clear z Z
 refine AT_ret ?_
 simp [row_map, encD, len_is0, Tryz.f19]
 rw [rightD_eq]
 (rw [rightDR_no h1 h2 h3 hS hV hk3, h4]; rfl)
 refine sr fun Z z => ?_
 simp [row_map, encD, len_is0, h1, h2, h3, hb26, hb40, hk3, h4, h8, h10]
 refine z _ ?_
 clear z Z
 refine AT_ret ?_
 simp [row_map, encD, len_is0, Tryz.f19]
 rw [rightD_eq]
 (rw [rightDR_no h1 h2 h3 hS hV hk3, h4]; rfl)
 cases h9 : a.sigs.isEmpty
 cases h10 : (a.kind == 2)
 refine sr fun Z z => ?_
 simp [row_map, encD, len_is0, h1, h2, h3, hb26, hb40, hk3, h4, h8, h9, h10]
 refine z _ ?_
 clear z Z
 refine AT_ret ?_
 simp [row_map, encD, len_is0, Tryz.f19]
 rw [rightD_eq]
 (rw [rightDR_no h1 h2 h3 hS hV hk3, h4]; rfl)
 refine sr fun Z z => ?_
 simp [row_map, encD, len_is0, h1, h2, h3, hb26, hb40, hk3, h4, h8, h9, h10]
 refine z _ ?_
 clear z Z
 refine AT_ret ?_
 simp [row_map, encD, len_is0, Tryz.f19]
 rw [rightD_eq]
 (rw [rightDR_no h1 h2 h3 hS hV hk3, h4]; rfl)
 refine sr fun Z z => ?_
 simp [row_map, encD, len_is0, h1, h2, h3, hb26, hb40, hk3, h4, h8, h9]
 refine z _ ?_
 clear z Z
 refine AT_ret ?_
 simp [row_map, encD, len_is0, Tryz.f19]
 rw [rightD_eq]
 (rw [rightDR_no h1 h2 h3 hS hV hk3, h4]; rfl)
 cases h5 : (a.vars.isEmpty)
 refine sr fun Z z => ?_
 simp [row_map, encD, len_is0, h1, h2, h3, hb26, hb40, hk3, h4, h5]
 refine z _ ?_
 clear z Z
 cases h8 : (a.kind == 1)
 cases h10 : (a.kind == 2)
 refine sr fun Z z => ?_
 simp [row_map, encD, len_is0, h1, h2, h3, hb26, hb40, hk3, h4, h5, h8, h10]
 refine z _ ?_
 clear z Z
 refine AT_ret ?_
 simp [row_map, encD, len_is0, Tryz.f19]
 rw [rightD_eq]
 (rw [rightDR_no h1 h2 h3 hS hV hk3, h4, h5]; rfl)
 refine sr fun Z z => ?_
 simp [row_map, encD, len_is0, h1, h2, h3, hb26, hb40, hk3, h4, h5, h8, h10]
 refine z _ ?_
 clear z Z
 refine AT_ret ?_
 simp [row_map, encD, len_is0, Tryz.f19]
 rw [rightD_eq]
 (rw [rightDR_no h1 h2 h3 hS hV hk3, h4, h5]; rfl)
 cases h9 : a.sigs.isEmpty
 cases h10 : (a.kind == 2)
 refine sr fun Z z => ?_
 simp [row_map, encD, len_is0, h1, h2, h3, hb26, hb40, hk3, h4, h5, h8, h9, h10]
 refine z _ ?_
 clear z Z
 refine AT_ret ?_
 simp [row_map, encD, len_is0, Tryz.f19]
 rw [rightD_eq]
 (rw [rightDR_no h1 h2 h3 hS hV hk3, h4, h5]; rfl)
 refine sr fun Z z => ?_
 simp [row_map, encD, len_is0, h1, h2, h3, hb26, hb40, hk3, h4, h5, h8, h9, h10]
 refine z _ ?_
 clear z Z
 refine AT_ret ?_
 simp [row_map, encD, len_is0, Tryz.f19]
 rw [rightD_eq]
 (rw [rightDR_no h1 h2 h3 hS hV hk3, h4, h5]; rfl)
 refine sr fun Z z => ?_
 simp [row_map, encD, len_is0, h1, h2, h3, hb26, hb40, hk3, h4, h5, h8, h9]
 refine z _ ?_
 clear z Z
 refine AT_ret ?_
 simp [row_map, encD, len_is0, Tryz.f19]
 rw [rightD_eq]
 (rw [rightDR_no h1 h2 h3 hS hV hk3, h4, h5]; rfl)
 cases h6 : (sameG a.sig ⟨[], [], [], .mk [] [] 0, 0⟩)
 refine sr fun Z z => ?_
 simp [row_map, encD, len_is0, h1, h2, h3, hb26, hb40, hk3, h4, h5, h6]
 refine RVn_call ((by have h := c_ref06x_Sig g rnd a.sig ⟨[], [], [], .mk [] [] 0, 0⟩ (by omega); simp only [encG,  List.map_nil, Ty.name, Ty.args, Ty.pos] at h ⊢; exact h)) ?_
 simp [row_map, encD, len_is0, h1, h2, h3, hb26, hb40, hk3, h4, h5, h6]
 repeat refine sg ?_
 refine z _ ?_
 clear z Z
 cases h8 : (a.kind == 1)
 cases h10 : (a.kind == 2)
 refine sr fun Z z => ?_
 simp [row_map, encD, len_is0, h1, h2, h3, hb26, hb40, hk3, h4, h5, h6, h8, h10]
 refine z _ ?_
 clear z Z
 refine AT_ret ?_
 simp [row_map, encD, len_is0, Tryz.f19]
 rw [rightD_eq]
 (rw [rightDR_no h1 h2 h3 hS hV hk3, h4, h5, h6]; rfl)
 refine sr fun Z z => ?_
 simp [row_map, encD, len_is0, h1, h2, h3, hb26, hb40, hk3, h4, h5, h6, h8, h10]
 refine z _ ?_
 clear z Z
 refine AT_ret ?_
 simp [row_map, encD, len_is0, Tryz.f19]
 rw [rightD_eq]
 (rw [rightDR_no h1 h2 h3 hS hV hk3, h4, h5, h6]; rfl)
 cases h9 : a.sigs.isEmpty
 cases h10 : (a.kind == 2)
 refine sr fun Z z => ?_
 simp [row_map, encD, len_is0, h1, h2, h3, hb26, hb40, hk3, h4, h5, h6, h8, h9, h10]
 refine z _ ?_
 clear z Z
 refine AT_ret ?_
 simp [row_map, encD, len_is0, Tryz.f19]
 rw [rightD_eq]
 (rw [rightDR_no h1 h2 h3 hS hV hk3, h4, h5, h6]; rfl)
 refine sr fun Z z => ?_
 simp [row_map, encD, len_is0, h1, h2, h3, hb26, hb40, hk3, h4, h5, h6, h8, h9, h10]
 refine z _ ?_
 clear z Z
 refine AT_ret ?_
 simp [row_map, encD, len_is0, Tryz.f19]
 rw [rightD_eq]
 (rw [rightDR_no h1 h2 h3 hS hV hk3, h4, h5, h6]; rfl)
 refine sr fun Z z => ?_
 simp [row_map, encD, len_is0, h1, h2, h3, hb26, hb40, hk3, h4, h5, h6, h8, h9]
 refine z _ ?_
 clear z Z
 refine AT_ret ?_
 simp [row_map, encD, len_is0, Tryz.f19]
 rw [rightD_eq]
 (rw [rightDR_no h1 h2 h3 hS hV hk3, h4, h5, h6]; rfl)
 cases h7 : (sameE a.body (.mk 0 [] (.mk [] [] 0) [] [] 0))
 refine sr fun Z z => ?_
 simp [row_map, encD, len_is0, h1, h2, h3, hb26, hb40, hk3, h4, h5, h6, h7]
 refine RVn_call ((by have h := c_ref06x_Sig g rnd a.sig ⟨[], [], [], .mk [] [] 0, 0⟩ (by omega); simp only [encG,  List.map_nil, Ty.name, Ty.args, Ty.pos] at h ⊢; exact h)) ?_
 simp [row_map, encD, len_is0, h1, h2, h3, hb26, hb40, hk3, h4, h5, h6, h7]
 repeat refine sg ?_
 refine RVn_call ((by have h := c_ref05x_Same g rnd a.body (.mk 0 [] (.mk [] [] 0) [] [] 0) (by omega); simp only [encE_def,  List.map_nil, Ty.name, Ty.args, Ty.pos, Exp.kind, Exp.name, Exp.ty, Exp.ta, Exp.kids, Exp.pos] at h ⊢; exact h)) ?_
 simp [row_map, encD, len_is0, h1, h2, h3, hb26, hb40, hk3, h4, h5, h6, h7]
 repeat refine sg ?_
 refine z _ ?_
 clear z Z
 cases h8 : (a.kind == 1)
 cases h10 : (a.kind == 2)
 refine sr fun Z z => ?_
 simp [row_map, encD, len_is0, h1, h2, h3, hb26, hb40, hk3, h4, h5, h6, h7, h8, h10]
 refine z _ ?_
 clear z Z
 refine AT_ret ?_
 simp [row_map, encD, len_is0, Tryz.f19]
 rw [rightD_eq]
 (rw [rightDR_no h1 h2 h3 hS hV hk3, h4, h5, h6, h7]; rfl)
 refine sr fun Z z => ?_
 simp [row_map, encD, len_is0, h1, h2, h3, hb26, hb40, hk3, h4, h5, h6, h7, h8, h10]
 refine z _ ?_
 clear z Z
 refine AT_ret ?_
 simp [row_map, encD, len_is0, Tryz.f19]
 rw [rightD_eq]
 (rw [rightDR_no h1 h2 h3 hS hV hk3, h4, h5, h6, h7]; rfl)
 cases h9 : a.sigs.isEmpty
 cases h10 : (a.kind == 2)
 refine sr fun Z z => ?_
 simp [row_map, encD, len_is0, h1, h2, h3, hb26, hb40, hk3, h4, h5, h6, h7, h8, h9, h10]
 refine z _ ?_
 clear z Z
 refine AT_ret ?_
 simp [row_map, encD, len_is0, Tryz.f19]
 rw [rightD_eq]
 (rw [rightDR_no h1 h2 h3 hS hV hk3, h4, h5, h6, h7]; rfl)
 refine sr fun Z z => ?_
 simp [row_map, encD, len_is0, h1, h2, h3, hb26, hb40, hk3, h4, h5, h6, h7, h8, h9, h10]
 refine z _ ?_
 clear z Z
 refine AT_ret ?_
 simp [row_map, encD, len_is0, Tryz.f19]
 rw [rightD_eq]
 (rw [rightDR_no h1 h2 h3 hS hV hk3, h4, h5, h6, h7]; rfl)
 refine sr fun Z z => ?_
 simp [row_map, encD, len_is0, h1, h2, h3, hb26, hb40, hk3, h4, h5, h6, h7, h8, h9]
 refine z _ ?_
 clear z Z
 refine AT_ret ?_
 simp [row_map, encD, len_is0, Tryz.f19]
 rw [rightD_eq]
 (rw [rightDR_no h1 h2 h3 hS hV hk3, h4, h5, h6, h7]; rfl)
 refine sr fun Z z => ?_
 simp [row_map, encD, len_is0, h1, h2, h3, hb26, hb40, hk3, h4, h5, h6, h7]
 refine RVn_call ((by have h := c_ref06x_Sig g rnd a.sig ⟨[], [], [], .mk [] [] 0, 0⟩ (by omega); simp only [encG,  List.map_nil, Ty.name, Ty.args, Ty.pos] at h ⊢; exact h)) ?_
 simp [row_map, encD, len_is0, h1, h2, h3, hb26, hb40, hk3, h4, h5, h6, h7]
 repeat refine sg ?_
 refine RVn_call ((by have h := c_ref05x_Same g rnd a.body (.mk 0 [] (.mk [] [] 0) [] [] 0) (by omega); simp only [encE_def,  List.map_nil, Ty.name, Ty.args, Ty.pos, Exp.kind, Exp.name, Exp.ty, Exp.ta, Exp.kids, Exp.pos] at h ⊢; exact h)) ?_
 simp [row_map, encD, len_is0, h1, h2, h3, hb26, hb40, hk3, h4, h5, h6, h7]
 repeat refine sg ?_
 refine z _ ?_
 clear z Z
 cases h8 : (a.kind == 1)
 cases h10 : (a.kind == 2)
 refine sr fun Z z => ?_
 simp [row_map, encD, len_is0, h1, h2, h3, hb26, hb40, hk3, h4, h5, h6, h7, h8, h10]
 refine z _ ?_
 clear z Z
 refine AT_ret ?_
 simp [row_map, encD, len_is0, Tryz.f19]
 rw [rightD_eq]
 (rw [rightDR_no h1 h2 h3 hS hV hk3, h4, h5, h6, h7, h8, h10]; rfl)
 refine sr fun Z z => ?_
 simp [row_map, encD, len_is0, h1, h2, h3, hb26, hb40, hk3, h4, h5, h6, h7, h8, h10]
 refine z _ ?_
 clear z Z
 refine AT_ret ?_
 simp [row_map, encD, len_is0, Tryz.f19]
 rw [rightD_eq]
 (rw [rightDR_no h1 h2 h3 hS hV hk3, h4, h5, h6, h7, h8, h10]; rfl)
 cases h9 : a.sigs.isEmpty
 cases h10 : (a.kind == 2)
 refine sr fun Z z => ?_
 simp [row_map, encD, len_is0, h1, h2, h3, hb26, hb40, hk3, h4, h5, h6, h7, h8, h9, h10]
 refine z _ ?_
 clear z Z
 refine AT_ret ?_
 simp [row_map, encD, len_is0, Tryz.f19]
 rw [rightD_eq]
 (rw [rightDR_no h1 h2 h3 hS hV hk3, h4, h5, h6, h7, h8, h9, h10]; rfl)
 refine sr fun Z z => ?_
 simp [row_map, encD, len_is0, h1, h2, h3, hb26, hb40, hk3, h4, h5, h6, h7, h8, h9, h10]
 refine z _ ?_
 clear z Z
 refine AT_ret ?_
 simp [row_map, encD, len_is0, Tryz.f19]
 rw [rightD_eq]
 (rw [rightDR_no h1 h2 h3 hS hV hk3, h4, h5, h6, h7, h8, h9, h10]; rfl)
 refine sr fun Z z => ?_
 simp [row_map, encD, len_is0, h1, h2, h3, hb26, hb40, hk3, h4, h5, h6, h7, h8, h9]
 refine z _ ?_
 clear z Z
 refine AT_ret ?_
 simp [row_map, encD, len_is0, Tryz.f19]
 rw [rightD_eq]
 (rw [rightDR_no h1 h2 h3 hS hV hk3, h4, h5, h6, h7, h8, h9]; rfl)
 refine sr fun Z z => ?_
 have hV : a.vars.all isName = true := by rw [hv, List.drop_eq_nil_of_le (by omega)]; rfl
 simp [row_map, encD, len_is0, h1, h2, h3, hb26, hb40, hk3]
 refine z _ ?_
 clear z Z
 refine AT_cond (b := true) (g := none) (by simp [h1, h2, h3, hb26, hb40, hk3]) (fun hb => ?_) (fun hb => ?_)
 clear hb
 cases h4 : (isName a.recv)
 refine sr fun Z z => ?_
 simp [row_map, encD, len_is0, h1, h2, h3, hb26, hb40, hk3, h4]
 refine RVn_call (c_ref01x_Is g rnd a.recv (by omega)) ?_
 simp [row_map, encD, len_is0, h1, h2, h3, hb26, hb40, hk3, h4]
 repeat refine sg ?_
 refine z _ ?_
 clear z Z
 refine AT_ret ?_
 simp [row_map, encD, len_is0, Tryz.f19]
 rw [rightD_eq]
 (rw [rightDR_yes h1 h2 h3 hS hV hk3, h4]; rfl)
 cases h5 : ((a.fms.length : Int) + a.flds.length + a.sigs.length == 0)
 refine sr fun Z z => ?_
 simp [row_map, encD, len_is0, h1, h2, h3, hb26, hb40, hk3, h4, h5]
 refine RVn_call (c_ref01x_Is g rnd a.recv (by omega)) ?_
 simp [row_map, encD, len_is0, h1, h2, h3, hb26, hb40, hk3, h4, h5]
 repeat refine sg ?_
 refine z _ ?_
 clear z Z
 refine AT_ret ?_
 simp [row_map, encD, len_is0, Tryz.f19]
 rw [rightD_eq]
 (rw [rightDR_yes h1 h2 h3 hS hV hk3, h4, h5]; rfl)
 cases h6 : (rightG a.sig)
 refine sr fun Z z => ?_
 simp [row_map, encD, len_is0, h1, h2, h3, hb26, hb40, hk3, h4, h5, h6]
 refine RVn_call (c_ref01x_Is g rnd a.recv (by omega)) ?_
 simp [row_map, encD, len_is0, h1, h2, h3, hb26, hb40, hk3, h4, h5, h6]
 repeat refine sg ?_
 refine RVn_call ((by have h := c_ref06x_rightSig g rnd a.sig (by omega); simp only [encG] at h; exact h)) ?_
 simp [row_map, encD, len_is0, h1, h2, h3, hb26, hb40, hk3, h4, h5, h6]
 repeat refine sg ?_
 refine z _ ?_
 clear z Z
 refine AT_ret ?_
 simp [row_map, encD, len_is0, Tryz.f19]
 rw [rightD_eq]
 (rw [rightDR_yes h1 h2 h3 hS hV hk3, h4, h5, h6]; rfl)
 refine sr fun Z z => ?_
 simp [row_map, encD, len_is0, h1, h2, h3, hb26, hb40, hk3, h4, h5, h6]
 refine RVn_call (c_ref01x_Is g rnd a.recv (by omega)) ?_
 simp [row_map, encD, len_is0, h1, h2, h3, hb26, hb40, hk3, h4, h5, h6]
 repeat refine sg ?_
 refine RVn_call ((by have h := c_ref06x_rightSig g rnd a.sig (by omega); simp only [encG] at h; exact h)) ?_
 simp [row_map, encD, len_is0, h1, h2, h3, hb26, hb40, hk3, h4, h5, h6]
 repeat refine sg ?_
 refine RVn_call ((by have h := c_ref05x_Right g rnd a.body (by omega); simp only [encE_def] at h; exact h)) ?_
 simp [row_map, encD, len_is0, h1, h2, h3, hb26, hb40, hk3, h4, h5, h6]
 repeat refine sg ?_
 refine z _ ?_
 clear z Z
 refine AT_ret ?_
 simp [row_map, encD, len_is0, Tryz.f19]
 rw [rightD_eq]
 (rw [rightDR_yes h1 h2 h3 hS hV hk3, h4, h5, h6]; rfl)
 cases hb

end Go.Proofs.YtepbmjchhcmcoaaGreatDoor
end

section
/- Contracts: the reference's types of a program. -/
set_option linter.all false
set_option maxHeartbeats 1000000
set_option maxRecDepth 10000
namespace Go.Proofs.YtepbmjchhcmcoaaGreatDoor
open Go Go.Pv
variable (g : Nat → Option (List AV)) (rnd : Bool)

theorem c_ref06x_Right (p : Pg) (hw : wtPg p ≤ 400000000) : Valid Tryz.prog (G0 g rnd) 8 [.agg (encPg p)] (.bool (rightPg p)) := by
 have hw2 : wtDs p.decls + wtE p.main ≤ 400000000 := hw
 have hlD := wtDs_len p.decls
 refine valid_of [] Tryz.func8 rfl (by kernel_rfl) ?_
 refine sr fun Z z => ?_
 simp [row_map, encPg, Tryz.f8]
 refine z _ ?_
 clear z Z
 refine AT_seq_k fun K1 hK1 => ?_
 refine sr fun Z z => ?_
 simp [row_map, encPg]
 refine z _ ?_
 clear z Z
 refine AT_block ?_
 refine AT_loop_q [1,3] [1] (fun j s => ∃ k, k ≤ p.decls.length ∧ p.decls.all rightD = (p.decls.drop k).all rightD ∧ j = p.decls.length - k ∧ s = { n := 21, tm := [(1, .lp 1 0), (3, .v (.int .i64 k) none)], bx := [(1, encPg p)], tb := [], sh := [], hint := [] }) (p.decls.length) (by first | rfl | simp) ?_ ?_
 exact ⟨0, by simp [encPg]⟩
 rintro j s ⟨k, hk, hc, rfl, rfl⟩ K2 hK2
 refine AT_seq_k fun K3 hK3 => ?_
 refine sr fun Z z => ?_
 simp [row_map, encPg]
 refine z _ ?_
 clear z Z
 refine AT_cond (g := none) rfl (fun hb8 => ?_) (fun hb8 => ?_)
 simp [row_map, encPg] at hb8
 refine AT_skip ?_
 simp only [nrm, reduceIte, Nat.reduceEqDiff]
 refine hK3 _ ?_
 refine AT_seq_k fun K4 hK4 => ?_
 refine AT_block ?_
 refine sr fun Z z => ?_
 have hka : k < p.decls.length := by omega
 have hda := List.drop_eq_getElem_cons hka
 have hwd := wtDs_mem (l := p.decls) (f := p.decls[k]) (by simp)
 simp [row_map, encPg, hb8]
 refine RVn_call (c_ref06x_RightDecl g rnd p.decls[k] (by omega)) ?_
 simp [row_map, encPg, hb8]
 refine z _ ?_
 clear z Z
 refine AT_cond (g := none) rfl (fun hb17 => ?_) (fun hb17 => ?_)
 simp [row_map, encPg, hb8] at hb17
 refine sr fun Z z => ?_
 simp [row_map, encPg, hb8]
 refine z _ ?_
 clear z Z
 refine AT_ret ?_
 simp [row_map, encPg, Tryz.f8]
 (· have hz : rightPg p = false := by rw [rightPg, hc, hda, List.all_cons, hb17]; rfl
    rw [hz])
 simp [row_map, encPg, hb8] at hb17
 refine AT_skip ?_
 refine hK4 _ ?_
 refine AT_region_q fun Z z => ?_
 simp [row_map, encPg, hb8]
 repeat refine sg ?_
 refine z _ ?_
 clear z Z
 simp only [nrm, reduceIte, Nat.reduceEqDiff]
 refine hK2 _ (by first | rfl | simp) (p.decls.length - (k+1)) (by omega) ?_
 refine ⟨k+1, by omega, ?_, by omega, by simp [encPg]⟩
 rw [hc, hda, List.all_cons, hb17]; rfl
 simp [row_map, encPg] at hb8
 refine AT_exit ?_
 simp only [nrm, reduceIte, Nat.reduceEqDiff]
 refine hK1 _ ?_
 refine sr fun Z z => ?_
 simp [row_map, encPg, hb8]
 refine RVn_call ((by have h := c_ref05x_Right g rnd p.main (by omega); simp only [encE_def] at h; exact h)) ?_
 simp [row_map, encPg, hb8]
 refine z _ ?_
 clear z Z
 refine AT_ret ?_
 simp [row_map, encPg, Tryz.f8]
 (· have hz : p.decls.all rightD = true := by rw [hc, List.drop_eq_nil_of_le (by omega)]; rfl
    rw [rightPg, hz]; simp)

end Go.Proofs.YtepbmjchhcmcoaaGreatDoor
end

import Derived.Test.YtdifpfehijnmiaaGreatDoorPt
import Derived.Test.YtdifpfehijnmiaaGreatDoorPvXa
import Derived.Test.YtdifpfehijnmiaaGreatDoorPvY
import Derived.Test.YtdifpfehijnmiaaGreatDoorXDcO
import Derived.Test.YtdifpfehijnmiaaGreatDoorXDcM
import Derived.Test.YtdifpfehijnmiaaGreatDoorXTyQ
import Derived.Test.YtdifpfehijnmiaaGreatDoorPvXb
import Derived.Test.YtdifpfehijnmiaaGreatDoorXExA
import Derived.Test.YtdifpfehijnmiaaGreatDoorXTyC
section
/- Contracts: the reference's types of a program. -/
set_option linter.all false
set_option maxHeartbeats 1000000
set_option maxRecDepth 10000
namespace Go.Proofs.YtdifpfehijnmiaaGreatDoor
open Go Go.Pv
variable (g : Nat → Option (List AV)) (rnd : Bool)

theorem c_ref06x_Right (p : Pg) (hw : wtPg p ≤ 400000000) : Valid Tryz.prog (G0 g rnd) 15 [.agg (encPg p)] (.bool (rightPg p)) := by
 have hw2 : wtDs p.decls + wtE p.main ≤ 400000000 := hw
 have hlD := wtDs_len p.decls
 refine valid_of [] Tryz.func15 rfl (by kernel_rfl) ?_
 refine sr fun Z z => ?_
 simp [row_map, encPg, Tryz.f15]
 refine z _ ?_
 clear z Z
 refine AT_seq_k fun K1 hK1 => ?_
 refine sr fun Z z => ?_
 simp [row_map, encPg]
 refine z _ ?_
 clear z Z
 refine AT_block ?_
 refine AT_loop_q [1,3] [1] (fun j s => ∃ k, k ≤ p.decls.length ∧ p.decls.all rightD = (p.decls.drop k).all rightD ∧ j = p.decls.length - k ∧ s = { n := 21, tm := [(1, .lp 1 0), (3, .v (.int .i64 k) none)], bx := [(1, encPg p)], tb := [], sh := [], hint := [] }) (p.decls.length) (by first | rfl | simp) ?_ ?_
 exact ⟨0, by simp [encPg]⟩
 rintro j s ⟨k, hk, hc, rfl, rfl⟩ K2 hK2
 refine AT_seq_k fun K3 hK3 => ?_
 refine sr fun Z z => ?_
 simp [row_map, encPg]
 refine z _ ?_
 clear z Z
 refine AT_cond (g := none) rfl (fun hb8 => ?_) (fun hb8 => ?_)
 simp [row_map, encPg] at hb8
 refine AT_skip ?_
 simp only [nrm, reduceIte, Nat.reduceEqDiff]
 refine hK3 _ ?_
 refine AT_seq_k fun K4 hK4 => ?_
 refine AT_block ?_
 refine sr fun Z z => ?_
 have hka : k < p.decls.length := by omega
 have hda := List.drop_eq_getElem_cons hka
 have hwd := wtDs_mem (l := p.decls) (f := p.decls[k]) (by simp)
 simp [row_map, encPg, hb8]
 refine RVn_call (c_ref06x_RightDecl g rnd p.decls[k] (by omega)) ?_
 simp [row_map, encPg, hb8]
 refine z _ ?_
 clear z Z
 refine AT_cond (g := none) rfl (fun hb17 => ?_) (fun hb17 => ?_)
 simp [row_map, encPg, hb8] at hb17
 refine sr fun Z z => ?_
 simp [row_map, encPg, hb8]
 refine z _ ?_
 clear z Z
 refine AT_ret ?_
 simp [row_map, encPg, Tryz.f15]
 (· have hz : rightPg p = false := by rw [rightPg, hc, hda, List.all_cons, hb17]; rfl
    rw [hz])
 simp [row_map, encPg, hb8] at hb17
 refine AT_skip ?_
 refine hK4 _ ?_
 refine AT_region_q fun Z z => ?_
 simp [row_map, encPg, hb8]
 repeat refine sg ?_
 refine z _ ?_
 clear z Z
 simp only [nrm, reduceIte, Nat.reduceEqDiff]
 refine hK2 _ (by first | rfl | simp) (p.decls.length - (k+1)) (by omega) ?_
 refine ⟨k+1, by omega, ?_, by omega, by simp [encPg]⟩
 rw [hc, hda, List.all_cons, hb17]; rfl
 simp [row_map, encPg] at hb8
 refine AT_exit ?_
 simp only [nrm, reduceIte, Nat.reduceEqDiff]
 refine hK1 _ ?_
 refine sr fun Z z => ?_
 simp [row_map, encPg, hb8]
 refine RVn_call ((by have h := c_ref05x_Right g rnd p.main (by omega); simp only [encE_def] at h; exact h)) ?_
 simp [row_map, encPg, hb8]
 refine z _ ?_
 clear z Z
 refine AT_ret ?_
 simp [row_map, encPg, Tryz.f15]
 (· have hz : p.decls.all rightD = true := by rw [hc, List.drop_eq_nil_of_le (by omega)]; rfl
    rw [rightPg, hz]; simp)

theorem c_ref06x_sigTypes (s : Sg) (hw : wtG s ≤ 400000000) : Valid Tryz.prog (G0 g rnd) 62 [.agg (encG s)] (.slice ((tysG s).map encTy)) := by
 have hw2 : s.name.length + 1 + wtFs s.fms + wtFs s.pms + wt s.res ≤ 400000000 := hw
 have hf1 := wtFs_len s.fms
 have hf2 := wtFs_len s.pms
 have e9 := encTy_def s.res
 refine valid_of [(3, 28)] Tryz.func62 rfl (by kernel_rfl) ?_
 refine sr fun Z z => ?_
 simp [row_map, encG, encF, Tryz.f62]
 refine z _ ?_
 clear z Z
 refine sr fun Z z => ?_
 simp [row_map, encG, encF]
 refine z _ ?_
 clear z Z
 refine AT_seq_k fun K1 hK1 => ?_
 refine sr fun Z z => ?_
 simp [row_map, encG, encF]
 refine z _ ?_
 clear z Z
 refine AT_block ?_
 refine AT_loop_q [1,3,4] [1] (fun j s1 => ∃ k, k ≤ s.fms.length ∧ j = s.fms.length - k ∧ s1 = { n := 43, tm := [(1, .lp 1 0), (3, .v (.slice (((s.fms.take k).map Fm.ty).map encTy)) (some (3, 28))), (4, .v (.int .i64 k) none)], bx := [(1, encG s)], tb := [], sh := [], hint := [(3, 28)] }) (s.fms.length) (by first | rfl | simp) ?_ ?_
 exact ⟨0, by simp [encG]⟩
 rintro j s1 ⟨k, hk, rfl, rfl⟩ K2 hK2
 refine AT_seq_k fun K3 hK3 => ?_
 refine sr fun Z z => ?_
 simp [row_map, encG, encF]
 refine z _ ?_
 clear z Z
 refine AT_cond (g := none) rfl (fun hb10 => ?_) (fun hb10 => ?_)
 simp [row_map, encG, encF] at hb10
 refine AT_skip ?_
 simp only [nrm, reduceIte, Nat.reduceEqDiff]
 refine hK3 _ ?_
 refine AT_seq_k fun K4 hK4 => ?_
 refine AT_block ?_
 refine AT_region_q fun Z z => ?_
 simp [row_map, encG, encF, hb10]
 repeat refine sg ?_
 refine z _ ?_
 clear z Z
 refine hK4 _ ?_
 refine AT_region_q fun Z z => ?_
 simp [row_map, encG, encF, hb10]
 repeat refine sg ?_
 refine z _ ?_
 clear z Z
 simp only [nrm, reduceIte, Nat.reduceEqDiff]
 refine hK2 _ (by first | rfl | simp) (s.fms.length - (k+1)) (by omega) ?_
 refine ⟨k+1, by omega, by omega, ?_⟩
 have hk9 : k < s.fms.length := by omega
 have e8 := encTy_def s.fms[k].ty
 simp [List.take_succ_eq_append_getElem hk9, e8, -List.take_append_getElem, encG]
 simp [row_map, encG, encF] at hb10
 refine AT_exit ?_
 simp only [nrm, reduceIte, Nat.reduceEqDiff]
 refine hK1 _ ?_
 refine AT_seq_k fun K5 hK5 => ?_
 refine sr fun Z z => ?_
 have hk9 : k = s.fms.length := by omega
 subst hk9
 rw [List.take_of_length_le (by simp)]
 simp [row_map, encG, encF, hb10]
 refine z _ ?_
 clear z Z
 refine AT_block ?_
 refine AT_loop_q [1,3,5] [1] (fun j s1 => ∃ m, m ≤ s.pms.length ∧ j = s.pms.length - m ∧ s1 = { n := 43, tm := [(1, .lp 1 0), (3, .v (.slice ((s.fms.map Fm.ty ++ (s.pms.take m).map Fm.ty).map encTy)) (some (3, 28))), (5, .v (.int .i64 m) none)], bx := [(1, encG s)], tb := [], sh := [], hint := [(3, 28)] }) (s.pms.length) (by first | rfl | simp) ?_ ?_
 exact ⟨0, by simp [encG]⟩
 rintro j s1 ⟨m, hm, rfl, rfl⟩ K6 hK6
 refine AT_seq_k fun K7 hK7 => ?_
 refine sr fun Z z => ?_
 simp [row_map, encG, encF, hb10]
 refine z _ ?_
 clear z Z
 refine AT_cond (g := none) rfl (fun hb26 => ?_) (fun hb26 => ?_)
 simp [row_map, encG, encF, hb10] at hb26
 refine AT_skip ?_
 simp only [nrm, reduceIte, Nat.reduceEqDiff]
 refine hK7 _ ?_
 refine AT_seq_k fun K8 hK8 => ?_
 refine AT_block ?_
 refine AT_region_q fun Z z => ?_
 simp [row_map, encG, encF, hb10, hb26]
 repeat refine sg ?_
 refine z _ ?_
 clear z Z
 refine hK8 _ ?_
 refine AT_region_q fun Z z => ?_
 simp [row_map, encG, encF, hb10, hb26]
 repeat refine sg ?_
 refine z _ ?_
 clear z Z
 simp only [nrm, reduceIte, Nat.reduceEqDiff]
 refine hK6 _ (by first | rfl | simp) (s.pms.length - (m+1)) (by omega) ?_
 refine ⟨m+1, by omega, by omega, ?_⟩
 have hm9 : m < s.pms.length := by omega
 have e8 := encTy_def s.pms[m].ty
 simp [List.take_succ_eq_append_getElem hm9, e8, -List.take_append_getElem, encG]
 simp [row_map, encG, encF, hb10] at hb26
 refine AT_exit ?_
 simp only [nrm, reduceIte, Nat.reduceEqDiff]
 refine hK5 _ ?_
 refine sr fun Z z => ?_
 have hm9 : m = s.pms.length := by omega
 subst hm9
 rw [List.take_of_length_le (by simp)]
 simp [row_map, encG, encF, hb10, hb26]
 repeat refine sg ?_
 refine z _ ?_
 clear z Z
 refine AT_ret ?_
 simp [row_map, encG, encF, Tryz.f62]
 simp [tysG, e9]

theorem c_ref06x_Body (e : Exp) (hw : wtE e ≤ 1000000000) : Valid Tryz.prog (G0 g rnd) 63 [.agg (encE e)] (.slice ((tysE e).map encTy)) := by
 have hlw := lstE_wt e
 refine valid_of [(3, 28)] Tryz.func63 rfl (by kernel_rfl) ?_
 refine sr fun Z z => ?_
 simp [row_map, encE_mk, Tryz.f63]
 refine z _ ?_
 clear z Z
 refine sr fun Z z => ?_
 simp [row_map, encE_mk]
 refine z _ ?_
 clear z Z
 refine sr fun Z z => ?_
 simp [row_map, encE_mk]
 refine RVn_call (c_ref05x_List g rnd e hw) ?_
 simp [row_map, encE_mk]
 refine z _ ?_
 clear z Z
 refine AT_seq_k fun K1 hK1 => ?_
 refine sr fun Z z => ?_
 simp [row_map, encE_mk]
 refine z _ ?_
 clear z Z
 refine AT_block ?_
 refine AT_loop_q [3,4,5] [] (fun j s => ∃ k, k ≤ (lstE e).length ∧ j = (lstE e).length - k ∧ s = { n := 44, tm := [(3, .v (.slice ((flT (bodL e) k).map encTy)) (some (3, 28))), (4, .v (.slice ((lstE e).map encE)) none), (5, .v (.int .i64 k) none)], bx := [], tb := [], sh := [], hint := [(3, 28)] }) ((lstE e).length) (by first | rfl | simp) ?_ ?_
 exact ⟨0, by simp [flT_nil]⟩
 rintro j s ⟨k, hk, rfl, rfl⟩ K2 hK2
 refine AT_seq_k fun K3 hK3 => ?_
 refine sr fun Z z => ?_
 simp [row_map, encE_mk]
 refine z _ ?_
 clear z Z
 refine AT_cond (g := none) rfl (fun hb11 => ?_) (fun hb11 => ?_)
 simp [row_map, encE_mk] at hb11
 refine AT_skip ?_
 simp only [nrm, reduceIte, Nat.reduceEqDiff]
 refine hK3 _ ?_
 refine AT_seq_k fun K4 hK4 => ?_
 refine AT_block ?_
 refine sr fun Z z => ?_
 have hk9 : k < (lstE e).length := by omega
 have hb9 := bod_le e k hk9
 have hg9 := flT_len (bodL e) k
 have ht9 := ta_le (lstE e)[k]
 have hu9 := bod_succ e k hk9
 rcases hx : (lstE e)[k] with ⟨kd, nm, ⟨tn, tas, tp⟩, ta, ks, ps⟩
 rw [hx] at hb9 ht9 hu9
 have ht9 : ta.length ≤ _ := ht9
 simp [row_map, encE_mk, hx, encTy_mk, hb11]
 repeat refine sg ?_
 refine z _ ?_
 clear z Z
 cases h3 : (kd == 3)
 cases h5 : (kd == 5)
 have hp9 : partsE (.mk kd nm (.mk tn tas tp) ta ks ps) = ta := partsE_no (by simp [typedE, h3, h5])
 rw [hp9] at hu9 hb9
 refine sr fun Z z => ?_
 simp [row_map, encE_mk, hx, encTy_mk, hb11, h3, h5]
 refine z _ ?_
 clear z Z
 refine AT_cond (b := false) (g := none) (by simp [hb11, h3, h5]) (fun hb => ?_) (fun hb => ?_)
 cases hb
 clear hb
 refine AT_skip ?_
 refine hK4 _ ?_
 refine AT_region_q fun Z z => ?_
 simp [row_map, encE_mk, hb11, h3, h5]
 repeat refine sg ?_
 refine z _ ?_
 clear z Z
 simp only [nrm, reduceIte, Nat.reduceEqDiff]
 refine hK2 _ (by first | rfl | simp) ((lstE e).length - (k+1)) (by omega) ?_
 refine ⟨k+1, by omega, by omega, ?_⟩
 simp [hu9, encTy_mk]
 have hp9 : partsE (.mk kd nm (.mk tn tas tp) ta ks ps) = ta ++ [.mk tn tas tp] := partsE_yes (by simp [typedE, h5])
 rw [hp9] at hu9 hb9
 simp only [List.length_append, List.length_cons, List.length_nil] at hb9
 refine sr fun Z z => ?_
 simp [row_map, encE_mk, hx, encTy_mk, hb11, h3, h5]
 refine z _ ?_
 clear z Z
 refine AT_cond (b := true) (g := none) (by simp [hb11, h3, h5]) (fun hb => ?_) (fun hb => ?_)
 clear hb
 refine AT_region_q fun Z z => ?_
 simp [row_map, encE_mk, hx, encTy_mk, hb11, h3, h5]
 repeat refine sg ?_
 refine z _ ?_
 clear z Z
 refine hK4 _ ?_
 refine AT_region_q fun Z z => ?_
 simp [row_map, encE_mk, hb11, h3, h5]
 repeat refine sg ?_
 refine z _ ?_
 clear z Z
 simp only [nrm, reduceIte, Nat.reduceEqDiff]
 refine hK2 _ (by first | rfl | simp) ((lstE e).length - (k+1)) (by omega) ?_
 refine ⟨k+1, by omega, by omega, ?_⟩
 simp [hu9, encTy_mk]
 cases hb
 have hp9 : partsE (.mk kd nm (.mk tn tas tp) ta ks ps) = ta ++ [.mk tn tas tp] := partsE_yes (by simp [typedE, h3])
 rw [hp9] at hu9 hb9
 simp only [List.length_append, List.length_cons, List.length_nil] at hb9
 refine sr fun Z z => ?_
 simp [row_map, encE_mk, hx, encTy_mk, hb11, h3]
 refine z _ ?_
 clear z Z
 refine AT_cond (b := true) (g := none) (by simp [hb11, h3]) (fun hb => ?_) (fun hb => ?_)
 clear hb
 refine AT_region_q fun Z z => ?_
 simp [row_map, encE_mk, hx, encTy_mk, hb11, h3]
 repeat refine sg ?_
 refine z _ ?_
 clear z Z
 refine hK4 _ ?_
 refine AT_region_q fun Z z => ?_
 simp [row_map, encE_mk, hb11, h3]
 repeat refine sg ?_
 refine z _ ?_
 clear z Z
 simp only [nrm, reduceIte, Nat.reduceEqDiff]
 refine hK2 _ (by first | rfl | simp) ((lstE e).length - (k+1)) (by omega) ?_
 refine ⟨k+1, by omega, by omega, ?_⟩
 simp [hu9, encTy_mk]
 cases hb
 simp [row_map, encE_mk] at hb11
 refine AT_exit ?_
 simp only [nrm, reduceIte, Nat.reduceEqDiff]
 refine hK1 _ ?_
 refine sr fun Z z => ?_
 simp [row_map, encE_mk, hb11]
 refine z _ ?_
 clear z Z
 refine AT_ret ?_
 simp [row_map, encE_mk, Tryz.f63]
 have hk9 : k = (lstE e).length := by omega
 subst hk9
 rw [bod_all]

theorem c_ref06x_Types (p : Pg) (hw : wtPg p ≤ 400000000) : Valid Tryz.prog (G0 g rnd) 17 [.agg (encPg p)] (.slice ((tysP p).map encTy)) := by
 have hw2 : wtDs p.decls + wtE p.main ≤ 400000000 := hw
 have hlD := wtDs_len p.decls
 have htp := tysP_len p
 refine valid_of [(3, 28)] Tryz.func17 rfl (by kernel_rfl) ?_
 refine sr fun Z z => ?_
 simp [row_map, encPg, Tryz.f17]
 refine z _ ?_
 clear z Z
 refine sr fun Z z => ?_
 simp [row_map, encPg]
 refine z _ ?_
 clear z Z
 refine AT_seq_k fun K1 hK1 => ?_
 refine sr fun Z z => ?_
 simp [row_map, encPg]
 refine z _ ?_
 clear z Z
 refine AT_block ?_
 refine AT_loop_q [1,3,4] [1] (fun j s => ∃ k, k ≤ p.decls.length ∧ j = p.decls.length - k ∧ s = { n := 86, tm := [(1, .lp 1 0), (3, .v (.slice ((flT (declL p) k).map encTy)) (some (3, 28))), (4, .v (.int .i64 k) none)], bx := [(1, encPg p)], tb := [], sh := [], hint := [(3, 28)] }) (p.decls.length) (by first | rfl | simp) ?_ ?_
 exact ⟨0, by simp [flT_nil, encPg]⟩
 rintro j s ⟨k, hk, rfl, rfl⟩ K2 hK2
 refine AT_seq_k fun K3 hK3 => ?_
 refine sr fun Z z => ?_
 simp [row_map, encPg]
 refine z _ ?_
 clear z Z
 refine AT_cond (g := none) rfl (fun hb13 => ?_) (fun hb13 => ?_)
 simp [row_map, encPg] at hb13
 refine AT_skip ?_
 simp only [nrm, reduceIte, Nat.reduceEqDiff]
 refine hK3 _ ?_
 refine AT_seq_k fun K4 hK4 => ?_
 refine AT_block ?_
 refine sr fun Z z => ?_
 have hk9 : k < p.decls.length := by omega
 have hle := decl_le p k hk9
 have hu9 := decl_succ p k hk9
 have hwd := wtDs_mem (l := p.decls) (f := p.decls[k]) (by simp)
 have hwd2 : wtD p.decls[k] = p.decls[k].name.length + 1 + wtFs p.decls[k].fms + wtFs p.decls[k].flds + wtGs p.decls[k].sigs + p.decls[k].recv.length + wtSs p.decls[k].vars + wtG p.decls[k].sig + wtE p.decls[k].body := rfl
 have hf1 := wtFs_len p.decls[k].fms
 have hgl := wtGs_len p.decls[k].sigs
 have hf2 := wtFs_len p.decls[k].flds
 have hg1 := flT_len (declL p) k
 have hh1 := headD_len p.decls[k]
 simp [row_map, encPg, encD, hb13]
 refine z _ ?_
 clear z Z
 refine AT_seq_k fun K5 hK5 => ?_
 refine sr fun Z z => ?_
 simp [row_map, encPg, hb13]
 refine z _ ?_
 clear z Z
 refine AT_block ?_
 refine AT_loop_q [1,3,4,5,6] [1,5] (fun j s => ∃ m, m ≤ p.decls[k].fms.length ∧ j = p.decls[k].fms.length - m ∧ s = { n := 86, tm := [(1, .lp 1 0), (3, .v (.slice ((flT (declL p) k ++ (p.decls[k].fms.take m).map Fm.ty).map encTy)) (some (3, 28))), (4, .v (.int .i64 k) none), (5, .lp 5 0), (6, .v (.int .i64 m) none)], bx := [(1, encPg p), (5, encD p.decls[k])], tb := [], sh := [], hint := [(3, 28)] }) (p.decls[k].fms.length) (by first | rfl | simp) ?_ ?_
 exact ⟨0, by simp [encD, encPg]⟩
 rintro j s ⟨m, hm, rfl, rfl⟩ K6 hK6
 refine AT_seq_k fun K7 hK7 => ?_
 refine sr fun Z z => ?_
 simp [row_map, encPg, encD, hb13]
 refine z _ ?_
 clear z Z
 refine AT_cond (g := none) rfl (fun hb25 => ?_) (fun hb25 => ?_)
 simp [row_map, encPg, hb13] at hb25
 refine AT_skip ?_
 simp only [nrm, reduceIte, Nat.reduceEqDiff]
 refine hK7 _ ?_
 refine AT_seq_k fun K8 hK8 => ?_
 refine AT_block ?_
 refine AT_region_q fun Z z => ?_
 have hm9 : m < p.decls[k].fms.length := by omega
 simp [row_map, encPg, encD, encF, hb13, hb25]
 repeat refine sg ?_
 refine z _ ?_
 clear z Z
 refine hK8 _ ?_
 refine AT_region_q fun Z z => ?_
 simp [row_map, encPg, hb13, hb25]
 repeat refine sg ?_
 refine z _ ?_
 clear z Z
 simp only [nrm, reduceIte, Nat.reduceEqDiff]
 refine hK6 _ (by first | rfl | simp) (p.decls[k].fms.length - (m+1)) (by omega) ?_
 refine ⟨m+1, by omega, by omega, ?_⟩
 have e8 := encTy_def p.decls[k].fms[m].ty
 simp [List.take_succ_eq_append_getElem hm9, e8, -List.take_append_getElem, encD, encPg]
 simp [row_map, encPg, hb13] at hb25
 refine AT_exit ?_
 simp only [nrm, reduceIte, Nat.reduceEqDiff]
 refine hK5 _ ?_
 refine AT_seq_k fun K9 hK9 => ?_
 refine sr fun Z z => ?_
 have hm9 : m = p.decls[k].fms.length := by omega
 subst hm9
 rw [List.take_of_length_le (by simp)]
 simp [row_map, encPg, hb13, hb25]
 refine z _ ?_
 clear z Z
 refine AT_block ?_
 refine AT_loop_q [1,3,4,5,7] [1,5] (fun j s => ∃ m, m ≤ p.decls[k].flds.length ∧ j = p.decls[k].flds.length - m ∧ s = { n := 86, tm := [(1, .lp 1 0), (3, .v (.slice ((flT (declL p) k ++ p.decls[k].fms.map Fm.ty ++ (p.decls[k].flds.take m).map Fm.ty).map encTy)) (some (3, 28))), (4, .v (.int .i64 k) none), (5, .lp 5 0), (7, .v (.int .i64 m) none)], bx := [(1, encPg p), (5, encD p.decls[k])], tb := [], sh := [], hint := [(3, 28)] }) (p.decls[k].flds.length) (by first | rfl | simp) ?_ ?_
 exact ⟨0, by simp [encD, encPg]⟩
 rintro j s ⟨m, hm, rfl, rfl⟩ K10 hK10
 refine AT_seq_k fun K11 hK11 => ?_
 refine sr fun Z z => ?_
 simp [row_map, encPg, encD, hb13, hb25]
 refine z _ ?_
 clear z Z
 refine AT_cond (g := none) rfl (fun hb41 => ?_) (fun hb41 => ?_)
 simp [row_map, encPg, hb13, hb25] at hb41
 refine AT_skip ?_
 simp only [nrm, reduceIte, Nat.reduceEqDiff]
 refine hK11 _ ?_
 refine AT_seq_k fun K12 hK12 => ?_
 refine AT_block ?_
 refine AT_region_q fun Z z => ?_
 have hm9 : m < p.decls[k].flds.length := by omega
 simp [row_map, encPg, encD, encF, hb13, hb25, hb41]
 repeat refine sg ?_
 refine z _ ?_
 clear z Z
 refine hK12 _ ?_
 refine AT_region_q fun Z z => ?_
 simp [row_map, encPg, hb13, hb25, hb41]
 repeat refine sg ?_
 refine z _ ?_
 clear z Z
 simp only [nrm, reduceIte, Nat.reduceEqDiff]
 refine hK10 _ (by first | rfl | simp) (p.decls[k].flds.length - (m+1)) (by omega) ?_
 refine ⟨m+1, by omega, by omega, ?_⟩
 have e8 := encTy_def p.decls[k].flds[m].ty
 simp [List.take_succ_eq_append_getElem hm9, e8, -List.take_append_getElem, encD, encPg]
 simp [row_map, encPg, hb13, hb25] at hb41
 refine AT_exit ?_
 simp only [nrm, reduceIte, Nat.reduceEqDiff]
 refine hK9 _ ?_
 refine AT_seq_k fun K13 hK13 => ?_
 refine sr fun Z z => ?_
 have hm9 : m = p.decls[k].flds.length := by omega
 subst hm9
 rw [List.take_of_length_le (by simp)]
 simp [row_map, encPg, hb13, hb25, hb41]
 refine z _ ?_
 clear z Z
 refine AT_block ?_
 refine AT_loop_q [1,3,4,5,8] [1,5] (fun j s => ∃ m, m ≤ p.decls[k].sigs.length ∧ j = p.decls[k].sigs.length - m ∧ s = { n := 86, tm := [(1, .lp 1 0), (3, .v (.slice ((flT (declL p) k ++ headD p.decls[k] ++ flT (sigL p.decls[k]) m).map encTy)) (some (3, 28))), (4, .v (.int .i64 k) none), (5, .lp 5 0), (8, .v (.int .i64 m) none)], bx := [(1, encPg p), (5, encD p.decls[k])], tb := [], sh := [], hint := [(3, 28)] }) (p.decls[k].sigs.length) (by first | rfl | simp) ?_ ?_
 exact ⟨0, by simp [flT_nil, headD, encD, encPg]⟩
 rintro j s ⟨m, hm, rfl, rfl⟩ K14 hK14
 refine AT_seq_k fun K15 hK15 => ?_
 refine sr fun Z z => ?_
 simp [row_map, encPg, encD, hb13, hb25, hb41]
 refine z _ ?_
 clear z Z
 refine AT_cond (g := none) rfl (fun hb57 => ?_) (fun hb57 => ?_)
 simp [row_map, encPg, hb13, hb25, hb41] at hb57
 refine AT_skip ?_
 simp only [nrm, reduceIte, Nat.reduceEqDiff]
 refine hK15 _ ?_
 refine AT_seq_k fun K16 hK16 => ?_
 refine AT_block ?_
 refine AT_region_q fun Z z => ?_
 have hm9 : m < p.decls[k].sigs.length := by omega
 have hsl := sig_le p.decls[k] m hm9
 have hv9 := sig_succ p.decls[k] m hm9
 have hg2 := flT_len (sigL p.decls[k]) m
 have hws := wtGs_mem (l := p.decls[k].sigs) (f := p.decls[k].sigs[m]) (by simp)
 simp [row_map, encPg, encD, encG, hb13, hb25, hb41, hb57]
 refine RVn_call ((by have h := c_ref06x_sigTypes g rnd p.decls[k].sigs[m] (by omega); simp only [encG] at h; exact h)) ?_
 simp [row_map, encPg, encD, encG, hb13, hb25, hb41, hb57]
 repeat refine sg ?_
 refine z _ ?_
 clear z Z
 refine hK16 _ ?_
 refine AT_region_q fun Z z => ?_
 simp [row_map, encPg, hb13, hb25, hb41, hb57]
 repeat refine sg ?_
 refine z _ ?_
 clear z Z
 simp only [nrm, reduceIte, Nat.reduceEqDiff]
 refine hK14 _ (by first | rfl | simp) (p.decls[k].sigs.length - (m+1)) (by omega) ?_
 refine ⟨m+1, by omega, by omega, ?_⟩
 simp [hv9, encD, encPg]
 simp [row_map, encPg, hb13, hb25, hb41] at hb57
 refine AT_exit ?_
 simp only [nrm, reduceIte, Nat.reduceEqDiff]
 refine hK13 _ ?_
 cases h3 : (p.decls[k].kind == 3)
 have htail := tailD_no h3
 refine sr fun Z z => ?_
 have hm9 : m = p.decls[k].sigs.length := by omega
 subst hm9
 have hsa := sig_all p.decls[k]
 rw [hsa]
 simp [row_map, encPg, encD, hb13, hb25, hb41, hb57, h3]
 refine z _ ?_
 clear z Z
 refine AT_cond (b := false) (g := none) (by simp [hb13, hb25, hb41, hb57, h3]) (fun hb => ?_) (fun hb => ?_)
 cases hb
 clear hb
 refine AT_skip ?_
 refine hK4 _ ?_
 refine AT_region_q fun Z z => ?_
 simp [row_map, encPg, hb13, hb25, hb41, hb57, h3]
 repeat refine sg ?_
 refine z _ ?_
 clear z Z
 simp only [nrm, reduceIte, Nat.reduceEqDiff]
 refine hK2 _ (by first | rfl | simp) (p.decls.length - (k+1)) (by omega) ?_
 refine ⟨k+1, by omega, by omega, ?_⟩
 simp [hu9, htail, encPg]
 have htail := tailD_yes (by simpa using h3)
 have htl : (tailD p.decls[k]).length = (tysG p.decls[k].sig).length + (tysE p.decls[k].body).length := by rw [htail, List.length_append]
 refine sr fun Z z => ?_
 have hm9 : m = p.decls[k].sigs.length := by omega
 subst hm9
 have hsa := sig_all p.decls[k]
 rw [hsa]
 simp [row_map, encPg, encD, hb13, hb25, hb41, hb57, h3]
 refine z _ ?_
 clear z Z
 refine AT_cond (b := true) (g := none) (by simp [hb13, hb25, hb41, hb57, h3]) (fun hb => ?_) (fun hb => ?_)
 clear hb
 refine sr fun Z z => ?_
 simp [row_map, encPg, encD, hb13, hb25, hb41, hb57, h3]
 refine RVn_call ((by have h := c_ref06x_sigTypes g rnd p.decls[k].sig (by omega); simp only [encG] at h; exact h)) ?_
 simp [row_map, encPg, encD, hb13, hb25, hb41, hb57, h3]
 repeat refine sg ?_
 refine z _ ?_
 clear z Z
 refine AT_region_q fun Z z => ?_
 simp [row_map, encPg, encD, hb13, hb25, hb41, hb57, h3]
 refine RVn_call ((by have h := c_ref06x_Body g rnd p.decls[k].body (by omega); simp only [encE_def] at h; exact h)) ?_
 simp [row_map, encPg, encD, hb13, hb25, hb41, hb57, h3]
 repeat refine sg ?_
 refine z _ ?_
 clear z Z
 refine hK4 _ ?_
 refine AT_region_q fun Z z => ?_
 simp [row_map, encPg, hb13, hb25, hb41, hb57, h3]
 repeat refine sg ?_
 refine z _ ?_
 clear z Z
 simp only [nrm, reduceIte, Nat.reduceEqDiff]
 refine hK2 _ (by first | rfl | simp) (p.decls.length - (k+1)) (by omega) ?_
 refine ⟨k+1, by omega, by omega, ?_⟩
 simp [hu9, htail, encPg]
 cases hb
 simp [row_map, encPg] at hb13
 refine AT_exit ?_
 simp only [nrm, reduceIte, Nat.reduceEqDiff]
 refine hK1 _ ?_
 refine sr fun Z z => ?_
 have hk9 : k = p.decls.length := by omega
 subst hk9
 have hda := decl_all p
 rw [hda]
 simp [row_map, encPg, hb13]
 refine RVn_call ((by have h := c_ref06x_Body g rnd p.main (by omega); simp only [encE_def] at h; exact h)) ?_
 simp [row_map, encPg, hb13]
 repeat refine sg ?_
 refine z _ ?_
 clear z Z
 refine AT_ret ?_
 simp [row_map, encPg, Tryz.f17]
 rw [tysP_parts]; simp

end Go.Proofs.YtdifpfehijnmiaaGreatDoor
end

section
/- Contracts: the reference's depth; plain. -/
set_option linter.all false
set_option maxHeartbeats 1000000
set_option maxRecDepth 10000
namespace Go.Proofs.YtdifpfehijnmiaaGreatDoor
open Go Go.Pv
variable (g : Nat → Option (List AV)) (rnd : Bool)

theorem c_ref06x_bare (e : Exp) (hw : wtE e ≤ 1000000000) : Valid Tryz.prog (G0 g rnd) 73 [.agg (encE e)] (.bool (bareE e)) := by
 have hlw := lstE_wt e
 refine valid_of [] Tryz.func73 rfl (by kernel_rfl) ?_
 refine sr fun Z z => ?_
 simp [row_map, encE_mk, Tryz.f73]
 refine z _ ?_
 clear z Z
 refine sr fun Z z => ?_
 simp [row_map, encE_mk]
 refine RVn_call (c_ref05x_List g rnd e hw) ?_
 simp [row_map, encE_mk]
 refine z _ ?_
 clear z Z
 refine AT_seq_k fun K1 hK1 => ?_
 refine sr fun Z z => ?_
 simp [row_map, encE_mk]
 refine z _ ?_
 clear z Z
 refine AT_block ?_
 refine AT_loop_q [3,4] [] (fun j s => ∃ k, k ≤ (lstE e).length ∧ bareE e = ((lstE e).drop k).all bareX ∧ j = (lstE e).length - k ∧ s = { n := 20, tm := [(3, .v (.slice ((lstE e).map encE)) none), (4, .v (.int .i64 k) none)], bx := [], tb := [], sh := [], hint := [] }) ((lstE e).length) (by first | rfl | simp) ?_ ?_
 exact ⟨0, by simp [bareE_all]⟩
 rintro j s ⟨k, hk, hc, rfl, rfl⟩ K2 hK2
 refine AT_seq_k fun K3 hK3 => ?_
 refine sr fun Z z => ?_
 simp [row_map, encE_mk]
 refine z _ ?_
 clear z Z
 refine AT_cond (g := none) rfl (fun hb10 => ?_) (fun hb10 => ?_)
 simp [row_map, encE_mk] at hb10
 refine AT_skip ?_
 simp only [nrm, reduceIte, Nat.reduceEqDiff]
 refine hK3 _ ?_
 refine AT_seq_k fun K4 hK4 => ?_
 refine AT_block ?_
 refine sr fun Z z => ?_
 have hk9 : k < (lstE e).length := by omega
 have hda := List.drop_eq_getElem_cons hk9
 rcases hx : (lstE e)[k] with ⟨kd, nm, ty, ta, ks, ps⟩
 simp [row_map, encE_mk, hx, hb10]
 refine z _ ?_
 clear z Z
 refine AT_cond (g := none) rfl (fun hb19 => ?_) (fun hb19 => ?_)
 simp [row_map, encE_mk, hb10] at hb19
 refine sr fun Z z => ?_
 simp [row_map, encE_mk, hb10, hb19]
 refine z _ ?_
 clear z Z
 refine AT_ret ?_
 simp [row_map, encE_mk, Tryz.f73]
 (· have hz : bareE e = false := by rw [hc, hda, List.all_cons, hx, bareX_mk, ne0 hb19]; rfl
    rw [hz])
 simp [row_map, encE_mk, hb10] at hb19
 refine AT_skip ?_
 refine hK4 _ ?_
 refine AT_region_q fun Z z => ?_
 simp [row_map, encE_mk, hb10, hb19]
 repeat refine sg ?_
 refine z _ ?_
 clear z Z
 simp only [nrm, reduceIte, Nat.reduceEqDiff]
 refine hK2 _ (by first | rfl | simp) ((lstE e).length - (k+1)) (by omega) ?_
 refine ⟨k+1, by omega, ?_, by omega, by simp⟩
 rw [hc, hda, List.all_cons, hx, bareX_mk]; simp [hb19]
 simp [row_map, encE_mk] at hb10
 refine AT_exit ?_
 simp only [nrm, reduceIte, Nat.reduceEqDiff]
 refine hK1 _ ?_
 refine sr fun Z z => ?_
 simp [row_map, encE_mk, hb10]
 refine z _ ?_
 clear z Z
 refine AT_ret ?_
 simp [row_map, encE_mk, Tryz.f73]
 (· have hz : bareE e = true := by rw [hc, List.drop_eq_nil_of_le (by omega)]; rfl
    rw [hz])

theorem c_ref06x_Plain (p : Pg) (hw : wtPg p ≤ 400000000) : Valid Tryz.prog (G0 g rnd) 22 [.agg (encPg p)] (.bool (plainP p)) := by
 have hw2 : wtDs p.decls + wtE p.main ≤ 400000000 := hw
 have hwt := wts_tysP p
 have hlt := wts_len (tysP p)
 have hlD := wtDs_len p.decls
 refine valid_of [] Tryz.func22 rfl (by kernel_rfl) ?_
 refine sr fun Z z => ?_
 simp [row_map, encPg, Tryz.f22]
 refine z _ ?_
 clear z Z
 refine sr fun Z z => ?_
 simp [row_map, encPg]
 refine RVn_call ((by have h := c_ref06x_Types g rnd p hw; simp only [encPg] at h; exact h)) ?_
 simp [row_map, encPg]
 refine z _ ?_
 clear z Z
 refine AT_seq_k fun K1 hK1 => ?_
 refine sr fun Z z => ?_
 simp [row_map, encPg]
 refine z _ ?_
 clear z Z
 refine AT_block ?_
 refine AT_loop_q [1,3,4] [1] (fun j s => ∃ k, k ≤ (tysP p).length ∧ (tysP p).all flatTy = ((tysP p).drop k).all flatTy ∧ j = (tysP p).length - k ∧ s = { n := 72, tm := [(1, .lp 1 0), (3, .v (.slice ((tysP p).map encTy)) none), (4, .v (.int .i64 k) none)], bx := [(1, encPg p)], tb := [], sh := [], hint := [] }) ((tysP p).length) (by first | rfl | simp) ?_ ?_
 exact ⟨0, by simp [encPg]⟩
 rintro j s ⟨k, hk, hc, rfl, rfl⟩ K2 hK2
 refine AT_seq_k fun K3 hK3 => ?_
 refine sr fun Z z => ?_
 simp [row_map, encPg]
 refine z _ ?_
 clear z Z
 refine AT_cond (g := none) rfl (fun hb13 => ?_) (fun hb13 => ?_)
 simp [row_map, encPg] at hb13
 refine AT_skip ?_
 simp only [nrm, reduceIte, Nat.reduceEqDiff]
 refine hK3 _ ?_
 refine AT_seq_k fun K4 hK4 => ?_
 refine AT_block ?_
 refine sr fun Z z => ?_
 have hk9 : k < (tysP p).length := by omega
 have hda := List.drop_eq_getElem_cons hk9
 rcases hx : (tysP p)[k] with ⟨tn, tas, tp⟩
 simp [row_map, encPg, hx, encTy_mk, hb13]
 refine z _ ?_
 clear z Z
 refine AT_cond (g := none) rfl (fun hb22 => ?_) (fun hb22 => ?_)
 simp [row_map, encPg, hb13] at hb22
 refine sr fun Z z => ?_
 simp [row_map, encPg, hb13, hb22]
 refine z _ ?_
 clear z Z
 refine AT_ret ?_
 simp [row_map, encPg, Tryz.f22]
 (· have hz : plainP p = false := by rw [plainP_eq, hc, hda, List.all_cons, hx, flatTy_mk, ne0 hb22]; rfl
    rw [hz])
 simp [row_map, encPg, hb13] at hb22
 refine AT_skip ?_
 refine hK4 _ ?_
 refine AT_region_q fun Z z => ?_
 simp [row_map, encPg, hb13, hb22]
 repeat refine sg ?_
 refine z _ ?_
 clear z Z
 simp only [nrm, reduceIte, Nat.reduceEqDiff]
 refine hK2 _ (by first | rfl | simp) ((tysP p).length - (k+1)) (by omega) ?_
 refine ⟨k+1, by omega, ?_, by omega, by simp [encPg]⟩
 rw [hc, hda, List.all_cons, hx, flatTy_mk]; simp [hb22]
 simp [row_map, encPg] at hb13
 refine AT_exit ?_
 simp only [nrm, reduceIte, Nat.reduceEqDiff]
 refine hK1 _ ?_
 refine AT_seq_k fun K5 hK5 => ?_
 refine sr fun Z z => ?_
 have hT : (tysP p).all flatTy = true := by rw [hc, List.drop_eq_nil_of_le (by omega)]; rfl
 simp [row_map, encPg, hb13]
 refine z _ ?_
 clear z Z
 refine AT_block ?_
 refine AT_loop_q [1,5] [1] (fun j s => ∃ k, k ≤ p.decls.length ∧ p.decls.all plainD = (p.decls.drop k).all plainD ∧ j = p.decls.length - k ∧ s = { n := 72, tm := [(1, .lp 1 0), (5, .v (.int .i64 k) none)], bx := [(1, encPg p)], tb := [], sh := [], hint := [] }) (p.decls.length) (by first | rfl | simp) ?_ ?_
 exact ⟨0, by simp [encPg]⟩
 rintro j s ⟨k, hk, hc2, rfl, rfl⟩ K6 hK6
 refine AT_seq_k fun K7 hK7 => ?_
 refine sr fun Z z => ?_
 simp [row_map, encPg, hb13]
 refine z _ ?_
 clear z Z
 refine AT_cond (g := none) rfl (fun hb27 => ?_) (fun hb27 => ?_)
 simp [row_map, encPg, hb13] at hb27
 refine AT_skip ?_
 simp only [nrm, reduceIte, Nat.reduceEqDiff]
 refine hK7 _ ?_
 refine AT_seq_k fun K8 hK8 => ?_
 refine AT_block ?_
 refine sr fun Z z => ?_
 have hk9 : k < p.decls.length := by omega
 have hdb := List.drop_eq_getElem_cons hk9
 have hwd := wtDs_mem (l := p.decls) (f := p.decls[k]) (by simp)
 have hwd2 : wtD p.decls[k] = p.decls[k].name.length + 1 + wtFs p.decls[k].fms + wtFs p.decls[k].flds + wtGs p.decls[k].sigs + p.decls[k].recv.length + wtSs p.decls[k].vars + wtG p.decls[k].sig + wtE p.decls[k].body := rfl
 have hgl := wtGs_len p.decls[k].sigs
 have hf1 := wtFs_len p.decls[k].fms
 have hv1 := wtSs_len p.decls[k].vars
 have hg1 := wtFs_len p.decls[k].sig.fms
 have hg2 : wtG p.decls[k].sig = p.decls[k].sig.name.length + 1 + wtFs p.decls[k].sig.fms + wtFs p.decls[k].sig.pms + wt p.decls[k].sig.res := rfl
 simp [row_map, encPg, encD, hb13, hb27]
 refine z _ ?_
 clear z Z
 refine AT_seq_k fun K9 hK9 => ?_
 by_cases h1 : (0 : Int) < p.decls[k].fms.length + p.decls[k].vars.length + p.decls[k].sig.fms.length
 refine sr fun Z z => ?_
 simp [row_map, encPg, encD, hb13, hb27, h1]
 repeat refine sg ?_
 refine z _ ?_
 clear z Z
 refine AT_cond (b := true) (g := none) (by simp [hb13, hb27, h1]) (fun hb => ?_) (fun hb => ?_)
 clear hb
 refine sr fun Z z => ?_
 simp [row_map, encPg, hb13, hb27, h1]
 refine z _ ?_
 clear z Z
 refine AT_ret ?_
 simp [row_map, encPg, Tryz.f22]
 (· have hz : plainP p = false := by rw [plainP_eq, hT, hc2, hdb, List.all_cons, plainD_pos h1]; simp
    rw [hz])
 cases hb
 cases h2 : bareE p.decls[k].body
 refine sr fun Z z => ?_
 simp [row_map, encPg, encD, hb13, hb27, h1, h2]
 repeat refine sg ?_
 refine RVn_call ((by have h := c_ref06x_bare g rnd p.decls[k].body (by omega); simp only [encE_def] at h; exact h)) ?_
 simp [row_map, encPg, encD, hb13, hb27, h1, h2]
 repeat refine sg ?_
 refine z _ ?_
 clear z Z
 refine AT_cond (b := true) (g := none) (by simp [hb13, hb27, h1, h2]) (fun hb => ?_) (fun hb => ?_)
 clear hb
 refine sr fun Z z => ?_
 simp [row_map, encPg, hb13, hb27, h1, h2]
 refine z _ ?_
 clear z Z
 refine AT_ret ?_
 simp [row_map, encPg, Tryz.f22]
 (· have hz : plainP p = false := by rw [plainP_eq, hT, hc2, hdb, List.all_cons, plainD_zero h1, h2]; simp
    rw [hz])
 cases hb
 refine sr fun Z z => ?_
 simp [row_map, encPg, encD, hb13, hb27, h1, h2]
 repeat refine sg ?_
 refine RVn_call ((by have h := c_ref06x_bare g rnd p.decls[k].body (by omega); simp only [encE_def] at h; exact h)) ?_
 simp [row_map, encPg, encD, hb13, hb27, h1, h2]
 repeat refine sg ?_
 refine z _ ?_
 clear z Z
 refine AT_cond (b := false) (g := none) (by simp [hb13, hb27, h1, h2]) (fun hb => ?_) (fun hb => ?_)
 cases hb
 clear hb
 refine AT_skip ?_
 simp only [nrm, reduceIte, Nat.reduceEqDiff]
 refine hK9 _ ?_
 refine sr fun Z z => ?_
 simp [row_map, encPg, hb13, hb27, h1, h2]
 refine z _ ?_
 clear z Z
 refine AT_block ?_
 refine AT_loop_q [1,5,6,7] [1,6] (fun j s => ∃ m, m ≤ p.decls[k].sigs.length ∧ p.decls[k].sigs.all bareS = (p.decls[k].sigs.drop m).all bareS ∧ j = p.decls[k].sigs.length - m ∧ s = { n := 72, tm := [(1, .lp 1 0), (5, .v (.int .i64 k) none), (6, .lp 6 0), (7, .v (.int .i64 m) none)], bx := [(1, encPg p), (6, encD p.decls[k])], tb := [], sh := [], hint := [] }) (p.decls[k].sigs.length) (by first | rfl | simp) ?_ ?_
 exact ⟨0, by simp [encD, encPg]⟩
 rintro j s ⟨m, hm, hm2, rfl, rfl⟩ K10 hK10
 refine AT_seq_k fun K11 hK11 => ?_
 refine sr fun Z z => ?_
 simp [row_map, encPg, encD, hb13, hb27, h1, h2]
 refine z _ ?_
 clear z Z
 refine AT_cond (g := none) rfl (fun hb58 => ?_) (fun hb58 => ?_)
 simp [row_map, encPg, hb13, hb27, h1, h2] at hb58
 refine AT_skip ?_
 simp only [nrm, reduceIte, Nat.reduceEqDiff]
 refine hK11 _ ?_
 refine AT_seq_k fun K12 hK12 => ?_
 refine AT_block ?_
 refine sr fun Z z => ?_
 have hm9 : m < p.decls[k].sigs.length := by omega
 have hdc := List.drop_eq_getElem_cons hm9
 simp [row_map, encPg, encD, encG, hb13, hb27, h1, h2, hb58]
 refine z _ ?_
 clear z Z
 refine AT_cond (g := none) rfl (fun hb68 => ?_) (fun hb68 => ?_)
 simp [row_map, encPg, hb13, hb27, h1, h2, hb58] at hb68
 refine sr fun Z z => ?_
 simp [row_map, encPg, hb13, hb27, h1, h2, hb58, hb68]
 refine z _ ?_
 clear z Z
 refine AT_ret ?_
 simp [row_map, encPg, Tryz.f22]
 (· have hz : plainP p = false := by rw [plainP_eq, hT, hc2, hdb, List.all_cons, plainD_zero h1, hm2, hdc, List.all_cons, bareS, ne0 hb68]; simp
    rw [hz])
 simp [row_map, encPg, hb13, hb27, h1, h2, hb58] at hb68
 refine AT_skip ?_
 refine hK12 _ ?_
 refine AT_region_q fun Z z => ?_
 simp [row_map, encPg, hb13, hb27, h1, h2, hb58, hb68]
 repeat refine sg ?_
 refine z _ ?_
 clear z Z
 simp only [nrm, reduceIte, Nat.reduceEqDiff]
 refine hK10 _ (by first | rfl | simp) (p.decls[k].sigs.length - (m+1)) (by omega) ?_
 refine ⟨m+1, by omega, ?_, by omega, by simp [encD, encPg]⟩
 rw [hm2, hdc, List.all_cons, bareS]; simp [hb68]
 simp [row_map, encPg, hb13, hb27, h1, h2] at hb58
 refine AT_exit ?_
 simp only [nrm, reduceIte, Nat.reduceEqDiff]
 refine hK8 _ ?_
 refine AT_region_q fun Z z => ?_
 simp [row_map, encPg, hb13, hb27, h1, h2, hb58]
 repeat refine sg ?_
 refine z _ ?_
 clear z Z
 simp only [nrm, reduceIte, Nat.reduceEqDiff]
 refine hK6 _ (by first | rfl | simp) (p.decls.length - (k+1)) (by omega) ?_
 refine ⟨k+1, by omega, ?_, by omega, by simp [encPg]⟩
 rw [hc2, hdb, List.all_cons, plainD_zero h1, h2, hm2, List.drop_eq_nil_of_le (by omega)]; rfl
 simp [row_map, encPg, hb13] at hb27
 refine AT_exit ?_
 simp only [nrm, reduceIte, Nat.reduceEqDiff]
 refine hK5 _ ?_
 refine sr fun Z z => ?_
 simp [row_map, encPg, hb13, hb27]
 refine RVn_call ((by have h := c_ref06x_bare g rnd p.main (by omega); simp only [encE_def] at h; exact h)) ?_
 simp [row_map, encPg, hb13, hb27]
 refine z _ ?_
 clear z Z
 refine AT_ret ?_
 simp [row_map, encPg, Tryz.f22]
 (· have hz : plainP p = bareE p.main := by rw [plainP_eq, hT, hc2, List.drop_eq_nil_of_le (by omega)]; simp
    rw [hz])

end Go.Proofs.YtdifpfehijnmiaaGreatDoor
end

section
/- Contracts: counting declarations. -/
set_option linter.all false
set_option maxHeartbeats 1000000
set_option maxRecDepth 10000
namespace Go.Proofs.YtdifpfehijnmiaaGreatDoor
open Go Go.Pv
variable (g : Nat → Option (List AV)) (rnd : Bool)

theorem c_ref06x_countFormals (l : List Fm) (hf : fitFs l) (n : Nat) (hn : n ≤ 100000000000000) : Valid Tryz.prog (G0 g rnd) 80 [.slice (l.map encF), .int .i64 n] (.int .i64 (cntFs l n)) := by
 obtain ⟨hf1, hf2⟩ := hf
 refine valid_of [] Tryz.func80 rfl (by kernel_rfl) ?_
 refine sr fun Z z => ?_
 simp [row_map, tdiv50, encF, Tryz.f80]
 refine z _ ?_
 clear z Z
 refine AT_seq_k fun K1 hK1 => ?_
 refine sr fun Z z => ?_
 simp [row_map, tdiv50, encF]
 refine z _ ?_
 clear z Z
 refine AT_block ?_
 refine AT_loop_q [0,1,5] [] (fun j s => ∃ k c, k ≤ l.length ∧ cntFs l n = cntFs (l.drop k) c ∧ j = l.length - k ∧ s = { n := 33, tm := [(0, .v (.slice (l.map encF)) none), (1, .v (.int .i64 (c : Nat)) none), (5, .v (.int .i64 k) none)], bx := [], tb := [], sh := [], hint := [] }) (l.length) (by first | rfl | simp) ?_ ?_
 exact ⟨0, n, by simp⟩
 rintro j s ⟨k, c, hk, hc, rfl, rfl⟩ K2 hK2
 refine AT_seq_k fun K3 hK3 => ?_
 by_cases hkt : k < l.length
 refine sr fun Z z => ?_
 simp [row_map, tdiv50, encF, hkt]
 refine z _ ?_
 clear z Z
 refine AT_cond (g := none) rfl (fun hb13 => ?_) (fun hb13 => ?_)
 simp [row_map, tdiv50, encF, hkt] at hb13
 refine AT_skip ?_
 simp only [nrm, reduceIte, Nat.reduceEqDiff]
 refine hK3 _ ?_
 refine AT_seq_k fun K4 hK4 => ?_
 refine AT_block ?_
 refine AT_draw_q Pt.mixed (by kernel_rfl) fun Z z => ?_
 have hfk := hf2 l[k] (by simp)
 have hfn := hfk.1
 simp [row_map, tdiv50, encF, hkt]
 repeat refine sg ?_
 refine RVdn_call ((by have h := c_ref04x_Count g rnd l[k].ty hfk.2 (c + 1 + l[k].name.length / 50) (by omega); simp only [encTy_def] at h; exact h)) ?_
 simp [row_map, tdiv50, encF, hkt]
 refine z _ ?_
 clear z Z
 simp only [nrm, reduceIte, Nat.reduceEqDiff]
 refine hK4 _ ?_
 refine AT_region_q fun Z z => ?_
 simp [row_map, tdiv50, encF, hkt]
 repeat refine sg ?_
 refine z _ ?_
 clear z Z
 simp only [nrm, reduceIte, Nat.reduceEqDiff]
 refine hK2 _ (by first | rfl | simp) (l.length - (k+1)) (by omega) ?_
 refine ⟨k+1, cnt l[k].ty (c + 1 + l[k].name.length / 50), by omega, ?_, by omega, by simp⟩
 rw [hc, List.drop_eq_getElem_cons hkt, cntFs_cons, if_pos (by omega)]
 simp [row_map, tdiv50, encF, hkt] at hb13
 refine AT_exit ?_
 simp only [nrm, reduceIte, Nat.reduceEqDiff]
 refine hK1 _ ?_
 refine sr fun Z z => ?_
 simp [row_map, tdiv50, encF, hkt]
 refine z _ ?_
 clear z Z
 refine AT_ret ?_
 simp [row_map, tdiv50, encF, Tryz.f80]
 (rw [hc, List.drop_eq_getElem_cons hkt, cntFs_cons, if_neg (by omega)])
 refine sr fun Z z => ?_
 simp [row_map, tdiv50, encF, hkt]
 refine z _ ?_
 clear z Z
 refine AT_cond (b := false) (g := none) (by simp [hkt]) (fun hb => ?_) (fun hb => ?_)
 cases hb
 clear hb
 refine AT_exit ?_
 simp only [nrm, reduceIte, Nat.reduceEqDiff]
 refine hK1 _ ?_
 refine sr fun Z z => ?_
 simp [row_map, tdiv50, encF, hkt]
 refine z _ ?_
 clear z Z
 refine AT_ret ?_
 simp [row_map, tdiv50, encF, Tryz.f80]
 (rw [hc, List.drop_eq_nil_of_le (by omega)]; rfl)

theorem c_ref06x_countParams (l : List Fm) (hf : fitFs l) (n : Nat) (hn : n ≤ 100000000000000) : Valid Tryz.prog (G0 g rnd) 79 [.slice (l.map encF), .int .i64 n] (.int .i64 (cntFs l n)) := by
 obtain ⟨hf1, hf2⟩ := hf
 refine valid_of [] Tryz.func79 rfl (by kernel_rfl) ?_
 refine sr fun Z z => ?_
 simp [row_map, tdiv50, encF, Tryz.f79]
 refine z _ ?_
 clear z Z
 refine AT_seq_k fun K1 hK1 => ?_
 refine sr fun Z z => ?_
 simp [row_map, tdiv50, encF]
 refine z _ ?_
 clear z Z
 refine AT_block ?_
 refine AT_loop_q [0,1,5] [] (fun j s => ∃ k c, k ≤ l.length ∧ cntFs l n = cntFs (l.drop k) c ∧ j = l.length - k ∧ s = { n := 33, tm := [(0, .v (.slice (l.map encF)) none), (1, .v (.int .i64 (c : Nat)) none), (5, .v (.int .i64 k) none)], bx := [], tb := [], sh := [], hint := [] }) (l.length) (by first | rfl | simp) ?_ ?_
 exact ⟨0, n, by simp⟩
 rintro j s ⟨k, c, hk, hc, rfl, rfl⟩ K2 hK2
 refine AT_seq_k fun K3 hK3 => ?_
 by_cases hkt : k < l.length
 refine sr fun Z z => ?_
 simp [row_map, tdiv50, encF, hkt]
 refine z _ ?_
 clear z Z
 refine AT_cond (g := none) rfl (fun hb13 => ?_) (fun hb13 => ?_)
 simp [row_map, tdiv50, encF, hkt] at hb13
 refine AT_skip ?_
 simp only [nrm, reduceIte, Nat.reduceEqDiff]
 refine hK3 _ ?_
 refine AT_seq_k fun K4 hK4 => ?_
 refine AT_block ?_
 refine AT_draw_q Pt.mixed (by kernel_rfl) fun Z z => ?_
 have hfk := hf2 l[k] (by simp)
 have hfn := hfk.1
 simp [row_map, tdiv50, encF, hkt]
 repeat refine sg ?_
 refine RVdn_call ((by have h := c_ref04x_Count g rnd l[k].ty hfk.2 (c + 1 + l[k].name.length / 50) (by omega); simp only [encTy_def] at h; exact h)) ?_
 simp [row_map, tdiv50, encF, hkt]
 refine z _ ?_
 clear z Z
 simp only [nrm, reduceIte, Nat.reduceEqDiff]
 refine hK4 _ ?_
 refine AT_region_q fun Z z => ?_
 simp [row_map, tdiv50, encF, hkt]
 repeat refine sg ?_
 refine z _ ?_
 clear z Z
 simp only [nrm, reduceIte, Nat.reduceEqDiff]
 refine hK2 _ (by first | rfl | simp) (l.length - (k+1)) (by omega) ?_
 refine ⟨k+1, cnt l[k].ty (c + 1 + l[k].name.length / 50), by omega, ?_, by omega, by simp⟩
 rw [hc, List.drop_eq_getElem_cons hkt, cntFs_cons, if_pos (by omega)]
 simp [row_map, tdiv50, encF, hkt] at hb13
 refine AT_exit ?_
 simp only [nrm, reduceIte, Nat.reduceEqDiff]
 refine hK1 _ ?_
 refine sr fun Z z => ?_
 simp [row_map, tdiv50, encF, hkt]
 refine z _ ?_
 clear z Z
 refine AT_ret ?_
 simp [row_map, tdiv50, encF, Tryz.f79]
 (rw [hc, List.drop_eq_getElem_cons hkt, cntFs_cons, if_neg (by omega)])
 refine sr fun Z z => ?_
 simp [row_map, tdiv50, encF, hkt]
 refine z _ ?_
 clear z Z
 refine AT_cond (b := false) (g := none) (by simp [hkt]) (fun hb => ?_) (fun hb => ?_)
 cases hb
 clear hb
 refine AT_exit ?_
 simp only [nrm, reduceIte, Nat.reduceEqDiff]
 refine hK1 _ ?_
 refine sr fun Z z => ?_
 simp [row_map, tdiv50, encF, hkt]
 refine z _ ?_
 clear z Z
 refine AT_ret ?_
 simp [row_map, tdiv50, encF, Tryz.f79]
 (rw [hc, List.drop_eq_nil_of_le (by omega)]; rfl)

theorem c_ref06x_countSig (s : Sg) (hf : fitG s) (n : Nat) (hn : n ≤ 10000000000000) : Valid Tryz.prog (G0 g rnd) 81 [.agg (encG s), .int .i64 n] (.int .i64 (cntG s n)) := by
 obtain ⟨hf1, hf2, hf3, hf4⟩ := hf
 have e1 := cntFs_ub hf2.2 (n + s.name.length / 50)
 have e2 := cntFs_ub hf3.2 (cntFs s.fms (n + s.name.length / 50))
 refine valid_of [] Tryz.func81 rfl (by kernel_rfl) ?_
 refine sr fun Z z => ?_
 simp [tdiv50, encG, Tryz.f81]
 refine z _ ?_
 clear z Z
 refine AT_seq_draw Pt.mixed (by kernel_rfl) fun Z z => ?_
 simp [tdiv50, encG]
 repeat refine sg ?_
 refine RVdn_call (c_ref06x_countFormals g rnd s.fms hf2 (n + s.name.length / 50) (by omega)) ?_
 simp [tdiv50, encG]
 refine RVdn_call (c_ref06x_countParams g rnd s.pms hf3 (cntFs s.fms (n + s.name.length / 50)) (by omega)) ?_
 simp [tdiv50, encG]
 refine RVdn_call ((by have h := c_ref04x_Count g rnd s.res hf4 (cntFs s.pms (cntFs s.fms (n + s.name.length / 50))) (by omega); simp only [encTy_def] at h; exact h)) ?_
 simp [tdiv50, encG]
 refine z _ ?_
 clear z Z
 refine AT_ret ?_
 simp [tdiv50, encG, Tryz.f81]
 rw [cntG]

theorem c_ref06x_Count (p : Pg) (hf : fitPg p) : Valid Tryz.prog (G0 g rnd) 27 [.agg (encPg p)] (.int .i64 (cntPg p)) := by
 obtain ⟨⟨hf1, hf2⟩, hf3⟩ := hf
 refine valid_of [] Tryz.func27 rfl (by kernel_rfl) ?_
 refine sr fun Z z => ?_
 simp [row_map, tdiv50, encPg, Tryz.f27]
 refine z _ ?_
 clear z Z
 refine sr fun Z z => ?_
 simp [row_map, tdiv50, encPg]
 refine RVn_call ((by have h := c_ref05x_Count g rnd p.main hf3 0 (by omega); simp only [encE_def] at h; exact h)) ?_
 simp [row_map, tdiv50, encPg]
 refine z _ ?_
 clear z Z
 refine AT_seq_k fun K1 hK1 => ?_
 refine sr fun Z z => ?_
 simp [row_map, tdiv50, encPg]
 refine z _ ?_
 clear z Z
 refine AT_block ?_
 refine AT_loop_q [1,3,4] [1] (fun j s => ∃ k c, k ≤ p.decls.length ∧ cntPg p = cntDs (p.decls.drop k) c ∧ j = p.decls.length - k ∧ s = { n := 94, tm := [(1, .lp 1 0), (3, .v (.int .i64 (c : Nat)) none), (4, .v (.int .i64 k) none)], bx := [(1, encPg p)], tb := [], sh := [], hint := [] }) (p.decls.length) (by first | rfl | simp) ?_ ?_
 exact ⟨0, cntE p.main 0, by simp [encPg, cntPg]⟩
 rintro j s ⟨k, c, hk, hc, rfl, rfl⟩ K2 hK2
 refine AT_seq_k fun K3 hK3 => ?_
 by_cases hkt : k < p.decls.length
 refine sr fun Z z => ?_
 simp [row_map, tdiv50, encPg, hkt]
 refine z _ ?_
 clear z Z
 refine AT_cond (g := none) rfl (fun hb19 => ?_) (fun hb19 => ?_)
 simp [row_map, tdiv50, encPg, hkt] at hb19
 refine AT_skip ?_
 simp only [nrm, reduceIte, Nat.reduceEqDiff]
 refine hK3 _ ?_
 refine AT_seq_k fun K4 hK4 => ?_
 refine AT_block ?_
 refine sr fun Z z => ?_
 obtain ⟨q1, ⟨q2a, q2⟩, ⟨q3a, q3⟩, ⟨q4a, q4⟩, q5, ⟨q6a, q6⟩, q7, q8⟩ := hf2 p.decls[k] (by simp)
 have u1 := cntFs_ub q2 (c + 1 + p.decls[k].name.length / 50 + p.decls[k].recv.length / 50)
 have u2 := cntFs_ub q3 (cntFs p.decls[k].fms (c + 1 + p.decls[k].name.length / 50 + p.decls[k].recv.length / 50))
 simp [row_map, tdiv50, encPg, encD, hkt]
 refine z _ ?_
 clear z Z
 refine AT_seq_draw Pt.mixed (by kernel_rfl) fun Z z => ?_
 simp [row_map, tdiv50, encPg, encD, hkt]
 repeat refine sg ?_
 refine RVdn_call (c_ref06x_countFormals g rnd p.decls[k].fms ⟨q2a, q2⟩ (c + 1 + p.decls[k].name.length / 50 + p.decls[k].recv.length / 50) (by omega)) ?_
 simp [row_map, tdiv50, encPg, encD, hkt]
 refine RVdn_call (c_ref06x_countParams g rnd p.decls[k].flds ⟨q3a, q3⟩ (cntFs p.decls[k].fms (c + 1 + p.decls[k].name.length / 50 + p.decls[k].recv.length / 50)) (by omega)) ?_
 simp [row_map, tdiv50, encPg, encD, hkt]
 refine z _ ?_
 clear z Z
 refine AT_seq_k fun K5 hK5 => ?_
 refine sr fun Z z => ?_
 simp [row_map, tdiv50, encPg, hkt]
 refine z _ ?_
 clear z Z
 refine AT_block ?_
 refine AT_loop_q [1,3,4,5,6] [1,5] (fun j s => ∃ m e, m ≤ p.decls[k].sigs.length ∧ cntGs p.decls[k].sigs (cntFs p.decls[k].flds (cntFs p.decls[k].fms (c + 1 + p.decls[k].name.length / 50 + p.decls[k].recv.length / 50))) = cntGs (p.decls[k].sigs.drop m) e ∧ j = p.decls[k].sigs.length - m ∧ s = { n := 94, tm := [(1, .lp 1 0), (3, .v (.int .i64 (e : Nat)) none), (4, .v (.int .i64 k) none), (5, .lp 5 0), (6, .v (.int .i64 m) none)], bx := [(1, encPg p), (5, encD p.decls[k])], tb := [], sh := [], hint := [] }) (p.decls[k].sigs.length) (by first | rfl | simp) ?_ ?_
 exact ⟨0, cntFs p.decls[k].flds (cntFs p.decls[k].fms (c + 1 + p.decls[k].name.length / 50 + p.decls[k].recv.length / 50)), by simp [encD, encPg]⟩
 rintro j s ⟨m, e, hm, he, rfl, rfl⟩ K6 hK6
 refine AT_seq_k fun K7 hK7 => ?_
 by_cases hms : m < p.decls[k].sigs.length
 refine sr fun Z z => ?_
 simp [row_map, tdiv50, encPg, encD, hkt, hms]
 refine z _ ?_
 clear z Z
 refine AT_cond (g := none) rfl (fun hb53 => ?_) (fun hb53 => ?_)
 simp [row_map, tdiv50, encPg, hkt, hms] at hb53
 refine AT_skip ?_
 simp only [nrm, reduceIte, Nat.reduceEqDiff]
 refine hK7 _ ?_
 refine AT_seq_k fun K8 hK8 => ?_
 refine AT_block ?_
 refine AT_region_q fun Z z => ?_
 simp [row_map, tdiv50, encPg, encD, encG, hkt, hms]
 refine RVn_call ((by have h := c_ref06x_countSig g rnd p.decls[k].sigs[m] (q4 _ (by simp)) e (by omega); simp only [encG] at h; exact h)) ?_
 simp [row_map, tdiv50, encPg, encD, encG, hkt, hms]
 refine z _ ?_
 clear z Z
 refine hK8 _ ?_
 refine AT_region_q fun Z z => ?_
 simp [row_map, tdiv50, encPg, hkt, hms]
 repeat refine sg ?_
 refine z _ ?_
 clear z Z
 simp only [nrm, reduceIte, Nat.reduceEqDiff]
 refine hK6 _ (by first | rfl | simp) (p.decls[k].sigs.length - (m+1)) (by omega) ?_
 refine ⟨m+1, cntG p.decls[k].sigs[m] e, by omega, ?_, by omega, by simp [encD, encPg]⟩
 rw [he, List.drop_eq_getElem_cons hms, cntGs_cons, if_pos (by omega)]
 simp [row_map, tdiv50, encPg, hkt, hms] at hb53
 refine AT_exit ?_
 simp only [nrm, reduceIte, Nat.reduceEqDiff]
 refine hK5 _ ?_
 refine AT_seq_k fun K9 hK9 => ?_
 refine sr fun Z z => ?_
 have hG : cntGs p.decls[k].sigs (cntFs p.decls[k].flds (cntFs p.decls[k].fms (c + 1 + p.decls[k].name.length / 50 + p.decls[k].recv.length / 50))) = e := by
   rw [he]
   (rw [List.drop_eq_getElem_cons hms, cntGs_cons, if_neg (by omega)])
 simp [row_map, tdiv50, encPg, hkt, hms]
 refine z _ ?_
 clear z Z
 refine AT_block ?_
 refine AT_loop_q [1,3,4,5,7] [1,5] (fun j s => ∃ i w, i ≤ p.decls[k].vars.length ∧ cntVs p.decls[k].vars (cntGs p.decls[k].sigs (cntFs p.decls[k].flds (cntFs p.decls[k].fms (c + 1 + p.decls[k].name.length / 50 + p.decls[k].recv.length / 50)))) = cntVs (p.decls[k].vars.drop i) w ∧ j = p.decls[k].vars.length - i ∧ s = { n := 94, tm := [(1, .lp 1 0), (3, .v (.int .i64 (w : Nat)) none), (4, .v (.int .i64 k) none), (5, .lp 5 0), (7, .v (.int .i64 i) none)], bx := [(1, encPg p), (5, encD p.decls[k])], tb := [], sh := [], hint := [] }) (p.decls[k].vars.length) (by first | rfl | simp) ?_ ?_
 exact ⟨0, e, by omega, by rw [hG]; rfl, by omega, by simp [encD, encPg]⟩
 rintro j s ⟨i, w, hi, hw, rfl, rfl⟩ K10 hK10
 refine AT_seq_k fun K11 hK11 => ?_
 by_cases hmv : i < p.decls[k].vars.length
 refine sr fun Z z => ?_
 simp [row_map, tdiv50, encPg, encD, hkt, hms, hmv]
 refine z _ ?_
 clear z Z
 refine AT_cond (g := none) rfl (fun hb71 => ?_) (fun hb71 => ?_)
 simp [row_map, tdiv50, encPg, hkt, hms, hmv] at hb71
 refine AT_skip ?_
 simp only [nrm, reduceIte, Nat.reduceEqDiff]
 refine hK11 _ ?_
 refine AT_seq_k fun K12 hK12 => ?_
 refine AT_block ?_
 refine AT_region_q fun Z z => ?_
 have q6k := q6 p.decls[k].vars[i] (by simp)
 simp [row_map, tdiv50, encPg, encD, encS, hkt, hms, hmv]
 repeat refine sg ?_
 refine z _ ?_
 clear z Z
 refine hK12 _ ?_
 refine AT_region_q fun Z z => ?_
 simp [row_map, tdiv50, encPg, hkt, hms, hmv]
 repeat refine sg ?_
 refine z _ ?_
 clear z Z
 simp only [nrm, reduceIte, Nat.reduceEqDiff]
 refine hK10 _ (by first | rfl | simp) (p.decls[k].vars.length - (i+1)) (by omega) ?_
 refine ⟨i+1, w + 1 + p.decls[k].vars[i].length / 50, by omega, ?_, by omega, by simp [encD, encPg]⟩
 rw [hw, List.drop_eq_getElem_cons hmv, cntVs_cons, if_pos (by omega)]
 simp [row_map, tdiv50, encPg, hkt, hms, hmv] at hb71
 refine AT_exit ?_
 simp only [nrm, reduceIte, Nat.reduceEqDiff]
 refine hK9 _ ?_
 refine sr fun Z z => ?_
 have hV : cntVs p.decls[k].vars (cntGs p.decls[k].sigs (cntFs p.decls[k].flds (cntFs p.decls[k].fms (c + 1 + p.decls[k].name.length / 50 + p.decls[k].recv.length / 50)))) = w := by
   rw [hw]
   (rw [List.drop_eq_getElem_cons hmv, cntVs_cons, if_neg (by omega)])
 simp [row_map, tdiv50, encPg, hkt, hms, hmv]
 refine z _ ?_
 clear z Z
 refine AT_cond (g := none) rfl (fun hb85 => ?_) (fun hb85 => ?_)
 simp [row_map, tdiv50, encPg, hkt, hms, hmv] at hb85
 refine AT_draw_q Pt.mixed (by kernel_rfl) fun Z z => ?_
 have u3 := cntG_ub q7 w
 simp [row_map, tdiv50, encPg, encD, hkt, hms, hmv, hb85]
 refine RVdn_call ((by have h := c_ref06x_countSig g rnd p.decls[k].sig q7 w (by omega); simp only [encG] at h; exact h)) ?_
 simp [row_map, tdiv50, encPg, encD, hkt, hms, hmv, hb85]
 refine RVdn_call ((by have h := c_ref05x_Count g rnd p.decls[k].body q8 (cntG p.decls[k].sig w) (by omega); simp only [encE_def] at h; exact h)) ?_
 simp [row_map, tdiv50, encPg, encD, hkt, hms, hmv, hb85]
 refine z _ ?_
 clear z Z
 simp only [nrm, reduceIte, Nat.reduceEqDiff]
 refine hK4 _ ?_
 refine AT_region_q fun Z z => ?_
 simp [row_map, tdiv50, encPg, hkt, hms, hmv, hb85]
 repeat refine sg ?_
 refine z _ ?_
 clear z Z
 simp only [nrm, reduceIte, Nat.reduceEqDiff]
 refine hK2 _ (by first | rfl | simp) (p.decls.length - (k+1)) (by omega) ?_
 (· refine ⟨k+1, cntE p.decls[k].body (cntG p.decls[k].sig w), by omega, ?_, by omega, by simp [encPg]⟩
    rw [hc, List.drop_eq_getElem_cons hkt, cntDs_cons, if_pos (by omega), cntD, hV, if_pos (by omega)])
 simp [row_map, tdiv50, encPg, hkt, hms, hmv] at hb85
 refine AT_skip ?_
 refine hK4 _ ?_
 refine AT_region_q fun Z z => ?_
 simp [row_map, tdiv50, encPg, hkt, hms, hmv, hb85]
 repeat refine sg ?_
 refine z _ ?_
 clear z Z
 simp only [nrm, reduceIte, Nat.reduceEqDiff]
 refine hK2 _ (by first | rfl | simp) (p.decls.length - (k+1)) (by omega) ?_
 (refine ⟨k+1, w, by omega, ?_, by omega, by simp [encPg]⟩
  rw [hc, List.drop_eq_getElem_cons hkt, cntDs_cons, if_pos (by omega), cntD, hV, if_neg (by omega)])
 refine sr fun Z z => ?_
 simp [row_map, tdiv50, encPg, encD, hkt, hms, hmv]
 refine z _ ?_
 clear z Z
 refine AT_cond (b := false) (g := none) (by simp [hkt, hms, hmv]) (fun hb => ?_) (fun hb => ?_)
 cases hb
 clear hb
 refine AT_exit ?_
 simp only [nrm, reduceIte, Nat.reduceEqDiff]
 refine hK9 _ ?_
 refine sr fun Z z => ?_
 have hV : cntVs p.decls[k].vars (cntGs p.decls[k].sigs (cntFs p.decls[k].flds (cntFs p.decls[k].fms (c + 1 + p.decls[k].name.length / 50 + p.decls[k].recv.length / 50)))) = w := by
   rw [hw]
   (rw [List.drop_eq_nil_of_le (by omega)]; rfl)
 simp [row_map, tdiv50, encPg, hkt, hms, hmv]
 refine z _ ?_
 clear z Z
 refine AT_cond (g := none) rfl (fun hb85 => ?_) (fun hb85 => ?_)
 simp [row_map, tdiv50, encPg, hkt, hms, hmv] at hb85
 refine AT_draw_q Pt.mixed (by kernel_rfl) fun Z z => ?_
 have u3 := cntG_ub q7 w
 simp [row_map, tdiv50, encPg, encD, hkt, hms, hmv, hb85]
 refine RVdn_call ((by have h := c_ref06x_countSig g rnd p.decls[k].sig q7 w (by omega); simp only [encG] at h; exact h)) ?_
 simp [row_map, tdiv50, encPg, encD, hkt, hms, hmv, hb85]
 refine RVdn_call ((by have h := c_ref05x_Count g rnd p.decls[k].body q8 (cntG p.decls[k].sig w) (by omega); simp only [encE_def] at h; exact h)) ?_
 simp [row_map, tdiv50, encPg, encD, hkt, hms, hmv, hb85]
 refine z _ ?_
 clear z Z
 simp only [nrm, reduceIte, Nat.reduceEqDiff]
 refine hK4 _ ?_
 refine AT_region_q fun Z z => ?_
 simp [row_map, tdiv50, encPg, hkt, hms, hmv, hb85]
 repeat refine sg ?_
 refine z _ ?_
 clear z Z
 simp only [nrm, reduceIte, Nat.reduceEqDiff]
 refine hK2 _ (by first | rfl | simp) (p.decls.length - (k+1)) (by omega) ?_
 (· refine ⟨k+1, cntE p.decls[k].body (cntG p.decls[k].sig w), by omega, ?_, by omega, by simp [encPg]⟩
    rw [hc, List.drop_eq_getElem_cons hkt, cntDs_cons, if_pos (by omega), cntD, hV, if_pos (by omega)])
 simp [row_map, tdiv50, encPg, hkt, hms, hmv] at hb85
 refine AT_skip ?_
 refine hK4 _ ?_
 refine AT_region_q fun Z z => ?_
 simp [row_map, tdiv50, encPg, hkt, hms, hmv, hb85]
 repeat refine sg ?_
 refine z _ ?_
 clear z Z
 simp only [nrm, reduceIte, Nat.reduceEqDiff]
 refine hK2 _ (by first | rfl | simp) (p.decls.length - (k+1)) (by omega) ?_
 (refine ⟨k+1, w, by omega, ?_, by omega, by simp [encPg]⟩
  rw [hc, List.drop_eq_getElem_cons hkt, cntDs_cons, if_pos (by omega), cntD, hV, if_neg (by omega)])
 refine sr fun Z z => ?_
 simp [row_map, tdiv50, encPg, encD, hkt, hms]
 refine z _ ?_
 clear z Z
 refine AT_cond (b := false) (g := none) (by simp [hkt, hms]) (fun hb => ?_) (fun hb => ?_)
 cases hb
 clear hb
 refine AT_exit ?_
 simp only [nrm, reduceIte, Nat.reduceEqDiff]
 refine hK5 _ ?_
 refine AT_seq_k fun K13 hK13 => ?_
 refine sr fun Z z => ?_
 have hG : cntGs p.decls[k].sigs (cntFs p.decls[k].flds (cntFs p.decls[k].fms (c + 1 + p.decls[k].name.length / 50 + p.decls[k].recv.length / 50))) = e := by
   rw [he]
   (rw [List.drop_eq_nil_of_le (by omega)]; rfl)
 simp [row_map, tdiv50, encPg, hkt, hms]
 refine z _ ?_
 clear z Z
 refine AT_block ?_
 refine AT_loop_q [1,3,4,5,7] [1,5] (fun j s => ∃ i w, i ≤ p.decls[k].vars.length ∧ cntVs p.decls[k].vars (cntGs p.decls[k].sigs (cntFs p.decls[k].flds (cntFs p.decls[k].fms (c + 1 + p.decls[k].name.length / 50 + p.decls[k].recv.length / 50)))) = cntVs (p.decls[k].vars.drop i) w ∧ j = p.decls[k].vars.length - i ∧ s = { n := 94, tm := [(1, .lp 1 0), (3, .v (.int .i64 (w : Nat)) none), (4, .v (.int .i64 k) none), (5, .lp 5 0), (7, .v (.int .i64 i) none)], bx := [(1, encPg p), (5, encD p.decls[k])], tb := [], sh := [], hint := [] }) (p.decls[k].vars.length) (by first | rfl | simp) ?_ ?_
 exact ⟨0, e, by omega, by rw [hG]; rfl, by omega, by simp [encD, encPg]⟩
 rintro j s ⟨i, w, hi, hw, rfl, rfl⟩ K14 hK14
 refine AT_seq_k fun K15 hK15 => ?_
 by_cases hmv : i < p.decls[k].vars.length
 refine sr fun Z z => ?_
 simp [row_map, tdiv50, encPg, encD, hkt, hms, hmv]
 refine z _ ?_
 clear z Z
 refine AT_cond (g := none) rfl (fun hb71 => ?_) (fun hb71 => ?_)
 simp [row_map, tdiv50, encPg, hkt, hms, hmv] at hb71
 refine AT_skip ?_
 simp only [nrm, reduceIte, Nat.reduceEqDiff]
 refine hK15 _ ?_
 refine AT_seq_k fun K16 hK16 => ?_
 refine AT_block ?_
 refine AT_region_q fun Z z => ?_
 have q6k := q6 p.decls[k].vars[i] (by simp)
 simp [row_map, tdiv50, encPg, encD, encS, hkt, hms, hmv]
 repeat refine sg ?_
 refine z _ ?_
 clear z Z
 refine hK16 _ ?_
 refine AT_region_q fun Z z => ?_
 simp [row_map, tdiv50, encPg, hkt, hms, hmv]
 repeat refine sg ?_
 refine z _ ?_
 clear z Z
 simp only [nrm, reduceIte, Nat.reduceEqDiff]
 refine hK14 _ (by first | rfl | simp) (p.decls[k].vars.length - (i+1)) (by omega) ?_
 refine ⟨i+1, w + 1 + p.decls[k].vars[i].length / 50, by omega, ?_, by omega, by simp [encD, encPg]⟩
 rw [hw, List.drop_eq_getElem_cons hmv, cntVs_cons, if_pos (by omega)]
 simp [row_map, tdiv50, encPg, hkt, hms, hmv] at hb71
 refine AT_exit ?_
 simp only [nrm, reduceIte, Nat.reduceEqDiff]
 refine hK13 _ ?_
 refine sr fun Z z => ?_
 have hV : cntVs p.decls[k].vars (cntGs p.decls[k].sigs (cntFs p.decls[k].flds (cntFs p.decls[k].fms (c + 1 + p.decls[k].name.length / 50 + p.decls[k].recv.length / 50)))) = w := by
   rw [hw]
   (rw [List.drop_eq_getElem_cons hmv, cntVs_cons, if_neg (by omega)])
 simp [row_map, tdiv50, encPg, hkt, hms, hmv]
 refine z _ ?_
 clear z Z
 refine AT_cond (g := none) rfl (fun hb85 => ?_) (fun hb85 => ?_)
 simp [row_map, tdiv50, encPg, hkt, hms, hmv] at hb85
 refine AT_draw_q Pt.mixed (by kernel_rfl) fun Z z => ?_
 have u3 := cntG_ub q7 w
 simp [row_map, tdiv50, encPg, encD, hkt, hms, hmv, hb85]
 refine RVdn_call ((by have h := c_ref06x_countSig g rnd p.decls[k].sig q7 w (by omega); simp only [encG] at h; exact h)) ?_
 simp [row_map, tdiv50, encPg, encD, hkt, hms, hmv, hb85]
 refine RVdn_call ((by have h := c_ref05x_Count g rnd p.decls[k].body q8 (cntG p.decls[k].sig w) (by omega); simp only [encE_def] at h; exact h)) ?_
 simp [row_map, tdiv50, encPg, encD, hkt, hms, hmv, hb85]
 refine z _ ?_
 clear z Z
 simp only [nrm, reduceIte, Nat.reduceEqDiff]
 refine hK4 _ ?_
 refine AT_region_q fun Z z => ?_
 simp [row_map, tdiv50, encPg, hkt, hms, hmv, hb85]
 repeat refine sg ?_
 refine z _ ?_
 clear z Z
 simp only [nrm, reduceIte, Nat.reduceEqDiff]
 refine hK2 _ (by first | rfl | simp) (p.decls.length - (k+1)) (by omega) ?_
 (· refine ⟨k+1, cntE p.decls[k].body (cntG p.decls[k].sig w), by omega, ?_, by omega, by simp [encPg]⟩
    rw [hc, List.drop_eq_getElem_cons hkt, cntDs_cons, if_pos (by omega), cntD, hV, if_pos (by omega)])
 simp [row_map, tdiv50, encPg, hkt, hms, hmv] at hb85
 refine AT_skip ?_
 refine hK4 _ ?_
 refine AT_region_q fun Z z => ?_
 simp [row_map, tdiv50, encPg, hkt, hms, hmv, hb85]
 repeat refine sg ?_
 refine z _ ?_
 clear z Z
 simp only [nrm, reduceIte, Nat.reduceEqDiff]
 refine hK2 _ (by first | rfl | simp) (p.decls.length - (k+1)) (by omega) ?_
 (refine ⟨k+1, w, by omega, ?_, by omega, by simp [encPg]⟩
  rw [hc, List.drop_eq_getElem_cons hkt, cntDs_cons, if_pos (by omega), cntD, hV, if_neg (by omega)])
 refine sr fun Z z => ?_
 simp [row_map, tdiv50, encPg, encD, hkt, hms, hmv]
 refine z _ ?_
 clear z Z
 refine AT_cond (b := false) (g := none) (by simp [hkt, hms, hmv]) (fun hb => ?_) (fun hb => ?_)
 cases hb
 clear hb
 refine AT_exit ?_
 simp only [nrm, reduceIte, Nat.reduceEqDiff]
 refine hK13 _ ?_
 refine sr fun Z z => ?_
 have hV : cntVs p.decls[k].vars (cntGs p.decls[k].sigs (cntFs p.decls[k].flds (cntFs p.decls[k].fms (c + 1 + p.decls[k].name.length / 50 + p.decls[k].recv.length / 50)))) = w := by
   rw [hw]
   (rw [List.drop_eq_nil_of_le (by omega)]; rfl)
 simp [row_map, tdiv50, encPg, hkt, hms, hmv]
 refine z _ ?_
 clear z Z
 refine AT_cond (g := none) rfl (fun hb85 => ?_) (fun hb85 => ?_)
 simp [row_map, tdiv50, encPg, hkt, hms, hmv] at hb85
 refine AT_draw_q Pt.mixed (by kernel_rfl) fun Z z => ?_
 have u3 := cntG_ub q7 w
 simp [row_map, tdiv50, encPg, encD, hkt, hms, hmv, hb85]
 refine RVdn_call ((by have h := c_ref06x_countSig g rnd p.decls[k].sig q7 w (by omega); simp only [encG] at h; exact h)) ?_
 simp [row_map, tdiv50, encPg, encD, hkt, hms, hmv, hb85]
 refine RVdn_call ((by have h := c_ref05x_Count g rnd p.decls[k].body q8 (cntG p.decls[k].sig w) (by omega); simp only [encE_def] at h; exact h)) ?_
 simp [row_map, tdiv50, encPg, encD, hkt, hms, hmv, hb85]
 refine z _ ?_
 clear z Z
 simp only [nrm, reduceIte, Nat.reduceEqDiff]
 refine hK4 _ ?_
 refine AT_region_q fun Z z => ?_
 simp [row_map, tdiv50, encPg, hkt, hms, hmv, hb85]
 repeat refine sg ?_
 refine z _ ?_
 clear z Z
 simp only [nrm, reduceIte, Nat.reduceEqDiff]
 refine hK2 _ (by first | rfl | simp) (p.decls.length - (k+1)) (by omega) ?_
 (· refine ⟨k+1, cntE p.decls[k].body (cntG p.decls[k].sig w), by omega, ?_, by omega, by simp [encPg]⟩
    rw [hc, List.drop_eq_getElem_cons hkt, cntDs_cons, if_pos (by omega), cntD, hV, if_pos (by omega)])
 simp [row_map, tdiv50, encPg, hkt, hms, hmv] at hb85
 refine AT_skip ?_
 refine hK4 _ ?_
 refine AT_region_q fun Z z => ?_
 simp [row_map, tdiv50, encPg, hkt, hms, hmv, hb85]
 repeat refine sg ?_
 refine z _ ?_
 clear z Z
 simp only [nrm, reduceIte, Nat.reduceEqDiff]
 refine hK2 _ (by first | rfl | simp) (p.decls.length - (k+1)) (by omega) ?_
 (refine ⟨k+1, w, by omega, ?_, by omega, by simp [encPg]⟩
  rw [hc, List.drop_eq_getElem_cons hkt, cntDs_cons, if_pos (by omega), cntD, hV, if_neg (by omega)])
 simp [row_map, tdiv50, encPg, hkt] at hb19
 refine AT_exit ?_
 simp only [nrm, reduceIte, Nat.reduceEqDiff]
 refine hK1 _ ?_
 refine sr fun Z z => ?_
 simp [row_map, tdiv50, encPg, hkt]
 refine z _ ?_
 clear z Z
 refine AT_ret ?_
 simp [row_map, tdiv50, encPg, Tryz.f27]
 (rw [hc, List.drop_eq_getElem_cons hkt, cntDs_cons, if_neg (by omega)])
 refine sr fun Z z => ?_
 simp [row_map, tdiv50, encPg, hkt]
 refine z _ ?_
 clear z Z
 refine AT_cond (b := false) (g := none) (by simp [hkt]) (fun hb => ?_) (fun hb => ?_)
 cases hb
 clear hb
 refine AT_exit ?_
 simp only [nrm, reduceIte, Nat.reduceEqDiff]
 refine hK1 _ ?_
 refine sr fun Z z => ?_
 simp [row_map, tdiv50, encPg, hkt]
 refine z _ ?_
 clear z Z
 refine AT_ret ?_
 simp [row_map, tdiv50, encPg, Tryz.f27]
 (rw [hc, List.drop_eq_nil_of_le (by omega)]; rfl)

theorem c_ref06x_Few (p : Pg) (hf : fitPg p) : Valid Tryz.prog (G0 g rnd) 8 [.agg (encPg p)] (.bool (decide (cntPg p ≤ 600))) := by

 refine valid_of [] Tryz.func8 rfl (by kernel_rfl) ?_
 refine sr fun Z z => ?_
 simp [Tryz.f8]
 refine z _ ?_
 clear z Z
 refine sr fun Z z => ?_
 simp
 refine RVn_call (c_ref06x_Count g rnd p hf) ?_
 simp
 refine z _ ?_
 clear z Z
 refine AT_ret ?_
 simp [Tryz.f8]
 omega

end Go.Proofs.YtdifpfehijnmiaaGreatDoor
end

import Derived.Test.YtdifpfehijnmiaaGreatDoorPt
import Derived.Test.YtdifpfehijnmiaaGreatDoorPvXa
import Derived.Test.YtdifpfehijnmiaaGreatDoorPvY
import Derived.Test.YtdifpfehijnmiaaGreatDoorXDcJ
import Derived.Test.YtdifpfehijnmiaaGreatDoorXExA
import Derived.Test.YtdifpfehijnmiaaGreatDoorXTyQ
import Derived.Test.YtdifpfehijnmiaaGreatDoorXExE
import Derived.Test.YtdifpfehijnmiaaGreatDoorPvP
section
/- Contracts: clones of declarations and programs. -/
set_option linter.all false
set_option maxHeartbeats 1000000
set_option maxRecDepth 10000
namespace Go.Proofs.YtdifpfehijnmiaaGreatDoor
open Go Go.Pv
variable (g : Nat → Option (List AV)) (rnd : Bool)

theorem c_decl_cloneDecl (a : Dc) (hw : wtD a ≤ 1000000000) : Valid Tryz.prog (G0 g rnd) 75 [.agg (encD a)] (.agg (encD a)) := by
 have hw2 : a.name.length + 1 + wtFs a.fms + wtFs a.flds + wtGs a.sigs + a.recv.length + wtSs a.vars + wtG a.sig + wtE a.body ≤ 1000000000 := hw
 refine valid_of [] Tryz.func75 rfl (by kernel_rfl) ?_
 refine sr fun Z z => ?_
 simp [encD, Tryz.f75]
 refine z _ ?_
 clear z Z
 refine AT_seq_draw Pt.mixed (by kernel_rfl) fun Z z => ?_
 simp [encD]
 refine RVdn_call (c_decl_copies_api_Formal g rnd 113 a.fms (by have := wtFs_len a.fms; omega) (fun x hx => c_decl_cloneFormal g rnd x (by have := wtFs_mem hx; omega))) ?_
 simp [encD]
 refine RVdn_call (c_decl_copies_api_Param g rnd 115 a.flds (by have := wtFs_len a.flds; omega) (fun x hx => c_decl_cloneParam g rnd x (by have := wtFs_mem hx; omega))) ?_
 simp [encD]
 refine RVdn_call (c_decl_copies_api_Sig g rnd 117 a.sigs (by have := wtGs_len a.sigs; omega) (fun x hx => c_decl_cloneSig g rnd x (by have := wtGs_mem hx; omega))) ?_
 simp [encD]
 refine z _ ?_
 clear z Z
 refine AT_seq_draw Pt.mixed (by kernel_rfl) fun Z z => ?_
 simp [encD]
 refine RVdn_call (c_slices_Clone_string_string g rnd a.vars (by have := wtSs_len a.vars; omega)) ?_
 simp [encD]
 refine RVdn_call ((by have h := c_decl_cloneSig g rnd a.sig (by omega); simp only [encG] at h; exact h)) ?_
 simp [encD]
 refine RVdn_call ((by have h := c_expr_Clone g rnd a.body (by omega); simp only [encE_def] at h; exact h)) ?_
 simp [encD]
 refine z _ ?_
 clear z Z
 refine sr fun Z z => ?_
 simp [encD]
 refine z _ ?_
 clear z Z
 refine AT_ret ?_
 simp [encD, Tryz.f75]

theorem c_decl_Clone (a : Pg) (hw : wtPg a ≤ 1000000000) : Valid Tryz.prog (G0 g rnd) 23 [.agg (encPg a)] (.agg (encPg a)) := by
 have hw2 : wtDs a.decls + wtE a.main ≤ 1000000000 := hw
 refine valid_of [] Tryz.func23 rfl (by kernel_rfl) ?_
 refine sr fun Z z => ?_
 simp [encPg, Tryz.f23]
 refine z _ ?_
 clear z Z
 refine AT_seq_draw Pt.mixed (by kernel_rfl) fun Z z => ?_
 simp [encPg]
 refine RVdn_call (c_decl_copies_api_Decl g rnd 75 a.decls (by have := wtDs_len a.decls; omega) (fun x hx => c_decl_cloneDecl g rnd x (by have := wtDs_mem hx; omega))) ?_
 simp [encPg]
 refine RVdn_call ((by have h := c_expr_Clone g rnd a.main (by omega); simp only [encE_def] at h; exact h)) ?_
 simp [encPg]
 refine z _ ?_
 clear z Z
 refine AT_ret ?_
 simp [encPg, Tryz.f23]

end Go.Proofs.YtdifpfehijnmiaaGreatDoor
end

section
/- Contracts: the types of a program; its depth. -/
set_option linter.all false
set_option maxHeartbeats 1000000
set_option maxRecDepth 10000
namespace Go.Proofs.YtdifpfehijnmiaaGreatDoor
open Go Go.Pv
variable (g : Nat → Option (List AV)) (rnd : Bool)

theorem c_decl_Types_z (p : Pg) (hw : wtPg p ≤ 400000000) : Valid Tryz.prog (G0 g false) 16 [.agg (encPg p)] (.slice ((tysP p).map encTy)) := by
 have hw2 : wtDs p.decls + wtE p.main ≤ 400000000 := hw
 have hlD := wtDs_len p.decls
 have htp := tysP_len p
 refine valid_of [(3, 28)] Tryz.func16 rfl (by kernel_rfl) ?_
 refine sr fun Z z => ?_
 simp [row_map, encPg, Tryz.f16]
 refine z _ ?_
 clear z Z
 refine sr fun Z z => ?_
 simp [row_map, encPg]
 refine z _ ?_
 clear z Z
 refine AT_seq_k fun K1 hK1 => ?_
 refine sr fun Z z => ?_
 simp [row_map, encPg]
 refine z _ ?_
 clear z Z
 refine AT_block ?_
 refine AT_loop_q [1,3,9,10,11] [1] (fun j s => ∃ k, k ≤ p.decls.length ∧ j = p.decls.length - k ∧ s = { n := 57, tm := [(1, .lp 1 0), (3, .v (.slice ((flT (declL p) k).map encTy)) (some (3, 28))), (9, .v (.slice (p.decls.map encD)) none), (10, .v (.int .i64 p.decls.length) none), (11, .v (.int .i64 k) none)], bx := [(1, encPg p)], tb := [], sh := [], hint := [(3, 28)] }) (p.decls.length) (by first | rfl | simp) ?_ ?_
 exact ⟨0, by simp [flT_nil, encPg]⟩
 rintro j s ⟨k, hk, rfl, rfl⟩ K2 hK2
 refine sr fun Z z => ?_
 simp [row_map, encPg]
 refine z _ ?_
 clear z Z
 refine AT_seq_k fun K3 hK3 => ?_
 refine AT_cond (g := none) rfl (fun hb12 => ?_) (fun hb12 => ?_)
 simp [row_map, encPg] at hb12
 refine AT_skip ?_
 simp only [nrm, reduceIte, Nat.reduceEqDiff]
 refine hK3 _ ?_
 refine AT_seq_k fun K4 hK4 => ?_
 refine AT_block ?_
 refine sr fun Z z => ?_
 have hk9 : k < p.decls.length := by omega
 have hle := decl_le p k hk9
 have hu9 := decl_succ p k hk9
 have hwd := wtDs_mem (l := p.decls) (f := p.decls[k]) (by simp)
 have hwd2 : wtD p.decls[k] = p.decls[k].name.length + 1 + wtFs p.decls[k].fms + wtFs p.decls[k].flds + wtGs p.decls[k].sigs + p.decls[k].recv.length + wtSs p.decls[k].vars + wtG p.decls[k].sig + wtE p.decls[k].body := rfl
 have hf1 := wtFs_len p.decls[k].fms
 have hgl := wtGs_len p.decls[k].sigs
 have hf2 := wtFs_len p.decls[k].flds
 have hg1 := flT_len (declL p) k
 have hh1 := headD_len p.decls[k]
 simp [row_map, encPg, encD, hb12]
 refine z _ ?_
 clear z Z
 refine AT_seq_draw Pt.mixed (by kernel_rfl) fun Z z => ?_
 simp [row_map, encPg, encD, hb12]
 refine RVdn_call (c_decl_formals g false p.decls[k].fms (by omega)) ?_
 simp [row_map, encPg, encD, hb12]
 refine RVdn_call (c_decl_params g false p.decls[k].flds (by omega)) ?_
 simp [row_map, encPg, encD, hb12]
 refine RVdn_call ((by have h := (c_slices_Concat_api_Type_api_Type g false [p.decls[k].fms.map Fm.ty, p.decls[k].flds.map Fm.ty] (by simp) (by simp; omega)).valid; simpa [encTL] using h)) ?_
 simp [row_map, encPg, encD, hb12]
 repeat refine sg ?_
 refine z _ ?_
 clear z Z
 refine AT_seq_k fun K5 hK5 => ?_
 refine sr fun Z z => ?_
 simp [row_map, encPg, encD, hb12]
 refine z _ ?_
 clear z Z
 refine AT_block ?_
 refine AT_loop_q [1,3,5,9,10,11,26,27,28] [1,5] (fun j s => ∃ m, m ≤ p.decls[k].sigs.length ∧ j = p.decls[k].sigs.length - m ∧ s = { n := 57, tm := [(1, .lp 1 0), (3, .v (.slice ((flT (declL p) k ++ headD p.decls[k] ++ flT (sigL p.decls[k]) m).map encTy)) (some (3, 28))), (5, .lp 5 0), (9, .v (.slice (p.decls.map encD)) none), (10, .v (.int .i64 p.decls.length) none), (11, .v (.int .i64 k) none), (26, .v (.slice (p.decls[k].sigs.map encG)) none), (27, .v (.int .i64 p.decls[k].sigs.length) none), (28, .v (.int .i64 m) none)], bx := [(1, encPg p), (5, encD p.decls[k])], tb := [], sh := [], hint := [(3, 28)] }) (p.decls[k].sigs.length) (by first | rfl | simp) ?_ ?_
 exact ⟨0, by simp [flT_nil, headD, encD, encPg]⟩
 rintro j s ⟨m, hm, rfl, rfl⟩ K6 hK6
 refine sr fun Z z => ?_
 simp [row_map, encPg, hb12]
 refine z _ ?_
 clear z Z
 refine AT_seq_k fun K7 hK7 => ?_
 refine AT_cond (g := none) rfl (fun hb29 => ?_) (fun hb29 => ?_)
 simp [row_map, encPg, hb12] at hb29
 refine AT_skip ?_
 simp only [nrm, reduceIte, Nat.reduceEqDiff]
 refine hK7 _ ?_
 refine AT_seq_k fun K8 hK8 => ?_
 refine AT_block ?_
 refine sr fun Z z => ?_
 have hm9 : m < p.decls[k].sigs.length := by omega
 have hsl := sig_le p.decls[k] m hm9
 have hv9 := sig_succ p.decls[k] m hm9
 have hg2 := flT_len (sigL p.decls[k]) m
 have hws := wtGs_mem (l := p.decls[k].sigs) (f := p.decls[k].sigs[m]) (by simp)
 simp [row_map, encPg, encG, hb12, hb29]
 refine z _ ?_
 clear z Z
 refine AT_region_q fun Z z => ?_
 simp [row_map, encPg, encG, hb12, hb29]
 refine RVn_call (c_decl_sig g false p.decls[k].sigs[m] (by omega)) ?_
 simp [row_map, encPg, encG, hb12, hb29]
 repeat refine sg ?_
 refine z _ ?_
 clear z Z
 refine hK8 _ ?_
 refine AT_region_q fun Z z => ?_
 simp [row_map, encPg, hb12, hb29]
 repeat refine sg ?_
 refine z _ ?_
 clear z Z
 simp only [nrm, reduceIte, Nat.reduceEqDiff]
 refine hK6 _ (by first | rfl | simp) (p.decls[k].sigs.length - (m+1)) (by omega) ?_
 refine ⟨m+1, by omega, by omega, ?_⟩
 simp [hv9, encD, encPg]
 simp [row_map, encPg, hb12] at hb29
 refine AT_exit ?_
 simp only [nrm, reduceIte, Nat.reduceEqDiff]
 refine hK5 _ ?_
 cases h3 : (p.decls[k].kind == 3)
 have htail := tailD_no h3
 refine sr fun Z z => ?_
 have hm9 : m = p.decls[k].sigs.length := by omega
 subst hm9
 have hsa := sig_all p.decls[k]
 rw [hsa]
 simp [row_map, encPg, encD, hb12, hb29, h3]
 refine z _ ?_
 clear z Z
 refine AT_cond (b := false) (g := none) (by simp [hb12, hb29, h3]) (fun hb => ?_) (fun hb => ?_)
 cases hb
 clear hb
 refine AT_skip ?_
 refine hK4 _ ?_
 refine AT_region_q fun Z z => ?_
 simp [row_map, encPg, hb12, hb29, h3]
 repeat refine sg ?_
 refine z _ ?_
 clear z Z
 simp only [nrm, reduceIte, Nat.reduceEqDiff]
 refine hK2 _ (by first | rfl | simp) (p.decls.length - (k+1)) (by omega) ?_
 refine ⟨k+1, by omega, by omega, ?_⟩
 simp [hu9, htail, encPg]
 have htail := tailD_yes (by simpa using h3)
 have htl : (tailD p.decls[k]).length = (tysG p.decls[k].sig).length + (tysE p.decls[k].body).length := by rw [htail, List.length_append]
 refine sr fun Z z => ?_
 have hm9 : m = p.decls[k].sigs.length := by omega
 subst hm9
 have hsa := sig_all p.decls[k]
 rw [hsa]
 simp [row_map, encPg, encD, hb12, hb29, h3]
 refine z _ ?_
 clear z Z
 refine AT_cond (b := true) (g := none) (by simp [hb12, hb29, h3]) (fun hb => ?_) (fun hb => ?_)
 clear hb
 refine AT_draw_q Pt.mixed (by kernel_rfl) fun Z z => ?_
 simp [row_map, encPg, encD, hb12, hb29, h3]
 refine RVdn_call ((by have h := c_decl_sig g false p.decls[k].sig (by omega); simp only [encG] at h; exact h)) ?_
 simp [row_map, encPg, encD, hb12, hb29, h3]
 refine RVdn_call ((by have h := c_decl_body g false p.decls[k].body (by omega); simp only [encE_def] at h; exact h)) ?_
 simp [row_map, encPg, encD, hb12, hb29, h3]
 refine RVdn_call ((by have h := (c_slices_Concat_api_Type_api_Type g false [tysG p.decls[k].sig, tysE p.decls[k].body] (by simp) (by simp; omega)).valid; simpa [encTL] using h)) ?_
 simp [row_map, encPg, encD, hb12, hb29, h3]
 repeat refine sg ?_
 refine z _ ?_
 clear z Z
 simp only [nrm, reduceIte, Nat.reduceEqDiff]
 refine hK4 _ ?_
 refine AT_region_q fun Z z => ?_
 simp [row_map, encPg, hb12, hb29, h3]
 repeat refine sg ?_
 refine z _ ?_
 clear z Z
 simp only [nrm, reduceIte, Nat.reduceEqDiff]
 refine hK2 _ (by first | rfl | simp) (p.decls.length - (k+1)) (by omega) ?_
 refine ⟨k+1, by omega, by omega, ?_⟩
 simp [hu9, htail, encPg]
 cases hb
 simp [row_map, encPg] at hb12
 refine AT_exit ?_
 simp only [nrm, reduceIte, Nat.reduceEqDiff]
 refine hK1 _ ?_
 refine sr fun Z z => ?_
 have hk9 : k = p.decls.length := by omega
 subst hk9
 have hda := decl_all p
 rw [hda]
 simp [row_map, encPg, hb12]
 refine RVn_call ((by have h := c_decl_body g false p.main (by omega); simp only [encE_def] at h; exact h)) ?_
 simp [row_map, encPg, hb12]
 repeat refine sg ?_
 refine RVn_call ((by have h := c_decl_copies_api_Type g false 61 (tysP p) (by rw [tysP_parts, List.length_append]; omega) (fun x hx => c_types_Clone g false x (by have h1 := wts_mem hx; have h2 := wts_tysP p; omega)); rw [tysP_parts, List.map_append] at h; exact h)) ?_
 simp [row_map, encPg, hb12]
 refine z _ ?_
 clear z Z
 refine AT_ret ?_
 simp [row_map, encPg, Tryz.f16]
 rw [tysP_parts]; simp

theorem c_decl_Types (p : Pg) (hw : wtPg p ≤ 400000000) : Valid Tryz.prog (G0 g rnd) 16 [.agg (encPg p)] (.slice ((tysP p).map encTy)) := (c_decl_Types_z g p hw).gl rfl

end Go.Proofs.YtdifpfehijnmiaaGreatDoor
end

section
/- Contracts: depth, plain. -/
set_option linter.all false
set_option maxHeartbeats 1000000
set_option maxRecDepth 10000
namespace Go.Proofs.YtdifpfehijnmiaaGreatDoor
open Go Go.Pv
variable (g : Nat → Option (List AV)) (rnd : Bool)

theorem c_decl_Depth (p : Pg) (hw : wtPg p ≤ 400000000) : Valid Tryz.prog (G0 g rnd) 19 [.agg (encPg p)] (.int .i64 (dpP p)) := by
 have hw2 : wtDs p.decls + wtE p.main ≤ 400000000 := hw
 have hwt := wts_tysP p
 have hlt := wts_len (tysP p)
 have hlD := wtDs_len p.decls
 refine valid_of [] Tryz.func19 rfl (by kernel_rfl) ?_
 refine sr fun Z z => ?_
 simp [row_map, encPg, Tryz.f19]
 refine z _ ?_
 clear z Z
 refine sr fun Z z => ?_
 simp [row_map, encPg]
 refine RVn_call ((by have h := c_expr_Depth g rnd p.main (by omega); simp only [encE_def] at h; exact h)) ?_
 simp [row_map, encPg]
 refine z _ ?_
 clear z Z
 refine AT_seq_k fun K1 hK1 => ?_
 refine sr fun Z z => ?_
 simp [row_map, encPg]
 refine RVn_call ((by have h := c_decl_Types g rnd p hw; simp only [encPg] at h; exact h)) ?_
 simp [row_map, encPg]
 refine z _ ?_
 clear z Z
 refine AT_block ?_
 refine AT_loop_q [1,3,12,13,14] [1] (fun j s => ∃ k M, k ≤ (tysP p).length ∧ mxT M ((tysP p).drop k) = mxT (depE p.main) (tysP p) ∧ j = (tysP p).length - k ∧ s = { n := 40, tm := [(1, .lp 1 0), (3, .v (.int .i64 (M : Nat)) none), (12, .v (.slice ((tysP p).map encTy)) none), (13, .v (.int .i64 (tysP p).length) none), (14, .v (.int .i64 k) none)], bx := [(1, encPg p)], tb := [], sh := [], hint := [] }) ((tysP p).length) (by first | rfl | simp) ?_ ?_
 exact ⟨0, depE p.main, by simp [encPg]⟩
 rintro j s ⟨k, M, hk, hM, rfl, rfl⟩ K2 hK2
 refine sr fun Z z => ?_
 simp [row_map, encPg]
 refine z _ ?_
 clear z Z
 refine AT_seq_k fun K3 hK3 => ?_
 refine AT_cond (g := none) rfl (fun hb15 => ?_) (fun hb15 => ?_)
 simp [row_map, encPg] at hb15
 refine AT_skip ?_
 simp only [nrm, reduceIte, Nat.reduceEqDiff]
 refine hK3 _ ?_
 refine AT_seq_k fun K4 hK4 => ?_
 refine AT_block ?_
 refine sr fun Z z => ?_
 have hk9 : k < (tysP p).length := by omega
 have hda := List.drop_eq_getElem_cons hk9
 have hm9 := wts_mem (l := tysP p) (t := (tysP p)[k]) (by simp)
 simp [row_map, encPg, hb15]
 refine z _ ?_
 clear z Z
 refine AT_region_q fun Z z => ?_
 simp [row_map, encPg, hb15]
 refine RVn_call (c_types_Depth g rnd (tysP p)[k] (by omega)) ?_
 simp [row_map, encPg, hb15]
 refine z _ ?_
 clear z Z
 refine hK4 _ ?_
 refine AT_region_q fun Z z => ?_
 simp [row_map, encPg, hb15]
 repeat refine sg ?_
 refine z _ ?_
 clear z Z
 simp only [nrm, reduceIte, Nat.reduceEqDiff]
 refine hK2 _ (by first | rfl | simp) ((tysP p).length - (k+1)) (by omega) ?_
 refine ⟨k+1, max M (dep (tysP p)[k]), by omega, by rw [← hM, hda]; rfl, by omega, ?_⟩
 simp [encPg]
 try (split <;> omega)
 simp [row_map, encPg] at hb15
 refine AT_exit ?_
 simp only [nrm, reduceIte, Nat.reduceEqDiff]
 refine hK1 _ ?_
 refine AT_seq_k fun K5 hK5 => ?_
 refine sr fun Z z => ?_
 have hMd : mxD M p.decls = dpP p := by rw [dpP, ← hM, List.drop_eq_nil_of_le (by omega)]; rfl
 simp [row_map, encPg, hb15]
 refine z _ ?_
 clear z Z
 refine AT_block ?_
 refine AT_loop_q [1,3,24,25,26] [1] (fun j s => ∃ k N, k ≤ p.decls.length ∧ mxD N (p.decls.drop k) = dpP p ∧ j = p.decls.length - k ∧ s = { n := 40, tm := [(1, .lp 1 0), (3, .v (.int .i64 (N : Nat)) none), (24, .v (.slice (p.decls.map encD)) none), (25, .v (.int .i64 p.decls.length) none), (26, .v (.int .i64 k) none)], bx := [(1, encPg p)], tb := [], sh := [], hint := [] }) (p.decls.length) (by first | rfl | simp) ?_ ?_
 exact ⟨0, M, by simp [encPg, hMd]⟩
 rintro j s ⟨k, N, hk, hN, rfl, rfl⟩ K6 hK6
 refine sr fun Z z => ?_
 simp [row_map, encPg, hb15]
 refine z _ ?_
 clear z Z
 refine AT_seq_k fun K7 hK7 => ?_
 refine AT_cond (g := none) rfl (fun hb27 => ?_) (fun hb27 => ?_)
 simp [row_map, encPg, hb15] at hb27
 refine AT_skip ?_
 simp only [nrm, reduceIte, Nat.reduceEqDiff]
 refine hK7 _ ?_
 refine AT_seq_k fun K8 hK8 => ?_
 refine AT_block ?_
 refine sr fun Z z => ?_
 have hk9 : k < p.decls.length := by omega
 have hdb := List.drop_eq_getElem_cons hk9
 have hwd := wtDs_mem (l := p.decls) (f := p.decls[k]) (by simp)
 have hwd2 : wtD p.decls[k] = p.decls[k].name.length + 1 + wtFs p.decls[k].fms + wtFs p.decls[k].flds + wtGs p.decls[k].sigs + p.decls[k].recv.length + wtSs p.decls[k].vars + wtG p.decls[k].sig + wtE p.decls[k].body := rfl
 simp [row_map, encPg, encD, hb15, hb27]
 refine z _ ?_
 clear z Z
 cases h3 : (p.decls[k].kind == 3)
 refine sr fun Z z => ?_
 simp [row_map, encPg, encD, hb15, hb27, h3]
 refine z _ ?_
 clear z Z
 refine AT_cond (b := false) (g := none) (by simp [hb15, hb27, h3]) (fun hb => ?_) (fun hb => ?_)
 cases hb
 clear hb
 refine AT_skip ?_
 refine hK8 _ ?_
 refine AT_region_q fun Z z => ?_
 simp [row_map, encPg, hb15, hb27, h3]
 repeat refine sg ?_
 refine z _ ?_
 clear z Z
 simp only [nrm, reduceIte, Nat.reduceEqDiff]
 refine hK6 _ (by first | rfl | simp) (p.decls.length - (k+1)) (by omega) ?_
 (· refine ⟨k+1, N, by omega, by rw [← hN, hdb, mxD, if_neg (by rw [h3]; exact Bool.false_ne_true)], by omega, ?_⟩
    simp [encPg])
 refine sr fun Z z => ?_
 simp [row_map, encPg, encD, hb15, hb27, h3]
 refine z _ ?_
 clear z Z
 refine AT_cond (b := true) (g := none) (by simp [hb15, hb27, h3]) (fun hb => ?_) (fun hb => ?_)
 clear hb
 refine AT_region_q fun Z z => ?_
 simp [row_map, encPg, encD, hb15, hb27, h3]
 refine RVn_call ((by have h := c_expr_Depth g rnd p.decls[k].body (by omega); simp only [encE_def] at h; exact h)) ?_
 simp [row_map, encPg, encD, hb15, hb27, h3]
 refine z _ ?_
 clear z Z
 refine hK8 _ ?_
 refine AT_region_q fun Z z => ?_
 simp [row_map, encPg, hb15, hb27, h3]
 repeat refine sg ?_
 refine z _ ?_
 clear z Z
 simp only [nrm, reduceIte, Nat.reduceEqDiff]
 refine hK6 _ (by first | rfl | simp) (p.decls.length - (k+1)) (by omega) ?_
 (refine ⟨k+1, max N (depE p.decls[k].body), by omega, by rw [← hN, hdb, mxD, if_pos h3], by omega, ?_⟩
  simp [encPg]
  try (split <;> omega))
 cases hb
 simp [row_map, encPg, hb15] at hb27
 refine AT_exit ?_
 simp only [nrm, reduceIte, Nat.reduceEqDiff]
 refine hK5 _ ?_
 refine sr fun Z z => ?_
 simp [row_map, encPg, hb15, hb27]
 refine z _ ?_
 clear z Z
 refine AT_ret ?_
 simp [row_map, encPg, Tryz.f19]
 rw [List.drop_eq_nil_of_le (by omega)] at hN
 rw [← hN]; rfl

theorem c_decl_Plain_1 (s : Sg) (hl : s.fms.length ≤ 1000000000) : Valid Tryz.prog (G0 g rnd) 68 [.agg (encG s)] (.bool (bareS s)) := by

 refine valid_of [] Tryz.func68 rfl (by kernel_rfl) ?_
 refine sr fun Z z => ?_
 simp [encG, Tryz.f68]
 refine z _ ?_
 clear z Z
 refine sr fun Z z => ?_
 simp [encG]
 refine z _ ?_
 clear z Z
 refine AT_ret ?_
 simp [encG, Tryz.f68]
 rw [len_is0]; rfl

theorem c_decl_Plain_2_z (e : Exp) (hw : wtE e ≤ 1000000000) : Valid Tryz.prog (G0 g false) 69 [.agg (encE e)] (.bool (bareE e)) := by

 refine valid_of [] Tryz.func69 rfl (by kernel_rfl) ?_
 refine sr fun Z z => ?_
 simp [encE_mk, Tryz.f69]
 refine z _ ?_
 clear z Z
 refine AT_seq_k fun K1 hK1 => ?_
 refine sr fun Z z => ?_
 simp [encE_mk]
 refine RVn_call (c_expr_All g false e) ?_
 simp [encE_mk]
 refine z _ ?_
 clear z Z
 refine AT_block ?_
 refine AT_keep [2,5] [2] (by first | rfl | simp) ?_
 refine AT_rangeFunc rfl rfl (by first | rfl | simp) (by first | decide | simp) [2] (by decide) (elP ((lstE e).map avE)) (goE bareX) (feedG (goE bareX) [] ((lstE e).map avE)) (fun Y hP hgo hel => ⟨_, by have h := c_expr_All_1 g Y hP e hw [] (elOk_P hel _ _ (by simp)); rw [feed_G, hgo] at h; exact h⟩) (fun s => { n := 11, tm := [(2, .lp 2 0), (5, .v (.func 108 [.ro (encE e)]) none)], bx := [(2, [.bool false])], tb := [], sh := [], hint := [] }) (by first | rfl | simp) ?_ ?_
 intro s x hel
 obtain ⟨x, rfl, hn⟩ := elP_exp hel
 obtain ⟨kx, nx, tx, ax, lx, px⟩ := x
 refine AT_region_q fun Z z => ?_
 simp [encE_mk]
 refine z _ ?_
 clear z Z
 simp only [nrm, reduceIte, Nat.reduceEqDiff]
 refine AT_block ?_
 refine sr fun Z z => ?_
 simp [encE_mk]
 refine z _ ?_
 clear z Z
 refine AT_cond (g := none) rfl (fun hb10 => ?_) (fun hb10 => ?_)
 simp [encE_mk] at hb10
 refine sr fun Z z => ?_
 simp [encE_mk, hb10]
 refine z _ ?_
 clear z Z
 refine AT_ret ?_
 refine ⟨by rw [goE_at, bareX_mk]; exact ne0 hb10, by first | rfl | simp [tmOk], [2], by first | rfl | simp, ?_⟩
 refine AT_ret ?_
 simp [encE_mk, Tryz.f69]
 (· have hz : bareE e = false := by rw [bareE_all, List.all_eq_false]; exact ⟨_, hn, by rw [bareX_mk, ne0 hb10]; exact Bool.false_ne_true⟩
    simp [hz, AS.out])
 simp [encE_mk] at hb10
 refine AT_skip ?_
 refine ⟨by rw [goE_at, bareX_mk]; simpa using hb10, by first | rfl | simp [tmOk], [2], by first | rfl | simp, ?_⟩
 simp [AS.out]
 intro hfin
 rw [feedG_goE, ← bareE_all] at hfin
 simp only [nrm, reduceIte, Nat.reduceEqDiff]
 refine hK1 _ ?_
 refine sr fun Z z => ?_
 simp [encE_mk]
 refine z _ ?_
 clear z Z
 refine AT_ret ?_
 simp [encE_mk, Tryz.f69]
 (· simp [hfin])

theorem c_decl_Plain_2 (e : Exp) (hw : wtE e ≤ 1000000000) : Valid Tryz.prog (G0 g rnd) 69 [.agg (encE e)] (.bool (bareE e)) := (c_decl_Plain_2_z g e hw).gl rfl

theorem c_decl_Plain_3 (a : Dc) (hw : wtD a ≤ 1000000000) : Valid Tryz.prog (G0 g rnd) 72 ([.agg (encD a)] ++ [.ro [.func 68 []], .ro [.func 69 []]]) (.bool (plainD a)) := by
 have hw2 : a.name.length + 1 + wtFs a.fms + wtFs a.flds + wtGs a.sigs + a.recv.length + wtSs a.vars + wtG a.sig + wtE a.body ≤ 1000000000 := hw
 have hl1 := wtFs_len a.sig.fms
 have hw3 : wtG a.sig = a.sig.name.length + 1 + wtFs a.sig.fms + wtFs a.sig.pms + wt a.sig.res := rfl
 refine valid_of [] Tryz.func72 rfl (by kernel_rfl) ?_
 refine sr fun Z z => ?_
 simp [encD, len_is0, Tryz.f72]
 refine z _ ?_
 clear z Z
 cases h1 : (a.fms.isEmpty)
 refine sr fun Z z => ?_
 simp [encD, len_is0, h1]
 refine z _ ?_
 clear z Z
 refine AT_ret ?_
 simp [encD, len_is0, Tryz.f72]
 (· simp [plainD, h1])
 cases h2 : (a.vars.isEmpty)
 refine sr fun Z z => ?_
 simp [encD, len_is0, h1, h2]
 refine z _ ?_
 clear z Z
 refine AT_ret ?_
 simp [encD, len_is0, Tryz.f72]
 (· simp [plainD, h1, h2])
 cases h3 : (a.sigs.all bareS)
 refine sr fun Z z => ?_
 simp [encD, len_is0, h1, h2, h3]
 refine RVn_call (c_decl_every_api_Sig g rnd 68 [] bareS a.sigs (by have := wtGs_len a.sigs; omega) (fun x hx => c_decl_Plain_1 g rnd x (by have h1 := wtGs_mem hx; have h2 := wtFs_len x.fms; unfold wtG at h1; omega))) ?_
 simp [encD, len_is0, h1, h2, h3]
 repeat refine sg ?_
 refine z _ ?_
 clear z Z
 refine AT_ret ?_
 simp [encD, len_is0, Tryz.f72]
 (· simp [plainD, h1, h2, h3])
 cases h4 : (bareS a.sig)
 refine sr fun Z z => ?_
 simp [encD, len_is0, h1, h2, h3, h4]
 refine RVn_call (c_decl_every_api_Sig g rnd 68 [] bareS a.sigs (by have := wtGs_len a.sigs; omega) (fun x hx => c_decl_Plain_1 g rnd x (by have h1 := wtGs_mem hx; have h2 := wtFs_len x.fms; unfold wtG at h1; omega))) ?_
 simp [encD, len_is0, h1, h2, h3, h4]
 repeat refine sg ?_
 refine RVn_call ((by have h := c_decl_Plain_1 g rnd a.sig (by omega); simp only [encG] at h; exact h)) ?_
 simp [encD, len_is0, h1, h2, h3, h4]
 repeat refine sg ?_
 refine z _ ?_
 clear z Z
 refine AT_ret ?_
 simp [encD, len_is0, Tryz.f72]
 (· simp [plainD, h1, h2, h3, h4])
 refine sr fun Z z => ?_
 simp [encD, len_is0, h1, h2, h3, h4]
 refine RVn_call (c_decl_every_api_Sig g rnd 68 [] bareS a.sigs (by have := wtGs_len a.sigs; omega) (fun x hx => c_decl_Plain_1 g rnd x (by have h1 := wtGs_mem hx; have h2 := wtFs_len x.fms; unfold wtG at h1; omega))) ?_
 simp [encD, len_is0, h1, h2, h3, h4]
 repeat refine sg ?_
 refine RVn_call ((by have h := c_decl_Plain_1 g rnd a.sig (by omega); simp only [encG] at h; exact h)) ?_
 simp [encD, len_is0, h1, h2, h3, h4]
 repeat refine sg ?_
 refine RVn_call ((by have h := c_decl_Plain_2 g rnd a.body (by omega); simp only [encE_def] at h; exact h)) ?_
 simp [encD, len_is0, h1, h2, h3, h4]
 repeat refine sg ?_
 refine z _ ?_
 clear z Z
 refine AT_ret ?_
 simp [encD, len_is0, Tryz.f72]
 (· simp [plainD, h1, h2, h3, h4])

theorem c_decl_Plain (p : Pg) (hw : wtPg p ≤ 400000000) : Valid Tryz.prog (G0 g rnd) 21 [.agg (encPg p)] (.bool (plainP p)) := by
 have hw2 : wtDs p.decls + wtE p.main ≤ 400000000 := hw
 have hwt := wts_tysP p
 have hlt := wts_len (tysP p)
 have hlD := wtDs_len p.decls
 refine valid_of [] Tryz.func21 rfl (by kernel_rfl) ?_
 refine sr fun Z z => ?_
 simp [row_map, encPg, Tryz.f21]
 refine z _ ?_
 clear z Z
 refine AT_seq_k fun K1 hK1 => ?_
 refine sr fun Z z => ?_
 simp [row_map, encPg]
 refine RVn_call ((by have h := c_decl_Types g rnd p hw; simp only [encPg] at h; exact h)) ?_
 simp [row_map, encPg]
 refine z _ ?_
 clear z Z
 refine AT_block ?_
 refine AT_loop_q [1,8,9,10] [1] (fun j s => ∃ k, k ≤ (tysP p).length ∧ (tysP p).all flatTy = ((tysP p).drop k).all flatTy ∧ j = (tysP p).length - k ∧ s = { n := 29, tm := [(1, .lp 1 0), (8, .v (.slice ((tysP p).map encTy)) none), (9, .v (.int .i64 (tysP p).length) none), (10, .v (.int .i64 k) none)], bx := [(1, encPg p)], tb := [], sh := [], hint := [] }) ((tysP p).length) (by first | rfl | simp) ?_ ?_
 exact ⟨0, by simp [encPg]⟩
 rintro j s ⟨k, hk, hc, rfl, rfl⟩ K2 hK2
 refine sr fun Z z => ?_
 simp [row_map, encPg]
 refine z _ ?_
 clear z Z
 refine AT_seq_k fun K3 hK3 => ?_
 refine AT_cond (g := none) rfl (fun hb11 => ?_) (fun hb11 => ?_)
 simp [row_map, encPg] at hb11
 refine AT_skip ?_
 simp only [nrm, reduceIte, Nat.reduceEqDiff]
 refine hK3 _ ?_
 refine AT_seq_k fun K4 hK4 => ?_
 refine AT_block ?_
 refine sr fun Z z => ?_
 have hk9 : k < (tysP p).length := by omega
 have hda := List.drop_eq_getElem_cons hk9
 simp [row_map, encPg, hb11]
 refine z _ ?_
 clear z Z
 refine sr fun Z z => ?_
 generalize (tysP p)[k] = x at hda ⊢
 obtain ⟨tn, tas, tp⟩ := x
 simp [row_map, encPg, encTy_mk, hb11]
 refine z _ ?_
 clear z Z
 refine AT_cond (g := none) rfl (fun hb17 => ?_) (fun hb17 => ?_)
 simp [row_map, encPg, hb11] at hb17
 refine sr fun Z z => ?_
 simp [row_map, encPg, hb11, hb17]
 refine z _ ?_
 clear z Z
 refine AT_ret ?_
 simp [row_map, encPg, Tryz.f21]
 (rw [plainP_eq, hc, hda, List.all_cons, flatTy_mk, ne0 hb17]; rfl)
 simp [row_map, encPg, hb11] at hb17
 refine AT_skip ?_
 refine hK4 _ ?_
 refine AT_region_q fun Z z => ?_
 simp [row_map, encPg, hb11, hb17]
 repeat refine sg ?_
 refine z _ ?_
 clear z Z
 simp only [nrm, reduceIte, Nat.reduceEqDiff]
 refine hK2 _ (by first | rfl | simp) ((tysP p).length - (k+1)) (by omega) ?_
 refine ⟨k+1, by omega, ?_, by omega, by simp [encPg]⟩
 rw [hc, hda, List.all_cons, flatTy_mk]; simp [hb17]
 simp [row_map, encPg] at hb11
 refine AT_exit ?_
 simp only [nrm, reduceIte, Nat.reduceEqDiff]
 refine hK1 _ ?_
 refine sr fun Z z => ?_
 have hT : (tysP p).all flatTy = true := by rw [hc, List.drop_eq_nil_of_le (by omega)]; rfl
 simp [row_map, encPg, hb11]
 refine z _ ?_
 clear z Z
 refine sr fun Z z => ?_
 simp [row_map, encPg, hb11]
 refine z _ ?_
 clear z Z
 cases h1 : (bareE p.main)
 refine AT_freeze 5 rfl (by simp) (noClP_of (by simp)) rfl ?_
 simp only [AS.frz, TV.frz, List.map_cons, List.map_nil]
 simp
 refine AT_freeze 6 rfl (by simp) (noClP_of (by simp)) rfl ?_
 simp
 refine sr fun Z z => ?_
 simp [row_map, encPg, hb11, h1]
 refine RVn_call ((by have h := c_decl_Plain_2 g rnd p.main (by omega); simp only [encE_def] at h; exact h)) ?_
 simp [row_map, encPg, hb11, h1]
 repeat refine sg ?_
 refine z _ ?_
 clear z Z
 refine AT_ret ?_
 simp [row_map, encPg, Tryz.f21]
 (· rw [plainP_eq, hT, h1]; simp)
 refine AT_freeze 5 rfl (by simp) (noClP_of (by simp)) rfl ?_
 simp only [AS.frz, TV.frz, List.map_cons, List.map_nil]
 simp
 refine AT_freeze 6 rfl (by simp) (noClP_of (by simp)) rfl ?_
 simp
 refine sr fun Z z => ?_
 simp [row_map, encPg, hb11, h1]
 refine RVn_call ((by have h := c_decl_Plain_2 g rnd p.main (by omega); simp only [encE_def] at h; exact h)) ?_
 simp [row_map, encPg, hb11, h1]
 repeat refine sg ?_
 refine RVn_call (c_decl_every_api_Decl g rnd 72 [.ro [.func 68 []], .ro [.func 69 []]] plainD p.decls (by omega) (fun x hx => c_decl_Plain_3 g rnd x (by have := wtDs_mem hx; omega))) ?_
 simp [row_map, encPg, hb11, h1]
 repeat refine sg ?_
 refine z _ ?_
 clear z Z
 refine AT_ret ?_
 simp [row_map, encPg, Tryz.f21]
 (· rw [plainP_eq, hT, h1]; simp)

end Go.Proofs.YtdifpfehijnmiaaGreatDoor
end

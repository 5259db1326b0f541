import Derived.Test.YtdifpfehijnmiaaGreatDoorPt
import Derived.Test.YtdifpfehijnmiaaGreatDoorPvPb
import Derived.Test.YtdifpfehijnmiaaGreatDoorPvY
import Derived.Test.YtdifpfehijnmiaaGreatDoorXDcN
import Derived.Test.YtdifpfehijnmiaaGreatDoorXExE
import Derived.Test.YtdifpfehijnmiaaGreatDoorPvP
import Derived.Test.YtdifpfehijnmiaaGreatDoorXDcE
import Derived.Test.YtdifpfehijnmiaaGreatDoorXDcK
import Derived.Test.YtdifpfehijnmiaaGreatDoorPvOf
import Derived.Test.YtdifpfehijnmiaaGreatDoorXTyE
import Derived.Test.YtdifpfehijnmiaaGreatDoorXExD
section
/- Contracts: depth, plain. -/
set_option linter.all false
set_option maxHeartbeats 1000000
set_option maxRecDepth 10000
namespace Go.Proofs.YtdifpfehijnmiaaGreatDoor
open Go Go.Pv
variable (g : Nat → Option (List AV)) (rnd : Bool)

theorem c_decl_Depth (p : Pg) (hw : wtPg p ≤ 400000000) : Valid Tryz.prog (G0 g rnd) 19 [.agg (encPg p)] (.int .i64 (dpP p)) := by
 have hw2 : wtDs p.decls + wtE p.main ≤ 400000000 := hw
 have hwt := wts_tysP p
 have hlt := wts_len (tysP p)
 have hlD := wtDs_len p.decls
 refine valid_of [] Tryz.func19 rfl (by kernel_rfl) ?_
 refine sr fun Z z => ?_
 simp [row_map, encPg, Tryz.f19]
 refine z _ ?_
 clear z Z
 refine sr fun Z z => ?_
 simp [row_map, encPg]
 refine RVn_call ((by have h := c_expr_Depth g rnd p.main (by omega); simp only [encE_def] at h; exact h)) ?_
 simp [row_map, encPg]
 refine z _ ?_
 clear z Z
 refine AT_seq_k fun K1 hK1 => ?_
 refine sr fun Z z => ?_
 simp [row_map, encPg]
 refine RVn_call ((by have h := c_decl_Types g rnd p hw; simp only [encPg] at h; exact h)) ?_
 simp [row_map, encPg]
 refine z _ ?_
 clear z Z
 refine AT_block ?_
 refine AT_loop_q [1,3,12,13,14] [1] (fun j s => ∃ k M, k ≤ (tysP p).length ∧ mxT M ((tysP p).drop k) = mxT (depE p.main) (tysP p) ∧ j = (tysP p).length - k ∧ s = { n := 40, tm := [(1, .lp 1 0), (3, .v (.int .i64 (M : Nat)) none), (12, .v (.slice ((tysP p).map encTy)) none), (13, .v (.int .i64 (tysP p).length) none), (14, .v (.int .i64 k) none)], bx := [(1, encPg p)], tb := [], sh := [], hint := [] }) ((tysP p).length) (by first | rfl | simp) ?_ ?_
 exact ⟨0, depE p.main, by simp [encPg]⟩
 rintro j s ⟨k, M, hk, hM, rfl, rfl⟩ K2 hK2
 refine sr fun Z z => ?_
 simp [row_map, encPg]
 refine z _ ?_
 clear z Z
 refine AT_seq_k fun K3 hK3 => ?_
 refine AT_cond (g := none) rfl (fun hb15 => ?_) (fun hb15 => ?_)
 simp [row_map, encPg] at hb15
 refine AT_skip ?_
 refine hK3 _ ?_
 refine AT_seq_k fun K4 hK4 => ?_
 refine AT_block ?_
 refine sr fun Z z => ?_
 have hk9 : k < (tysP p).length := by omega
 have hda := List.drop_eq_getElem_cons hk9
 have hm9 := wts_mem (l := tysP p) (t := (tysP p)[k]) (by simp)
 simp [row_map, encPg, hb15]
 refine z _ ?_
 clear z Z
 refine AT_region_q fun Z z => ?_
 simp [row_map, encPg, hb15]
 refine RVn_call (c_types_Depth g rnd (tysP p)[k] (by omega)) ?_
 simp [row_map, encPg, hb15]
 refine z _ ?_
 clear z Z
 refine hK4 _ ?_
 refine AT_region_q fun Z z => ?_
 simp [row_map, encPg, hb15]
 repeat refine sg ?_
 refine z _ ?_
 clear z Z
 refine hK2 _ (by first | rfl | simp) ((tysP p).length - (k+1)) (by omega) ?_
 refine ⟨k+1, max M (dep (tysP p)[k]), by omega, by rw [← hM, hda]; rfl, by omega, ?_⟩
 simp [encPg]
 try (split <;> omega)
 simp [row_map, encPg] at hb15
 refine AT_exit ?_
 refine hK1 _ ?_
 refine AT_seq_k fun K5 hK5 => ?_
 refine sr fun Z z => ?_
 have hMd : mxD M p.decls = dpP p := by rw [dpP, ← hM, List.drop_eq_nil_of_le (by omega)]; rfl
 simp [row_map, encPg, hb15]
 refine z _ ?_
 clear z Z
 refine AT_block ?_
 refine AT_loop_q [1,3,24,25,26] [1] (fun j s => ∃ k N, k ≤ p.decls.length ∧ mxD N (p.decls.drop k) = dpP p ∧ j = p.decls.length - k ∧ s = { n := 40, tm := [(1, .lp 1 0), (3, .v (.int .i64 (N : Nat)) none), (24, .v (.slice (p.decls.map encD)) none), (25, .v (.int .i64 p.decls.length) none), (26, .v (.int .i64 k) none)], bx := [(1, encPg p)], tb := [], sh := [], hint := [] }) (p.decls.length) (by first | rfl | simp) ?_ ?_
 exact ⟨0, M, by simp [encPg, hMd]⟩
 rintro j s ⟨k, N, hk, hN, rfl, rfl⟩ K6 hK6
 refine sr fun Z z => ?_
 simp [row_map, encPg, hb15]
 refine z _ ?_
 clear z Z
 refine AT_seq_k fun K7 hK7 => ?_
 refine AT_cond (g := none) rfl (fun hb27 => ?_) (fun hb27 => ?_)
 simp [row_map, encPg, hb15] at hb27
 refine AT_skip ?_
 refine hK7 _ ?_
 refine AT_seq_k fun K8 hK8 => ?_
 refine AT_block ?_
 refine sr fun Z z => ?_
 have hk9 : k < p.decls.length := by omega
 have hdb := List.drop_eq_getElem_cons hk9
 have hwd := wtDs_mem (l := p.decls) (f := p.decls[k]) (by simp)
 have hwd2 : wtD p.decls[k] = p.decls[k].name.length + 1 + wtFs p.decls[k].fms + wtFs p.decls[k].flds + wtGs p.decls[k].sigs + p.decls[k].recv.length + wtSs p.decls[k].vars + wtG p.decls[k].sig + wtE p.decls[k].body := rfl
 simp [row_map, encPg, encD, hb15, hb27]
 refine z _ ?_
 clear z Z
 cases h3 : (p.decls[k].kind == 3)
 refine sr fun Z z => ?_
 simp [row_map, encPg, encD, hb15, hb27, h3]
 refine z _ ?_
 clear z Z
 refine cF (by simp [hb15, hb27, h3]) ?_
 refine AT_skip ?_
 refine hK8 _ ?_
 refine AT_region_q fun Z z => ?_
 simp [row_map, encPg, hb15, hb27, h3]
 repeat refine sg ?_
 refine z _ ?_
 clear z Z
 refine hK6 _ (by first | rfl | simp) (p.decls.length - (k+1)) (by omega) ?_
 (· refine ⟨k+1, N, by omega, by rw [← hN, hdb, mxD, if_neg (by rw [h3]; exact Bool.false_ne_true)], by omega, ?_⟩
    simp [encPg])
 refine sr fun Z z => ?_
 simp [row_map, encPg, encD, hb15, hb27, h3]
 refine z _ ?_
 clear z Z
 refine cT (by simp [hb15, hb27, h3]) ?_
 refine AT_region_q fun Z z => ?_
 simp [row_map, encPg, encD, hb15, hb27, h3]
 refine RVn_call ((by have h := c_expr_Depth g rnd p.decls[k].body (by omega); simp only [encE_def] at h; exact h)) ?_
 simp [row_map, encPg, encD, hb15, hb27, h3]
 refine z _ ?_
 clear z Z
 refine hK8 _ ?_
 refine AT_region_q fun Z z => ?_
 simp [row_map, encPg, hb15, hb27, h3]
 repeat refine sg ?_
 refine z _ ?_
 clear z Z
 refine hK6 _ (by first | rfl | simp) (p.decls.length - (k+1)) (by omega) ?_
 (refine ⟨k+1, max N (depE p.decls[k].body), by omega, by rw [← hN, hdb, mxD, if_pos h3], by omega, ?_⟩
  simp [encPg]
  try (split <;> omega))
 simp [row_map, encPg, hb15] at hb27
 refine AT_exit ?_
 refine hK5 _ ?_
 refine sr fun Z z => ?_
 simp [row_map, encPg, hb15, hb27]
 refine z _ ?_
 clear z Z
 refine AT_ret ?_
 simp [row_map, encPg, Tryz.f19]
 rw [List.drop_eq_nil_of_le (by omega)] at hN
 rw [← hN]; rfl

theorem c_decl_Plain_1 (s : Sg) (hl : s.fms.length ≤ 1000000000) : Valid Tryz.prog (G0 g rnd) 68 [.agg (encG s)] (.bool (bareS s)) := by

 refine valid_of [] Tryz.func68 rfl (by kernel_rfl) ?_
 refine sr fun Z z => ?_
 simp [encG, Tryz.f68]
 refine z _ ?_
 clear z Z
 refine sr fun Z z => ?_
 simp [encG]
 refine z _ ?_
 clear z Z
 refine AT_ret ?_
 simp [encG, Tryz.f68]
 rw [len_is0]; rfl

theorem c_decl_Plain_2_z (e : Exp) (hw : wtE e ≤ 1000000000) : Valid Tryz.prog (G0 g false) 69 [.agg (encE e)] (.bool (bareE e)) := by

 refine valid_of [] Tryz.func69 rfl (by kernel_rfl) ?_
 refine sr fun Z z => ?_
 simp [encE_mk, Tryz.f69]
 refine z _ ?_
 clear z Z
 refine AT_seq_k fun K1 hK1 => ?_
 refine sr fun Z z => ?_
 simp [encE_mk]
 refine RVn_call (c_expr_All g false e) ?_
 simp [encE_mk]
 refine z _ ?_
 clear z Z
 refine AT_block ?_
 refine AT_keep [2,5] [2] (by first | rfl | simp) ?_
 refine AT_rangeFunc rfl rfl (by first | rfl | simp) (by first | decide | simp) [2] (by decide) (elP ((lstE e).map avE)) (goE bareX) (feedG (goE bareX) [] ((lstE e).map avE)) (fun Y hP hgo hel => ⟨_, by have h := c_expr_All_1 g Y hP e hw [] (elOk_P hel _ _ (by simp)); rw [feed_G, hgo] at h; exact h⟩) (fun s => { n := 11, tm := [(2, .lp 2 0), (5, .v (.func 108 [.ro (encE e)]) none)], bx := [(2, [.bool false])], tb := [], sh := [], hint := [] }) (by first | rfl | simp) ?_ ?_
 intro s x hel
 obtain ⟨x, rfl, hn⟩ := elP_exp hel
 obtain ⟨kx, nx, tx, ax, lx, px⟩ := x
 refine AT_region_q fun Z z => ?_
 simp [encE_mk]
 refine z _ ?_
 clear z Z
 refine AT_block ?_
 refine sr fun Z z => ?_
 simp [encE_mk]
 refine z _ ?_
 clear z Z
 refine AT_cond (g := none) rfl (fun hb10 => ?_) (fun hb10 => ?_)
 simp [encE_mk] at hb10
 refine sr fun Z z => ?_
 simp [encE_mk, hb10]
 refine z _ ?_
 clear z Z
 refine AT_ret ?_
 refine ⟨by rw [goE_at, bareX_mk]; exact ne0 hb10, by first | rfl | simp [tmOk], [2], by first | rfl | simp, ?_⟩
 refine AT_ret ?_
 simp [encE_mk, Tryz.f69]
 (· have hz : bareE e = false := by rw [bareE_all, List.all_eq_false]; exact ⟨_, hn, by rw [bareX_mk, ne0 hb10]; exact Bool.false_ne_true⟩
    simp [hz, AS.out])
 simp [encE_mk] at hb10
 refine AT_skip ?_
 refine ⟨by rw [goE_at, bareX_mk]; simpa using hb10, by first | rfl | simp [tmOk], [2], by first | rfl | simp, ?_⟩
 simp [AS.out]
 intro hfin
 rw [feedG_goE, ← bareE_all] at hfin
 refine hK1 _ ?_
 refine sr fun Z z => ?_
 simp [encE_mk]
 refine z _ ?_
 clear z Z
 refine AT_ret ?_
 simp [encE_mk, Tryz.f69]
 (· simp [hfin])

theorem c_decl_Plain_2 (e : Exp) (hw : wtE e ≤ 1000000000) : Valid Tryz.prog (G0 g rnd) 69 [.agg (encE e)] (.bool (bareE e)) := (c_decl_Plain_2_z g e hw).gl rfl

theorem c_decl_Plain_3 (a : Dc) (hw : wtD a ≤ 1000000000) : Valid Tryz.prog (G0 g rnd) 72 ([.agg (encD a)] ++ [.ro [.func 68 []], .ro [.func 69 []]]) (.bool (plainD a)) := by
 have hw2 : a.name.length + 1 + wtFs a.fms + wtFs a.flds + wtGs a.sigs + a.recv.length + wtSs a.vars + wtG a.sig + wtE a.body ≤ 1000000000 := hw
 have hl1 := wtFs_len a.sig.fms
 have hw3 : wtG a.sig = a.sig.name.length + 1 + wtFs a.sig.fms + wtFs a.sig.pms + wt a.sig.res := rfl
 refine valid_of [] Tryz.func72 rfl (by kernel_rfl) ?_
 refine sr fun Z z => ?_
 simp [encD, len_is0, Tryz.f72]
 refine z _ ?_
 clear z Z
 cases h1 : (a.fms.isEmpty)
 refine sr fun Z z => ?_
 simp [encD, len_is0, h1]
 refine z _ ?_
 clear z Z
 refine AT_ret ?_
 simp [encD, len_is0, Tryz.f72]
 (· simp [plainD, h1])
 cases h2 : (a.vars.isEmpty)
 refine sr fun Z z => ?_
 simp [encD, len_is0, h1, h2]
 refine z _ ?_
 clear z Z
 refine AT_ret ?_
 simp [encD, len_is0, Tryz.f72]
 (· simp [plainD, h1, h2])
 cases h3 : (a.sigs.all bareS)
 refine sr fun Z z => ?_
 simp [encD, len_is0, h1, h2, h3]
 refine RVn_call (c_decl_every_api_Sig g rnd 68 [] bareS a.sigs (by have := wtGs_len a.sigs; omega) (fun x hx => c_decl_Plain_1 g rnd x (by have h1 := wtGs_mem hx; have h2 := wtFs_len x.fms; unfold wtG at h1; omega))) ?_
 simp [encD, len_is0, h1, h2, h3]
 repeat refine sg ?_
 refine z _ ?_
 clear z Z
 refine AT_ret ?_
 simp [encD, len_is0, Tryz.f72]
 (· simp [plainD, h1, h2, h3])
 cases h4 : (bareS a.sig)
 refine sr fun Z z => ?_
 simp [encD, len_is0, h1, h2, h3, h4]
 refine RVn_call (c_decl_every_api_Sig g rnd 68 [] bareS a.sigs (by have := wtGs_len a.sigs; omega) (fun x hx => c_decl_Plain_1 g rnd x (by have h1 := wtGs_mem hx; have h2 := wtFs_len x.fms; unfold wtG at h1; omega))) ?_
 simp [encD, len_is0, h1, h2, h3, h4]
 repeat refine sg ?_
 refine RVn_call ((by have h := c_decl_Plain_1 g rnd a.sig (by omega); simp only [encG] at h; exact h)) ?_
 simp [encD, len_is0, h1, h2, h3, h4]
 repeat refine sg ?_
 refine z _ ?_
 clear z Z
 refine AT_ret ?_
 simp [encD, len_is0, Tryz.f72]
 (· simp [plainD, h1, h2, h3, h4])
 refine sr fun Z z => ?_
 simp [encD, len_is0, h1, h2, h3, h4]
 refine RVn_call (c_decl_every_api_Sig g rnd 68 [] bareS a.sigs (by have := wtGs_len a.sigs; omega) (fun x hx => c_decl_Plain_1 g rnd x (by have h1 := wtGs_mem hx; have h2 := wtFs_len x.fms; unfold wtG at h1; omega))) ?_
 simp [encD, len_is0, h1, h2, h3, h4]
 repeat refine sg ?_
 refine RVn_call ((by have h := c_decl_Plain_1 g rnd a.sig (by omega); simp only [encG] at h; exact h)) ?_
 simp [encD, len_is0, h1, h2, h3, h4]
 repeat refine sg ?_
 refine RVn_call ((by have h := c_decl_Plain_2 g rnd a.body (by omega); simp only [encE_def] at h; exact h)) ?_
 simp [encD, len_is0, h1, h2, h3, h4]
 repeat refine sg ?_
 refine z _ ?_
 clear z Z
 refine AT_ret ?_
 simp [encD, len_is0, Tryz.f72]
 (· simp [plainD, h1, h2, h3, h4])

theorem c_decl_Plain (p : Pg) (hw : wtPg p ≤ 400000000) : Valid Tryz.prog (G0 g rnd) 21 [.agg (encPg p)] (.bool (plainP p)) := by
 have hw2 : wtDs p.decls + wtE p.main ≤ 400000000 := hw
 have hwt := wts_tysP p
 have hlt := wts_len (tysP p)
 have hlD := wtDs_len p.decls
 refine valid_of [] Tryz.func21 rfl (by kernel_rfl) ?_
 refine sr fun Z z => ?_
 simp [row_map, encPg, Tryz.f21]
 refine z _ ?_
 clear z Z
 refine AT_seq_k fun K1 hK1 => ?_
 refine sr fun Z z => ?_
 simp [row_map, encPg]
 refine RVn_call ((by have h := c_decl_Types g rnd p hw; simp only [encPg] at h; exact h)) ?_
 simp [row_map, encPg]
 refine z _ ?_
 clear z Z
 refine AT_block ?_
 refine AT_loop_q [1,8,9,10] [1] (fun j s => ∃ k, k ≤ (tysP p).length ∧ (tysP p).all flatTy = ((tysP p).drop k).all flatTy ∧ j = (tysP p).length - k ∧ s = { n := 29, tm := [(1, .lp 1 0), (8, .v (.slice ((tysP p).map encTy)) none), (9, .v (.int .i64 (tysP p).length) none), (10, .v (.int .i64 k) none)], bx := [(1, encPg p)], tb := [], sh := [], hint := [] }) ((tysP p).length) (by first | rfl | simp) ?_ ?_
 exact ⟨0, by simp [encPg]⟩
 rintro j s ⟨k, hk, hc, rfl, rfl⟩ K2 hK2
 refine sr fun Z z => ?_
 simp [row_map, encPg]
 refine z _ ?_
 clear z Z
 refine AT_seq_k fun K3 hK3 => ?_
 refine AT_cond (g := none) rfl (fun hb11 => ?_) (fun hb11 => ?_)
 simp [row_map, encPg] at hb11
 refine AT_skip ?_
 refine hK3 _ ?_
 refine AT_seq_k fun K4 hK4 => ?_
 refine AT_block ?_
 refine sr fun Z z => ?_
 have hk9 : k < (tysP p).length := by omega
 have hda := List.drop_eq_getElem_cons hk9
 simp [row_map, encPg, hb11]
 refine z _ ?_
 clear z Z
 refine sr fun Z z => ?_
 generalize (tysP p)[k] = x at hda ⊢
 obtain ⟨tn, tas, tp⟩ := x
 simp [row_map, encPg, encTy_mk, hb11]
 refine z _ ?_
 clear z Z
 refine AT_cond (g := none) rfl (fun hb17 => ?_) (fun hb17 => ?_)
 simp [row_map, encPg, hb11] at hb17
 refine sr fun Z z => ?_
 simp [row_map, encPg, hb11, hb17]
 refine z _ ?_
 clear z Z
 refine AT_ret ?_
 simp [row_map, encPg, Tryz.f21]
 (rw [plainP_eq, hc, hda, List.all_cons, flatTy_mk, ne0 hb17]; rfl)
 simp [row_map, encPg, hb11] at hb17
 refine AT_skip ?_
 refine hK4 _ ?_
 refine AT_region_q fun Z z => ?_
 simp [row_map, encPg, hb11, hb17]
 repeat refine sg ?_
 refine z _ ?_
 clear z Z
 refine hK2 _ (by first | rfl | simp) ((tysP p).length - (k+1)) (by omega) ?_
 refine ⟨k+1, by omega, ?_, by omega, by simp [encPg]⟩
 rw [hc, hda, List.all_cons, flatTy_mk]; simp [hb17]
 simp [row_map, encPg] at hb11
 refine AT_exit ?_
 refine hK1 _ ?_
 refine sr fun Z z => ?_
 have hT : (tysP p).all flatTy = true := by rw [hc, List.drop_eq_nil_of_le (by omega)]; rfl
 simp [row_map, encPg, hb11]
 refine z _ ?_
 clear z Z
 refine sr fun Z z => ?_
 simp [row_map, encPg, hb11]
 refine z _ ?_
 clear z Z
 cases h1 : (bareE p.main)
 refine AT_freeze 5 rfl (by simp) (noClP_of (by simp)) rfl ?_
 simp only [AS.frz, TV.frz, List.map_cons, List.map_nil]
 simp
 refine AT_freeze 6 rfl (by simp) (noClP_of (by simp)) rfl ?_
 simp
 refine sr fun Z z => ?_
 simp [row_map, encPg, hb11, h1]
 refine RVn_call ((by have h := c_decl_Plain_2 g rnd p.main (by omega); simp only [encE_def] at h; exact h)) ?_
 simp [row_map, encPg, hb11, h1]
 repeat refine sg ?_
 refine z _ ?_
 clear z Z
 refine AT_ret ?_
 simp [row_map, encPg, Tryz.f21]
 (· rw [plainP_eq, hT, h1]; simp)
 refine AT_freeze 5 rfl (by simp) (noClP_of (by simp)) rfl ?_
 simp only [AS.frz, TV.frz, List.map_cons, List.map_nil]
 simp
 refine AT_freeze 6 rfl (by simp) (noClP_of (by simp)) rfl ?_
 simp
 refine sr fun Z z => ?_
 simp [row_map, encPg, hb11, h1]
 refine RVn_call ((by have h := c_decl_Plain_2 g rnd p.main (by omega); simp only [encE_def] at h; exact h)) ?_
 simp [row_map, encPg, hb11, h1]
 repeat refine sg ?_
 refine RVn_call (c_decl_every_api_Decl g rnd 72 [.ro [.func 68 []], .ro [.func 69 []]] plainD p.decls (by omega) (fun x hx => c_decl_Plain_3 g rnd x (by have := wtDs_mem hx; omega))) ?_
 simp [row_map, encPg, hb11, h1]
 repeat refine sg ?_
 refine z _ ?_
 clear z Z
 refine AT_ret ?_
 simp [row_map, encPg, Tryz.f21]
 (· rw [plainP_eq, hT, h1]; simp)

end Go.Proofs.YtdifpfehijnmiaaGreatDoor
end

section
/- Contracts: what every law of this package asks first. -/
set_option linter.all false
set_option maxHeartbeats 1000000
set_option maxRecDepth 10000
namespace Go.Proofs.YtdifpfehijnmiaaGreatDoor
open Go Go.Pv
variable (g : Nat → Option (List AV)) (rnd : Bool)

def awM : Exp := .mk 3 [] (.mk [84] [] 0) [] [] 0
def awD : Dc := ⟨1, [84], [⟨[97], .mk [65, 110, 121] [] 0, 0⟩], [], [], [], [], sg0, ex0, 0⟩
def awP : Pg := ⟨[], awM⟩
def awQ : Pg := ⟨[awD], awM⟩
theorem c_law06x_awake (hres : g 0 = some reservedA) : Valid Tryz.prog (G0 g rnd) 7 [] (.bool true) := by

 refine valid_of [] Tryz.func7 rfl (by kernel_rfl) ?_
 refine sr fun Z z => ?_
 simp [Tryz.f7]
 refine z _ ?_
 clear z Z
 refine sr fun Z z => ?_
 simp
 refine z _ ?_
 clear z Z
 refine sr fun Z z => ?_
 simp
 refine z _ ?_
 clear z Z
 refine sr fun Z z => ?_
 simp
 refine RVn_call ((by have h := c_decl_Types g rnd awP (by decide); exact h : Valid Tryz.prog (G0 g rnd) 16 [.agg [.slice [], .int .i64 3, .str [], .str [84], .slice [], .int .i64 0, .slice [], .slice [], .int .i64 0]] (.slice [[.str [84], .slice [], .int .i64 0]]))) ?_
 simp
 refine z _ ?_
 clear z Z
 refine AT_seq_draw Pt.mixed (by kernel_rfl) fun Z z => ?_
 simp
 refine RVdn_call ((by have h := c_decl_Right g rnd awQ (by decide) hres; exact h : Valid Tryz.prog (G0 g rnd) 25 [.agg [.slice [[.int .i64 1, .str [84], .slice [[.str [97], .str [65, 110, 121], .slice [], .int .i64 0, .int .i64 0]], .slice [], .slice [], .str [], .slice [], .str [], .slice [], .slice [], .str [], .slice [], .int .i64 0, .int .i64 0, .int .i64 0, .str [], .str [], .slice [], .int .i64 0, .slice [], .slice [], .int .i64 0, .int .i64 0]], .int .i64 3, .str [], .str [84], .slice [], .int .i64 0, .slice [], .slice [], .int .i64 0]] (.bool true))) ?_
 simp
 refine RVdn_call ((by have h := c_decl_Right g rnd ⟨[], ex0⟩ (by decide) hres; exact h : Valid Tryz.prog (G0 g rnd) 25 [.agg [.slice [], .int .i64 0, .str [], .str [], .slice [], .int .i64 0, .slice [], .slice [], .int .i64 0]] (.bool false))) ?_
 simp
 refine RVdn_call ((by have h := c_decl_Same g rnd awP awP (by decide); exact h : Valid Tryz.prog (G0 g rnd) 26 [.agg [.slice [], .int .i64 3, .str [], .str [84], .slice [], .int .i64 0, .slice [], .slice [], .int .i64 0], .agg [.slice [], .int .i64 3, .str [], .str [84], .slice [], .int .i64 0, .slice [], .slice [], .int .i64 0]] (.bool true))) ?_
 simp
 refine RVdn_call ((by have h := c_decl_Same g rnd awP awQ (by decide); exact h : Valid Tryz.prog (G0 g rnd) 26 [.agg [.slice [], .int .i64 3, .str [], .str [84], .slice [], .int .i64 0, .slice [], .slice [], .int .i64 0], .agg [.slice [[.int .i64 1, .str [84], .slice [[.str [97], .str [65, 110, 121], .slice [], .int .i64 0, .int .i64 0]], .slice [], .slice [], .str [], .slice [], .str [], .slice [], .slice [], .str [], .slice [], .int .i64 0, .int .i64 0, .int .i64 0, .str [], .str [], .slice [], .int .i64 0, .slice [], .slice [], .int .i64 0, .int .i64 0]], .int .i64 3, .str [], .str [84], .slice [], .int .i64 0, .slice [], .slice [], .int .i64 0]] (.bool false))) ?_
 simp
 refine RVdn_call ((by have h := c_decl_Plain g rnd awP (by decide); exact h : Valid Tryz.prog (G0 g rnd) 21 [.agg [.slice [], .int .i64 3, .str [], .str [84], .slice [], .int .i64 0, .slice [], .slice [], .int .i64 0]] (.bool true))) ?_
 simp
 refine RVdn_call ((by have h := c_decl_Plain g rnd awQ (by decide); exact h : Valid Tryz.prog (G0 g rnd) 21 [.agg [.slice [[.int .i64 1, .str [84], .slice [[.str [97], .str [65, 110, 121], .slice [], .int .i64 0, .int .i64 0]], .slice [], .slice [], .str [], .slice [], .str [], .slice [], .slice [], .str [], .slice [], .int .i64 0, .int .i64 0, .int .i64 0, .str [], .str [], .slice [], .int .i64 0, .slice [], .slice [], .int .i64 0, .int .i64 0]], .int .i64 3, .str [], .str [84], .slice [], .int .i64 0, .slice [], .slice [], .int .i64 0]] (.bool false))) ?_
 simp
 refine RVdn_call ((by have h := c_decl_Depth g rnd awP (by decide); exact h : Valid Tryz.prog (G0 g rnd) 19 [.agg [.slice [], .int .i64 3, .str [], .str [84], .slice [], .int .i64 0, .slice [], .slice [], .int .i64 0]] (.int .i64 2))) ?_
 simp
 refine RVdn_call ((by have h := c_decl_RightDecl g rnd awD (by decide) hres; exact h : Valid Tryz.prog (G0 g rnd) 9 [.agg [.int .i64 1, .str [84], .slice [[.str [97], .str [65, 110, 121], .slice [], .int .i64 0, .int .i64 0]], .slice [], .slice [], .str [], .slice [], .str [], .slice [], .slice [], .str [], .slice [], .int .i64 0, .int .i64 0, .int .i64 0, .str [], .str [], .slice [], .int .i64 0, .slice [], .slice [], .int .i64 0, .int .i64 0]] (.bool true))) ?_
 simp
 refine RVdn_call ((by have h := c_decl_SameDecl g rnd awD awD (by decide); exact h : Valid Tryz.prog (G0 g rnd) 11 [.agg [.int .i64 1, .str [84], .slice [[.str [97], .str [65, 110, 121], .slice [], .int .i64 0, .int .i64 0]], .slice [], .slice [], .str [], .slice [], .str [], .slice [], .slice [], .str [], .slice [], .int .i64 0, .int .i64 0, .int .i64 0, .str [], .str [], .slice [], .int .i64 0, .slice [], .slice [], .int .i64 0, .int .i64 0], .agg [.int .i64 1, .str [84], .slice [[.str [97], .str [65, 110, 121], .slice [], .int .i64 0, .int .i64 0]], .slice [], .slice [], .str [], .slice [], .str [], .slice [], .slice [], .str [], .slice [], .int .i64 0, .int .i64 0, .int .i64 0, .str [], .str [], .slice [], .int .i64 0, .slice [], .slice [], .int .i64 0, .int .i64 0]] (.bool true))) ?_
 simp
 refine RVdn_call ((by have h := c_decl_SameSig g rnd sg0 sg0 (by decide); exact h : Valid Tryz.prog (G0 g rnd) 13 [.agg [.str [], .slice [], .slice [], .str [], .slice [], .int .i64 0, .int .i64 0], .agg [.str [], .slice [], .slice [], .str [], .slice [], .int .i64 0, .int .i64 0]] (.bool true))) ?_
 simp
 refine RVdn_call ((by have h := c_decl_Clone g rnd awQ (by decide); exact h : Valid Tryz.prog (G0 g rnd) 23 [.agg [.slice [[.int .i64 1, .str [84], .slice [[.str [97], .str [65, 110, 121], .slice [], .int .i64 0, .int .i64 0]], .slice [], .slice [], .str [], .slice [], .str [], .slice [], .slice [], .str [], .slice [], .int .i64 0, .int .i64 0, .int .i64 0, .str [], .str [], .slice [], .int .i64 0, .slice [], .slice [], .int .i64 0, .int .i64 0]], .int .i64 3, .str [], .str [84], .slice [], .int .i64 0, .slice [], .slice [], .int .i64 0]] (.agg [.slice [[.int .i64 1, .str [84], .slice [[.str [97], .str [65, 110, 121], .slice [], .int .i64 0, .int .i64 0]], .slice [], .slice [], .str [], .slice [], .str [], .slice [], .slice [], .str [], .slice [], .int .i64 0, .int .i64 0, .int .i64 0, .str [], .str [], .slice [], .int .i64 0, .slice [], .slice [], .int .i64 0, .int .i64 0]], .int .i64 3, .str [], .str [84], .slice [], .int .i64 0, .slice [], .slice [], .int .i64 0]))) ?_
 simp
 refine RVdn_call ((by have h := c_decl_Same g rnd awQ awQ (by decide); exact h : Valid Tryz.prog (G0 g rnd) 26 [.agg [.slice [[.int .i64 1, .str [84], .slice [[.str [97], .str [65, 110, 121], .slice [], .int .i64 0, .int .i64 0]], .slice [], .slice [], .str [], .slice [], .str [], .slice [], .slice [], .str [], .slice [], .int .i64 0, .int .i64 0, .int .i64 0, .str [], .str [], .slice [], .int .i64 0, .slice [], .slice [], .int .i64 0, .int .i64 0]], .int .i64 3, .str [], .str [84], .slice [], .int .i64 0, .slice [], .slice [], .int .i64 0], .agg [.slice [[.int .i64 1, .str [84], .slice [[.str [97], .str [65, 110, 121], .slice [], .int .i64 0, .int .i64 0]], .slice [], .slice [], .str [], .slice [], .str [], .slice [], .slice [], .str [], .slice [], .int .i64 0, .int .i64 0, .int .i64 0, .str [], .str [], .slice [], .int .i64 0, .slice [], .slice [], .int .i64 0, .int .i64 0]], .int .i64 3, .str [], .str [84], .slice [], .int .i64 0, .slice [], .slice [], .int .i64 0]] (.bool true))) ?_
 simp
 refine z _ ?_
 clear z Z
 refine AT_ret ?_
 simp [Tryz.f7]

end Go.Proofs.YtdifpfehijnmiaaGreatDoor
end

section
/- Contracts: counting declarations. -/
set_option linter.all false
set_option maxHeartbeats 1000000
set_option maxRecDepth 10000
namespace Go.Proofs.YtdifpfehijnmiaaGreatDoor
open Go Go.Pv
variable (g : Nat → Option (List AV)) (rnd : Bool)

theorem c_ref06x_countFormals (l : List Fm) (hf : fitFs l) (n : Nat) (hn : n ≤ 100000000000000) : Valid Tryz.prog (G0 g rnd) 80 [.slice (l.map encF), .int .i64 n] (.int .i64 (cntFs l n)) := by
 obtain ⟨hf1, hf2⟩ := hf
 refine valid_of [] Tryz.func80 rfl (by kernel_rfl) ?_
 refine sr fun Z z => ?_
 simp [row_map, tdiv50, encF, Tryz.f80]
 refine z _ ?_
 clear z Z
 refine AT_seq_k fun K1 hK1 => ?_
 refine sr fun Z z => ?_
 simp [row_map, tdiv50, encF]
 refine z _ ?_
 clear z Z
 refine AT_block ?_
 refine AT_loop_q [0,1,5] [] (fun j s => ∃ k c, k ≤ l.length ∧ cntFs l n = cntFs (l.drop k) c ∧ j = l.length - k ∧ s = { n := 33, tm := [(0, .v (.slice (l.map encF)) none), (1, .v (.int .i64 (c : Nat)) none), (5, .v (.int .i64 k) none)], bx := [], tb := [], sh := [], hint := [] }) (l.length) (by first | rfl | simp) ?_ ?_
 exact ⟨0, n, by simp⟩
 rintro j s ⟨k, c, hk, hc, rfl, rfl⟩ K2 hK2
 refine AT_seq_k fun K3 hK3 => ?_
 by_cases hkt : k < l.length
 refine sr fun Z z => ?_
 simp [row_map, tdiv50, encF, hkt]
 refine z _ ?_
 clear z Z
 refine AT_cond (g := none) rfl (fun hb13 => ?_) (fun hb13 => ?_)
 simp [row_map, tdiv50, encF, hkt] at hb13
 refine AT_skip ?_
 refine hK3 _ ?_
 refine AT_seq_k fun K4 hK4 => ?_
 refine AT_block ?_
 refine AT_draw_q Pt.mixed (by kernel_rfl) fun Z z => ?_
 have hfk := hf2 l[k] (by simp)
 have hfn := hfk.1
 simp [row_map, tdiv50, encF, hkt]
 repeat refine sg ?_
 refine RVdn_call ((by have h := c_ref04x_Count g rnd l[k].ty hfk.2 (c + 1 + l[k].name.length / 50) (by omega); simp only [encTy_def] at h; exact h)) ?_
 simp [row_map, tdiv50, encF, hkt]
 refine z _ ?_
 clear z Z
 refine hK4 _ ?_
 refine AT_region_q fun Z z => ?_
 simp [row_map, tdiv50, encF, hkt]
 repeat refine sg ?_
 refine z _ ?_
 clear z Z
 refine hK2 _ (by first | rfl | simp) (l.length - (k+1)) (by omega) ?_
 refine ⟨k+1, cnt l[k].ty (c + 1 + l[k].name.length / 50), by omega, ?_, by omega, by simp⟩
 rw [hc, List.drop_eq_getElem_cons hkt, cntFs_cons, if_pos (by omega)]
 simp [row_map, tdiv50, encF, hkt] at hb13
 refine AT_exit ?_
 refine hK1 _ ?_
 refine sr fun Z z => ?_
 simp [row_map, tdiv50, encF, hkt]
 refine z _ ?_
 clear z Z
 refine AT_ret ?_
 simp [row_map, tdiv50, encF, Tryz.f80]
 (rw [hc, List.drop_eq_getElem_cons hkt, cntFs_cons, if_neg (by omega)])
 refine sr fun Z z => ?_
 simp [row_map, tdiv50, encF, hkt]
 refine z _ ?_
 clear z Z
 refine cF (by simp [hkt]) ?_
 refine AT_exit ?_
 refine hK1 _ ?_
 refine sr fun Z z => ?_
 simp [row_map, tdiv50, encF, hkt]
 refine z _ ?_
 clear z Z
 refine AT_ret ?_
 simp [row_map, tdiv50, encF, Tryz.f80]
 (rw [hc, List.drop_eq_nil_of_le (by omega)]; rfl)

theorem c_ref06x_countParams (l : List Fm) (hf : fitFs l) (n : Nat) (hn : n ≤ 100000000000000) : Valid Tryz.prog (G0 g rnd) 79 [.slice (l.map encF), .int .i64 n] (.int .i64 (cntFs l n)) := by
 obtain ⟨hf1, hf2⟩ := hf
 refine valid_of [] Tryz.func79 rfl (by kernel_rfl) ?_
 refine sr fun Z z => ?_
 simp [row_map, tdiv50, encF, Tryz.f79]
 refine z _ ?_
 clear z Z
 refine AT_seq_k fun K1 hK1 => ?_
 refine sr fun Z z => ?_
 simp [row_map, tdiv50, encF]
 refine z _ ?_
 clear z Z
 refine AT_block ?_
 refine AT_loop_q [0,1,5] [] (fun j s => ∃ k c, k ≤ l.length ∧ cntFs l n = cntFs (l.drop k) c ∧ j = l.length - k ∧ s = { n := 33, tm := [(0, .v (.slice (l.map encF)) none), (1, .v (.int .i64 (c : Nat)) none), (5, .v (.int .i64 k) none)], bx := [], tb := [], sh := [], hint := [] }) (l.length) (by first | rfl | simp) ?_ ?_
 exact ⟨0, n, by simp⟩
 rintro j s ⟨k, c, hk, hc, rfl, rfl⟩ K2 hK2
 refine AT_seq_k fun K3 hK3 => ?_
 by_cases hkt : k < l.length
 refine sr fun Z z => ?_
 simp [row_map, tdiv50, encF, hkt]
 refine z _ ?_
 clear z Z
 refine AT_cond (g := none) rfl (fun hb13 => ?_) (fun hb13 => ?_)
 simp [row_map, tdiv50, encF, hkt] at hb13
 refine AT_skip ?_
 refine hK3 _ ?_
 refine AT_seq_k fun K4 hK4 => ?_
 refine AT_block ?_
 refine AT_draw_q Pt.mixed (by kernel_rfl) fun Z z => ?_
 have hfk := hf2 l[k] (by simp)
 have hfn := hfk.1
 simp [row_map, tdiv50, encF, hkt]
 repeat refine sg ?_
 refine RVdn_call ((by have h := c_ref04x_Count g rnd l[k].ty hfk.2 (c + 1 + l[k].name.length / 50) (by omega); simp only [encTy_def] at h; exact h)) ?_
 simp [row_map, tdiv50, encF, hkt]
 refine z _ ?_
 clear z Z
 refine hK4 _ ?_
 refine AT_region_q fun Z z => ?_
 simp [row_map, tdiv50, encF, hkt]
 repeat refine sg ?_
 refine z _ ?_
 clear z Z
 refine hK2 _ (by first | rfl | simp) (l.length - (k+1)) (by omega) ?_
 refine ⟨k+1, cnt l[k].ty (c + 1 + l[k].name.length / 50), by omega, ?_, by omega, by simp⟩
 rw [hc, List.drop_eq_getElem_cons hkt, cntFs_cons, if_pos (by omega)]
 simp [row_map, tdiv50, encF, hkt] at hb13
 refine AT_exit ?_
 refine hK1 _ ?_
 refine sr fun Z z => ?_
 simp [row_map, tdiv50, encF, hkt]
 refine z _ ?_
 clear z Z
 refine AT_ret ?_
 simp [row_map, tdiv50, encF, Tryz.f79]
 (rw [hc, List.drop_eq_getElem_cons hkt, cntFs_cons, if_neg (by omega)])
 refine sr fun Z z => ?_
 simp [row_map, tdiv50, encF, hkt]
 refine z _ ?_
 clear z Z
 refine cF (by simp [hkt]) ?_
 refine AT_exit ?_
 refine hK1 _ ?_
 refine sr fun Z z => ?_
 simp [row_map, tdiv50, encF, hkt]
 refine z _ ?_
 clear z Z
 refine AT_ret ?_
 simp [row_map, tdiv50, encF, Tryz.f79]
 (rw [hc, List.drop_eq_nil_of_le (by omega)]; rfl)

theorem c_ref06x_countSig (s : Sg) (hf : fitG s) (n : Nat) (hn : n ≤ 10000000000000) : Valid Tryz.prog (G0 g rnd) 81 [.agg (encG s), .int .i64 n] (.int .i64 (cntG s n)) := by
 obtain ⟨hf1, hf2, hf3, hf4⟩ := hf
 have e1 := cntFs_ub hf2.2 (n + s.name.length / 50)
 have e2 := cntFs_ub hf3.2 (cntFs s.fms (n + s.name.length / 50))
 refine valid_of [] Tryz.func81 rfl (by kernel_rfl) ?_
 refine sr fun Z z => ?_
 simp [tdiv50, encG, Tryz.f81]
 refine z _ ?_
 clear z Z
 refine AT_seq_draw Pt.mixed (by kernel_rfl) fun Z z => ?_
 simp [tdiv50, encG]
 repeat refine sg ?_
 refine RVdn_call (c_ref06x_countFormals g rnd s.fms hf2 (n + s.name.length / 50) (by omega)) ?_
 simp [tdiv50, encG]
 refine RVdn_call (c_ref06x_countParams g rnd s.pms hf3 (cntFs s.fms (n + s.name.length / 50)) (by omega)) ?_
 simp [tdiv50, encG]
 refine RVdn_call ((by have h := c_ref04x_Count g rnd s.res hf4 (cntFs s.pms (cntFs s.fms (n + s.name.length / 50))) (by omega); simp only [encTy_def] at h; exact h)) ?_
 simp [tdiv50, encG]
 refine z _ ?_
 clear z Z
 refine AT_ret ?_
 simp [tdiv50, encG, Tryz.f81]
 rw [cntG]

theorem c_ref06x_Count (p : Pg) (hf : fitPg p) : Valid Tryz.prog (G0 g rnd) 27 [.agg (encPg p)] (.int .i64 (cntPg p)) := by
 obtain ⟨⟨hf1, hf2⟩, hf3⟩ := hf
 refine valid_of [] Tryz.func27 rfl (by kernel_rfl) ?_
 refine sr fun Z z => ?_
 simp [row_map, tdiv50, encPg, Tryz.f27]
 refine z _ ?_
 clear z Z
 refine sr fun Z z => ?_
 simp [row_map, tdiv50, encPg]
 refine RVn_call ((by have h := c_ref05x_Count g rnd p.main hf3 0 (by omega); simp only [encE_def] at h; exact h)) ?_
 simp [row_map, tdiv50, encPg]
 refine z _ ?_
 clear z Z
 refine AT_seq_k fun K1 hK1 => ?_
 refine sr fun Z z => ?_
 simp [row_map, tdiv50, encPg]
 refine z _ ?_
 clear z Z
 refine AT_block ?_
 refine AT_loop_q [1,3,4] [1] (fun j s => ∃ k c, k ≤ p.decls.length ∧ cntPg p = cntDs (p.decls.drop k) c ∧ j = p.decls.length - k ∧ s = { n := 94, tm := [(1, .lp 1 0), (3, .v (.int .i64 (c : Nat)) none), (4, .v (.int .i64 k) none)], bx := [(1, encPg p)], tb := [], sh := [], hint := [] }) (p.decls.length) (by first | rfl | simp) ?_ ?_
 exact ⟨0, cntE p.main 0, by simp [encPg, cntPg]⟩
 rintro j s ⟨k, c, hk, hc, rfl, rfl⟩ K2 hK2
 refine AT_seq_k fun K3 hK3 => ?_
 by_cases hkt : k < p.decls.length
 refine sr fun Z z => ?_
 simp [row_map, tdiv50, encPg, hkt]
 refine z _ ?_
 clear z Z
 refine AT_cond (g := none) rfl (fun hb19 => ?_) (fun hb19 => ?_)
 simp [row_map, tdiv50, encPg, hkt] at hb19
 refine AT_skip ?_
 refine hK3 _ ?_
 refine AT_seq_k fun K4 hK4 => ?_
 refine AT_block ?_
 refine sr fun Z z => ?_
 obtain ⟨q1, ⟨q2a, q2⟩, ⟨q3a, q3⟩, ⟨q4a, q4⟩, q5, ⟨q6a, q6⟩, q7, q8⟩ := hf2 p.decls[k] (by simp)
 have u1 := cntFs_ub q2 (c + 1 + p.decls[k].name.length / 50 + p.decls[k].recv.length / 50)
 have u2 := cntFs_ub q3 (cntFs p.decls[k].fms (c + 1 + p.decls[k].name.length / 50 + p.decls[k].recv.length / 50))
 simp [row_map, tdiv50, encPg, encD, hkt]
 refine z _ ?_
 clear z Z
 refine AT_seq_draw Pt.mixed (by kernel_rfl) fun Z z => ?_
 simp [row_map, tdiv50, encPg, encD, hkt]
 repeat refine sg ?_
 refine RVdn_call (c_ref06x_countFormals g rnd p.decls[k].fms ⟨q2a, q2⟩ (c + 1 + p.decls[k].name.length / 50 + p.decls[k].recv.length / 50) (by omega)) ?_
 simp [row_map, tdiv50, encPg, encD, hkt]
 refine RVdn_call (c_ref06x_countParams g rnd p.decls[k].flds ⟨q3a, q3⟩ (cntFs p.decls[k].fms (c + 1 + p.decls[k].name.length / 50 + p.decls[k].recv.length / 50)) (by omega)) ?_
 simp [row_map, tdiv50, encPg, encD, hkt]
 refine z _ ?_
 clear z Z
 refine AT_seq_k fun K5 hK5 => ?_
 refine sr fun Z z => ?_
 simp [row_map, tdiv50, encPg, hkt]
 refine z _ ?_
 clear z Z
 refine AT_block ?_
 refine AT_loop_q [1,3,4,5,6] [1,5] (fun j s => ∃ m e, m ≤ p.decls[k].sigs.length ∧ cntGs p.decls[k].sigs (cntFs p.decls[k].flds (cntFs p.decls[k].fms (c + 1 + p.decls[k].name.length / 50 + p.decls[k].recv.length / 50))) = cntGs (p.decls[k].sigs.drop m) e ∧ j = p.decls[k].sigs.length - m ∧ s = { n := 94, tm := [(1, .lp 1 0), (3, .v (.int .i64 (e : Nat)) none), (4, .v (.int .i64 k) none), (5, .lp 5 0), (6, .v (.int .i64 m) none)], bx := [(1, encPg p), (5, encD p.decls[k])], tb := [], sh := [], hint := [] }) (p.decls[k].sigs.length) (by first | rfl | simp) ?_ ?_
 exact ⟨0, cntFs p.decls[k].flds (cntFs p.decls[k].fms (c + 1 + p.decls[k].name.length / 50 + p.decls[k].recv.length / 50)), by simp [encD, encPg]⟩
 rintro j s ⟨m, e, hm, he, rfl, rfl⟩ K6 hK6
 refine AT_seq_k fun K7 hK7 => ?_
 by_cases hms : m < p.decls[k].sigs.length
 refine sr fun Z z => ?_
 simp [row_map, tdiv50, encPg, encD, hkt, hms]
 refine z _ ?_
 clear z Z
 refine AT_cond (g := none) rfl (fun hb53 => ?_) (fun hb53 => ?_)
 simp [row_map, tdiv50, encPg, hkt, hms] at hb53
 refine AT_skip ?_
 refine hK7 _ ?_
 refine AT_seq_k fun K8 hK8 => ?_
 refine AT_block ?_
 refine AT_region_q fun Z z => ?_
 simp [row_map, tdiv50, encPg, encD, encG, hkt, hms]
 refine RVn_call ((by have h := c_ref06x_countSig g rnd p.decls[k].sigs[m] (q4 _ (by simp)) e (by omega); simp only [encG] at h; exact h)) ?_
 simp [row_map, tdiv50, encPg, encD, encG, hkt, hms]
 refine z _ ?_
 clear z Z
 refine hK8 _ ?_
 refine AT_region_q fun Z z => ?_
 simp [row_map, tdiv50, encPg, hkt, hms]
 repeat refine sg ?_
 refine z _ ?_
 clear z Z
 refine hK6 _ (by first | rfl | simp) (p.decls[k].sigs.length - (m+1)) (by omega) ?_
 refine ⟨m+1, cntG p.decls[k].sigs[m] e, by omega, ?_, by omega, by simp [encD, encPg]⟩
 rw [he, List.drop_eq_getElem_cons hms, cntGs_cons, if_pos (by omega)]
 simp [row_map, tdiv50, encPg, hkt, hms] at hb53
 refine AT_exit ?_
 refine hK5 _ ?_
 refine AT_seq_k fun K9 hK9 => ?_
 refine sr fun Z z => ?_
 have hG : cntGs p.decls[k].sigs (cntFs p.decls[k].flds (cntFs p.decls[k].fms (c + 1 + p.decls[k].name.length / 50 + p.decls[k].recv.length / 50))) = e := by
   rw [he]
   (rw [List.drop_eq_getElem_cons hms, cntGs_cons, if_neg (by omega)])
 simp [row_map, tdiv50, encPg, hkt, hms]
 refine z _ ?_
 clear z Z
 refine AT_block ?_
 refine AT_loop_q [1,3,4,5,7] [1,5] (fun j s => ∃ i w, i ≤ p.decls[k].vars.length ∧ cntVs p.decls[k].vars (cntGs p.decls[k].sigs (cntFs p.decls[k].flds (cntFs p.decls[k].fms (c + 1 + p.decls[k].name.length / 50 + p.decls[k].recv.length / 50)))) = cntVs (p.decls[k].vars.drop i) w ∧ j = p.decls[k].vars.length - i ∧ s = { n := 94, tm := [(1, .lp 1 0), (3, .v (.int .i64 (w : Nat)) none), (4, .v (.int .i64 k) none), (5, .lp 5 0), (7, .v (.int .i64 i) none)], bx := [(1, encPg p), (5, encD p.decls[k])], tb := [], sh := [], hint := [] }) (p.decls[k].vars.length) (by first | rfl | simp) ?_ ?_
 exact ⟨0, e, by omega, by rw [hG]; rfl, by omega, by simp [encD, encPg]⟩
 rintro j s ⟨i, w, hi, hw, rfl, rfl⟩ K10 hK10
 refine AT_seq_k fun K11 hK11 => ?_
 by_cases hmv : i < p.decls[k].vars.length
 refine sr fun Z z => ?_
 simp [row_map, tdiv50, encPg, encD, hkt, hms, hmv]
 refine z _ ?_
 clear z Z
 refine AT_cond (g := none) rfl (fun hb71 => ?_) (fun hb71 => ?_)
 simp [row_map, tdiv50, encPg, hkt, hms, hmv] at hb71
 refine AT_skip ?_
 refine hK11 _ ?_
 refine AT_seq_k fun K12 hK12 => ?_
 refine AT_block ?_
 refine AT_region_q fun Z z => ?_
 have q6k := q6 p.decls[k].vars[i] (by simp)
 simp [row_map, tdiv50, encPg, encD, encS, hkt, hms, hmv]
 repeat refine sg ?_
 refine z _ ?_
 clear z Z
 refine hK12 _ ?_
 refine AT_region_q fun Z z => ?_
 simp [row_map, tdiv50, encPg, hkt, hms, hmv]
 repeat refine sg ?_
 refine z _ ?_
 clear z Z
 refine hK10 _ (by first | rfl | simp) (p.decls[k].vars.length - (i+1)) (by omega) ?_
 refine ⟨i+1, w + 1 + p.decls[k].vars[i].length / 50, by omega, ?_, by omega, by simp [encD, encPg]⟩
 rw [hw, List.drop_eq_getElem_cons hmv, cntVs_cons, if_pos (by omega)]
 simp [row_map, tdiv50, encPg, hkt, hms, hmv] at hb71
 refine AT_exit ?_
 refine hK9 _ ?_
 refine sr fun Z z => ?_
 have hV : cntVs p.decls[k].vars (cntGs p.decls[k].sigs (cntFs p.decls[k].flds (cntFs p.decls[k].fms (c + 1 + p.decls[k].name.length / 50 + p.decls[k].recv.length / 50)))) = w := by
   rw [hw]
   (rw [List.drop_eq_getElem_cons hmv, cntVs_cons, if_neg (by omega)])
 simp [row_map, tdiv50, encPg, hkt, hms, hmv]
 refine z _ ?_
 clear z Z
 refine AT_cond (g := none) rfl (fun hb85 => ?_) (fun hb85 => ?_)
 simp [row_map, tdiv50, encPg, hkt, hms, hmv] at hb85
 refine AT_draw_q Pt.mixed (by kernel_rfl) fun Z z => ?_
 have u3 := cntG_ub q7 w
 simp [row_map, tdiv50, encPg, encD, hkt, hms, hmv, hb85]
 refine RVdn_call ((by have h := c_ref06x_countSig g rnd p.decls[k].sig q7 w (by omega); simp only [encG] at h; exact h)) ?_
 simp [row_map, tdiv50, encPg, encD, hkt, hms, hmv, hb85]
 refine RVdn_call ((by have h := c_ref05x_Count g rnd p.decls[k].body q8 (cntG p.decls[k].sig w) (by omega); simp only [encE_def] at h; exact h)) ?_
 simp [row_map, tdiv50, encPg, encD, hkt, hms, hmv, hb85]
 refine z _ ?_
 clear z Z
 refine hK4 _ ?_
 refine AT_region_q fun Z z => ?_
 simp [row_map, tdiv50, encPg, hkt, hms, hmv, hb85]
 repeat refine sg ?_
 refine z _ ?_
 clear z Z
 refine hK2 _ (by first | rfl | simp) (p.decls.length - (k+1)) (by omega) ?_
 (· refine ⟨k+1, cntE p.decls[k].body (cntG p.decls[k].sig w), by omega, ?_, by omega, by simp [encPg]⟩
    rw [hc, List.drop_eq_getElem_cons hkt, cntDs_cons, if_pos (by omega), cntD, hV, if_pos (by omega)])
 simp [row_map, tdiv50, encPg, hkt, hms, hmv] at hb85
 refine AT_skip ?_
 refine hK4 _ ?_
 refine AT_region_q fun Z z => ?_
 simp [row_map, tdiv50, encPg, hkt, hms, hmv, hb85]
 repeat refine sg ?_
 refine z _ ?_
 clear z Z
 refine hK2 _ (by first | rfl | simp) (p.decls.length - (k+1)) (by omega) ?_
 (refine ⟨k+1, w, by omega, ?_, by omega, by simp [encPg]⟩
  rw [hc, List.drop_eq_getElem_cons hkt, cntDs_cons, if_pos (by omega), cntD, hV, if_neg (by omega)])
 refine sr fun Z z => ?_
 simp [row_map, tdiv50, encPg, encD, hkt, hms, hmv]
 refine z _ ?_
 clear z Z
 refine cF (by simp [hkt, hms, hmv]) ?_
 refine AT_exit ?_
 refine hK9 _ ?_
 refine sr fun Z z => ?_
 have hV : cntVs p.decls[k].vars (cntGs p.decls[k].sigs (cntFs p.decls[k].flds (cntFs p.decls[k].fms (c + 1 + p.decls[k].name.length / 50 + p.decls[k].recv.length / 50)))) = w := by
   rw [hw]
   (rw [List.drop_eq_nil_of_le (by omega)]; rfl)
 simp [row_map, tdiv50, encPg, hkt, hms, hmv]
 refine z _ ?_
 clear z Z
 refine AT_cond (g := none) rfl (fun hb85 => ?_) (fun hb85 => ?_)
 simp [row_map, tdiv50, encPg, hkt, hms, hmv] at hb85
 refine AT_draw_q Pt.mixed (by kernel_rfl) fun Z z => ?_
 have u3 := cntG_ub q7 w
 simp [row_map, tdiv50, encPg, encD, hkt, hms, hmv, hb85]
 refine RVdn_call ((by have h := c_ref06x_countSig g rnd p.decls[k].sig q7 w (by omega); simp only [encG] at h; exact h)) ?_
 simp [row_map, tdiv50, encPg, encD, hkt, hms, hmv, hb85]
 refine RVdn_call ((by have h := c_ref05x_Count g rnd p.decls[k].body q8 (cntG p.decls[k].sig w) (by omega); simp only [encE_def] at h; exact h)) ?_
 simp [row_map, tdiv50, encPg, encD, hkt, hms, hmv, hb85]
 refine z _ ?_
 clear z Z
 refine hK4 _ ?_
 refine AT_region_q fun Z z => ?_
 simp [row_map, tdiv50, encPg, hkt, hms, hmv, hb85]
 repeat refine sg ?_
 refine z _ ?_
 clear z Z
 refine hK2 _ (by first | rfl | simp) (p.decls.length - (k+1)) (by omega) ?_
 (· refine ⟨k+1, cntE p.decls[k].body (cntG p.decls[k].sig w), by omega, ?_, by omega, by simp [encPg]⟩
    rw [hc, List.drop_eq_getElem_cons hkt, cntDs_cons, if_pos (by omega), cntD, hV, if_pos (by omega)])
 simp [row_map, tdiv50, encPg, hkt, hms, hmv] at hb85
 refine AT_skip ?_
 refine hK4 _ ?_
 refine AT_region_q fun Z z => ?_
 simp [row_map, tdiv50, encPg, hkt, hms, hmv, hb85]
 repeat refine sg ?_
 refine z _ ?_
 clear z Z
 refine hK2 _ (by first | rfl | simp) (p.decls.length - (k+1)) (by omega) ?_
 (refine ⟨k+1, w, by omega, ?_, by omega, by simp [encPg]⟩
  rw [hc, List.drop_eq_getElem_cons hkt, cntDs_cons, if_pos (by omega), cntD, hV, if_neg (by omega)])
 refine sr fun Z z => ?_
 simp [row_map, tdiv50, encPg, encD, hkt, hms]
 refine z _ ?_
 clear z Z
 refine cF (by simp [hkt, hms]) ?_
 refine AT_exit ?_
 refine hK5 _ ?_
 refine AT_seq_k fun K13 hK13 => ?_
 refine sr fun Z z => ?_
 have hG : cntGs p.decls[k].sigs (cntFs p.decls[k].flds (cntFs p.decls[k].fms (c + 1 + p.decls[k].name.length / 50 + p.decls[k].recv.length / 50))) = e := by
   rw [he]
   (rw [List.drop_eq_nil_of_le (by omega)]; rfl)
 simp [row_map, tdiv50, encPg, hkt, hms]
 refine z _ ?_
 clear z Z
 refine AT_block ?_
 refine AT_loop_q [1,3,4,5,7] [1,5] (fun j s => ∃ i w, i ≤ p.decls[k].vars.length ∧ cntVs p.decls[k].vars (cntGs p.decls[k].sigs (cntFs p.decls[k].flds (cntFs p.decls[k].fms (c + 1 + p.decls[k].name.length / 50 + p.decls[k].recv.length / 50)))) = cntVs (p.decls[k].vars.drop i) w ∧ j = p.decls[k].vars.length - i ∧ s = { n := 94, tm := [(1, .lp 1 0), (3, .v (.int .i64 (w : Nat)) none), (4, .v (.int .i64 k) none), (5, .lp 5 0), (7, .v (.int .i64 i) none)], bx := [(1, encPg p), (5, encD p.decls[k])], tb := [], sh := [], hint := [] }) (p.decls[k].vars.length) (by first | rfl | simp) ?_ ?_
 exact ⟨0, e, by omega, by rw [hG]; rfl, by omega, by simp [encD, encPg]⟩
 rintro j s ⟨i, w, hi, hw, rfl, rfl⟩ K14 hK14
 refine AT_seq_k fun K15 hK15 => ?_
 by_cases hmv : i < p.decls[k].vars.length
 refine sr fun Z z => ?_
 simp [row_map, tdiv50, encPg, encD, hkt, hms, hmv]
 refine z _ ?_
 clear z Z
 refine AT_cond (g := none) rfl (fun hb71 => ?_) (fun hb71 => ?_)
 simp [row_map, tdiv50, encPg, hkt, hms, hmv] at hb71
 refine AT_skip ?_
 refine hK15 _ ?_
 refine AT_seq_k fun K16 hK16 => ?_
 refine AT_block ?_
 refine AT_region_q fun Z z => ?_
 have q6k := q6 p.decls[k].vars[i] (by simp)
 simp [row_map, tdiv50, encPg, encD, encS, hkt, hms, hmv]
 repeat refine sg ?_
 refine z _ ?_
 clear z Z
 refine hK16 _ ?_
 refine AT_region_q fun Z z => ?_
 simp [row_map, tdiv50, encPg, hkt, hms, hmv]
 repeat refine sg ?_
 refine z _ ?_
 clear z Z
 refine hK14 _ (by first | rfl | simp) (p.decls[k].vars.length - (i+1)) (by omega) ?_
 refine ⟨i+1, w + 1 + p.decls[k].vars[i].length / 50, by omega, ?_, by omega, by simp [encD, encPg]⟩
 rw [hw, List.drop_eq_getElem_cons hmv, cntVs_cons, if_pos (by omega)]
 simp [row_map, tdiv50, encPg, hkt, hms, hmv] at hb71
 refine AT_exit ?_
 refine hK13 _ ?_
 refine sr fun Z z => ?_
 have hV : cntVs p.decls[k].vars (cntGs p.decls[k].sigs (cntFs p.decls[k].flds (cntFs p.decls[k].fms (c + 1 + p.decls[k].name.length / 50 + p.decls[k].recv.length / 50)))) = w := by
   rw [hw]
   (rw [List.drop_eq_getElem_cons hmv, cntVs_cons, if_neg (by omega)])
 simp [row_map, tdiv50, encPg, hkt, hms, hmv]
 refine z _ ?_
 clear z Z
 refine AT_cond (g := none) rfl (fun hb85 => ?_) (fun hb85 => ?_)
 simp [row_map, tdiv50, encPg, hkt, hms, hmv] at hb85
 refine AT_draw_q Pt.mixed (by kernel_rfl) fun Z z => ?_
 have u3 := cntG_ub q7 w
 simp [row_map, tdiv50, encPg, encD, hkt, hms, hmv, hb85]
 refine RVdn_call ((by have h := c_ref06x_countSig g rnd p.decls[k].sig q7 w (by omega); simp only [encG] at h; exact h)) ?_
 simp [row_map, tdiv50, encPg, encD, hkt, hms, hmv, hb85]
 refine RVdn_call ((by have h := c_ref05x_Count g rnd p.decls[k].body q8 (cntG p.decls[k].sig w) (by omega); simp only [encE_def] at h; exact h)) ?_
 simp [row_map, tdiv50, encPg, encD, hkt, hms, hmv, hb85]
 refine z _ ?_
 clear z Z
 refine hK4 _ ?_
 refine AT_region_q fun Z z => ?_
 simp [row_map, tdiv50, encPg, hkt, hms, hmv, hb85]
 repeat refine sg ?_
 refine z _ ?_
 clear z Z
 refine hK2 _ (by first | rfl | simp) (p.decls.length - (k+1)) (by omega) ?_
 (· refine ⟨k+1, cntE p.decls[k].body (cntG p.decls[k].sig w), by omega, ?_, by omega, by simp [encPg]⟩
    rw [hc, List.drop_eq_getElem_cons hkt, cntDs_cons, if_pos (by omega), cntD, hV, if_pos (by omega)])
 simp [row_map, tdiv50, encPg, hkt, hms, hmv] at hb85
 refine AT_skip ?_
 refine hK4 _ ?_
 refine AT_region_q fun Z z => ?_
 simp [row_map, tdiv50, encPg, hkt, hms, hmv, hb85]
 repeat refine sg ?_
 refine z _ ?_
 clear z Z
 refine hK2 _ (by first | rfl | simp) (p.decls.length - (k+1)) (by omega) ?_
 (refine ⟨k+1, w, by omega, ?_, by omega, by simp [encPg]⟩
  rw [hc, List.drop_eq_getElem_cons hkt, cntDs_cons, if_pos (by omega), cntD, hV, if_neg (by omega)])
 refine sr fun Z z => ?_
 simp [row_map, tdiv50, encPg, encD, hkt, hms, hmv]
 refine z _ ?_
 clear z Z
 refine cF (by simp [hkt, hms, hmv]) ?_
 refine AT_exit ?_
 refine hK13 _ ?_
 refine sr fun Z z => ?_
 have hV : cntVs p.decls[k].vars (cntGs p.decls[k].sigs (cntFs p.decls[k].flds (cntFs p.decls[k].fms (c + 1 + p.decls[k].name.length / 50 + p.decls[k].recv.length / 50)))) = w := by
   rw [hw]
   (rw [List.drop_eq_nil_of_le (by omega)]; rfl)
 simp [row_map, tdiv50, encPg, hkt, hms, hmv]
 refine z _ ?_
 clear z Z
 refine AT_cond (g := none) rfl (fun hb85 => ?_) (fun hb85 => ?_)
 simp [row_map, tdiv50, encPg, hkt, hms, hmv] at hb85
 refine AT_draw_q Pt.mixed (by kernel_rfl) fun Z z => ?_
 have u3 := cntG_ub q7 w
 simp [row_map, tdiv50, encPg, encD, hkt, hms, hmv, hb85]
 refine RVdn_call ((by have h := c_ref06x_countSig g rnd p.decls[k].sig q7 w (by omega); simp only [encG] at h; exact h)) ?_
 simp [row_map, tdiv50, encPg, encD, hkt, hms, hmv, hb85]
 refine RVdn_call ((by have h := c_ref05x_Count g rnd p.decls[k].body q8 (cntG p.decls[k].sig w) (by omega); simp only [encE_def] at h; exact h)) ?_
 simp [row_map, tdiv50, encPg, encD, hkt, hms, hmv, hb85]
 refine z _ ?_
 clear z Z
 refine hK4 _ ?_
 refine AT_region_q fun Z z => ?_
 simp [row_map, tdiv50, encPg, hkt, hms, hmv, hb85]
 repeat refine sg ?_
 refine z _ ?_
 clear z Z
 refine hK2 _ (by first | rfl | simp) (p.decls.length - (k+1)) (by omega) ?_
 (· refine ⟨k+1, cntE p.decls[k].body (cntG p.decls[k].sig w), by omega, ?_, by omega, by simp [encPg]⟩
    rw [hc, List.drop_eq_getElem_cons hkt, cntDs_cons, if_pos (by omega), cntD, hV, if_pos (by omega)])
 simp [row_map, tdiv50, encPg, hkt, hms, hmv] at hb85
 refine AT_skip ?_
 refine hK4 _ ?_
 refine AT_region_q fun Z z => ?_
 simp [row_map, tdiv50, encPg, hkt, hms, hmv, hb85]
 repeat refine sg ?_
 refine z _ ?_
 clear z Z
 refine hK2 _ (by first | rfl | simp) (p.decls.length - (k+1)) (by omega) ?_
 (refine ⟨k+1, w, by omega, ?_, by omega, by simp [encPg]⟩
  rw [hc, List.drop_eq_getElem_cons hkt, cntDs_cons, if_pos (by omega), cntD, hV, if_neg (by omega)])
 simp [row_map, tdiv50, encPg, hkt] at hb19
 refine AT_exit ?_
 refine hK1 _ ?_
 refine sr fun Z z => ?_
 simp [row_map, tdiv50, encPg, hkt]
 refine z _ ?_
 clear z Z
 refine AT_ret ?_
 simp [row_map, tdiv50, encPg, Tryz.f27]
 (rw [hc, List.drop_eq_getElem_cons hkt, cntDs_cons, if_neg (by omega)])
 refine sr fun Z z => ?_
 simp [row_map, tdiv50, encPg, hkt]
 refine z _ ?_
 clear z Z
 refine cF (by simp [hkt]) ?_
 refine AT_exit ?_
 refine hK1 _ ?_
 refine sr fun Z z => ?_
 simp [row_map, tdiv50, encPg, hkt]
 refine z _ ?_
 clear z Z
 refine AT_ret ?_
 simp [row_map, tdiv50, encPg, Tryz.f27]
 (rw [hc, List.drop_eq_nil_of_le (by omega)]; rfl)

theorem c_ref06x_Few (p : Pg) (hf : fitPg p) : Valid Tryz.prog (G0 g rnd) 8 [.agg (encPg p)] (.bool (decide (cntPg p ≤ 600))) := by

 refine valid_of [] Tryz.func8 rfl (by kernel_rfl) ?_
 refine sr fun Z z => ?_
 simp [Tryz.f8]
 refine z _ ?_
 clear z Z
 refine sr fun Z z => ?_
 simp
 refine RVn_call (c_ref06x_Count g rnd p hf) ?_
 simp
 refine z _ ?_
 clear z Z
 refine AT_ret ?_
 simp [Tryz.f8]
 omega

end Go.Proofs.YtdifpfehijnmiaaGreatDoor
end

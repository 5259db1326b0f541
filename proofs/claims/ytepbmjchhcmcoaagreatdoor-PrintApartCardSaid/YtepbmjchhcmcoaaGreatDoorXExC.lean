import Derived.Test.YtepbmjchhcmcoaaGreatDoorPt
import Derived.Test.YtepbmjchhcmcoaaGreatDoorPvPb
import Derived.Test.YtepbmjchhcmcoaaGreatDoorPvY
import Derived.Test.YtepbmjchhcmcoaaGreatDoorPvMb
import Derived.Test.YtepbmjchhcmcoaaGreatDoorXTyE
import Derived.Test.YtepbmjchhcmcoaaGreatDoorXLbJ
section
/- Contracts: expressions, counted and compared. -/
set_option linter.all false
set_option maxHeartbeats 1000000
set_option maxRecDepth 10000
namespace Go.Proofs.YtepbmjchhcmcoaaGreatDoor
open Go Go.Pv
variable (g : Nat → Option (List AV)) (rnd : Bool)

theorem c_ref04x_Same (t u : Ty) (hw : wt t ≤ 1099511627776) : Valid Tryz.prog (G0 g rnd) 83 [.agg (encTy t), .agg (encTy u)] (.bool (cmpT t u == 0)) := by

 refine valid_of [] Tryz.func83 rfl (by kernel_rfl) ?_
 refine sr fun Z z => ?_
 simp [Tryz.f83]
 refine z _ ?_
 clear z Z
 refine sr fun Z z => ?_
 simp
 refine RVn_call (c_ref04x_Compare g rnd t u hw) ?_
 simp
 refine z _ ?_
 clear z Z
 refine AT_ret ?_
 simp [Tryz.f83]

theorem c_ref05x_Count : ∀ e : Exp, fitE e → ∀ j0 : Nat, j0 ≤ 100000000000000 → Valid Tryz.prog (G0 g rnd) 44 [.agg (encE e), .int .i64 j0] (.int .i64 (cntE e j0)) := by
 intro e
 induction e using Exp.ind with
 | h kd n t ta l p ih =>
 intro hf j0 hj
 rw [fitE] at hf
 obtain ⟨hf1, hf2, ⟨hf3, hf4⟩, hf5, hf6⟩ := hf
 refine valid_of [] Tryz.func44 rfl (by kernel_rfl) ?_
 refine sr fun Z z => ?_
 simp [row_map, tdiv50, Tryz.f44]
 refine z _ ?_
 clear z Z
 refine sr fun Z z => ?_
 simp [row_map, tdiv50]
 repeat refine sg ?_
 refine RVn_call (c_ref04x_Count g rnd t hf2 (j0 + n.length / 50) (by omega)) ?_
 simp [row_map, tdiv50]
 refine z _ ?_
 clear z Z
 refine AT_seq_k fun K1 hK1 => ?_
 refine sr fun Z z => ?_
 simp [row_map, tdiv50]
 refine z _ ?_
 clear z Z
 refine AT_block ?_
 refine AT_loop_q [2,1,5] [2] (fun j s => ∃ k c, k ≤ ta.length ∧ cntE (.mk kd n t ta l p) j0 = cntEs l (cnts (ta.drop k) c) ∧ j = ta.length - k ∧ s = { n := 53, tm := [(2, .lp 2 0), (1, .v (.int .i64 (c : Nat)) none), (5, .v (.int .i64 k) none)], bx := [(2, encE (.mk kd n t ta l p))], tb := [], sh := [], hint := [] }) (ta.length) (by first | rfl | simp) ?_ ?_
 exact ⟨0, cnt t (j0 + n.length / 50), by simp [cntE]⟩
 rintro j s ⟨k, c, hk, hc, rfl, rfl⟩ K2 hK2
 refine AT_seq_k fun K3 hK3 => ?_
 by_cases hkt : k < ta.length
 refine sr fun Z z => ?_
 simp [row_map, tdiv50, hkt]
 refine z _ ?_
 clear z Z
 refine AT_cond (g := none) rfl (fun hb24 => ?_) (fun hb24 => ?_)
 simp [row_map, tdiv50, hkt] at hb24
 refine AT_skip ?_
 simp only [nrm, reduceIte, Nat.reduceEqDiff]
 refine hK3 _ ?_
 refine AT_seq_k fun K4 hK4 => ?_
 refine AT_block ?_
 refine AT_region_q fun Z z => ?_
 simp [row_map, tdiv50, hkt]
 refine RVn_call (c_ref04x_Count g rnd ta[k] (fits_mem hf4 (by simp)) c (by omega)) ?_
 simp [row_map, tdiv50, hkt]
 refine z _ ?_
 clear z Z
 refine hK4 _ ?_
 refine AT_region_q fun Z z => ?_
 simp [row_map, tdiv50, hkt]
 repeat refine sg ?_
 refine z _ ?_
 clear z Z
 simp only [nrm, reduceIte, Nat.reduceEqDiff]
 refine hK2 _ (by first | rfl | simp) (ta.length - (k+1)) (by omega) ?_
 refine ⟨k+1, cnt ta[k] c, by omega, ?_, by omega, by simp⟩
 rw [hc, List.drop_eq_getElem_cons hkt, cnts_cons, if_pos (by omega)]
 simp [row_map, tdiv50, hkt] at hb24
 refine AT_exit ?_
 simp only [nrm, reduceIte, Nat.reduceEqDiff]
 refine hK1 _ ?_
 refine AT_seq_k fun K5 hK5 => ?_
 refine sr fun Z z => ?_
 simp [row_map, tdiv50, hkt]
 refine z _ ?_
 clear z Z
 refine AT_block ?_
 refine AT_loop_q [2,1,6] [2] (fun j s => ∃ k c, k ≤ l.length ∧ cntE (.mk kd n t ta l p) j0 = cntEs (l.drop k) c ∧ j = l.length - k ∧ s = { n := 53, tm := [(2, .lp 2 0), (1, .v (.int .i64 (c : Nat)) none), (6, .v (.int .i64 k) none)], bx := [(2, encE (.mk kd n t ta l p))], tb := [], sh := [], hint := [] }) (l.length) (by first | rfl | simp) ?_ ?_
 refine ⟨0, c, by omega, ?_, by omega, by simp⟩
 (rw [hc, List.drop_eq_getElem_cons hkt, cnts_cons, if_neg (by omega)]; rfl)
 rintro j s ⟨k, c, hk, hc2, rfl, rfl⟩ K6 hK6
 refine AT_seq_k fun K7 hK7 => ?_
 by_cases hkl : k < l.length
 refine sr fun Z z => ?_
 simp [row_map, tdiv50, hkt, hkl]
 refine z _ ?_
 clear z Z
 refine AT_cond (g := none) rfl (fun hb42 => ?_) (fun hb42 => ?_)
 simp [row_map, tdiv50, hkt, hkl] at hb42
 refine AT_skip ?_
 simp only [nrm, reduceIte, Nat.reduceEqDiff]
 refine hK7 _ ?_
 refine AT_seq_k fun K8 hK8 => ?_
 refine AT_block ?_
 refine AT_region_q fun Z z => ?_
 simp [row_map, tdiv50, hkt, hkl]
 refine RVn_call (ih l[k] (by simp) (fitEs_mem hf6 (by simp)) c (by omega)) ?_
 simp [row_map, tdiv50, hkt, hkl]
 refine z _ ?_
 clear z Z
 refine hK8 _ ?_
 refine AT_region_q fun Z z => ?_
 simp [row_map, tdiv50, hkt, hkl]
 repeat refine sg ?_
 refine z _ ?_
 clear z Z
 simp only [nrm, reduceIte, Nat.reduceEqDiff]
 refine hK6 _ (by first | rfl | simp) (l.length - (k+1)) (by omega) ?_
 refine ⟨k+1, cntE l[k] c, by omega, ?_, by omega, by simp⟩
 rw [hc2, List.drop_eq_getElem_cons hkl, cntEs_cons, if_pos (by omega)]
 simp [row_map, tdiv50, hkt, hkl] at hb42
 refine AT_exit ?_
 simp only [nrm, reduceIte, Nat.reduceEqDiff]
 refine hK5 _ ?_
 refine sr fun Z z => ?_
 simp [row_map, tdiv50, hkt, hkl]
 refine z _ ?_
 clear z Z
 refine AT_ret ?_
 simp [row_map, tdiv50, Tryz.f44]
 (rw [hc2, List.drop_eq_getElem_cons hkl, cntEs_cons, if_neg (by omega)])
 refine sr fun Z z => ?_
 simp [row_map, tdiv50, hkt, hkl]
 refine z _ ?_
 clear z Z
 refine AT_cond (b := false) (g := none) (by simp [hkt, hkl]) (fun hb => ?_) (fun hb => ?_)
 cases hb
 clear hb
 refine AT_exit ?_
 simp only [nrm, reduceIte, Nat.reduceEqDiff]
 refine hK5 _ ?_
 refine sr fun Z z => ?_
 simp [row_map, tdiv50, hkt, hkl]
 refine z _ ?_
 clear z Z
 refine AT_ret ?_
 simp [row_map, tdiv50, Tryz.f44]
 (rw [hc2, List.drop_eq_nil_of_le (by omega)]; rfl)
 refine sr fun Z z => ?_
 simp [row_map, tdiv50, hkt]
 refine z _ ?_
 clear z Z
 refine AT_cond (b := false) (g := none) (by simp [hkt]) (fun hb => ?_) (fun hb => ?_)
 cases hb
 clear hb
 refine AT_exit ?_
 simp only [nrm, reduceIte, Nat.reduceEqDiff]
 refine hK1 _ ?_
 refine AT_seq_k fun K9 hK9 => ?_
 refine sr fun Z z => ?_
 simp [row_map, tdiv50, hkt]
 refine z _ ?_
 clear z Z
 refine AT_block ?_
 refine AT_loop_q [2,1,6] [2] (fun j s => ∃ k c, k ≤ l.length ∧ cntE (.mk kd n t ta l p) j0 = cntEs (l.drop k) c ∧ j = l.length - k ∧ s = { n := 53, tm := [(2, .lp 2 0), (1, .v (.int .i64 (c : Nat)) none), (6, .v (.int .i64 k) none)], bx := [(2, encE (.mk kd n t ta l p))], tb := [], sh := [], hint := [] }) (l.length) (by first | rfl | simp) ?_ ?_
 refine ⟨0, c, by omega, ?_, by omega, by simp⟩
 (rw [hc, List.drop_eq_nil_of_le (by omega)]; rfl)
 rintro j s ⟨k, c, hk, hc2, rfl, rfl⟩ K10 hK10
 refine AT_seq_k fun K11 hK11 => ?_
 by_cases hkl : k < l.length
 refine sr fun Z z => ?_
 simp [row_map, tdiv50, hkt, hkl]
 refine z _ ?_
 clear z Z
 refine AT_cond (g := none) rfl (fun hb42 => ?_) (fun hb42 => ?_)
 simp [row_map, tdiv50, hkt, hkl] at hb42
 refine AT_skip ?_
 simp only [nrm, reduceIte, Nat.reduceEqDiff]
 refine hK11 _ ?_
 refine AT_seq_k fun K12 hK12 => ?_
 refine AT_block ?_
 refine AT_region_q fun Z z => ?_
 simp [row_map, tdiv50, hkt, hkl]
 refine RVn_call (ih l[k] (by simp) (fitEs_mem hf6 (by simp)) c (by omega)) ?_
 simp [row_map, tdiv50, hkt, hkl]
 refine z _ ?_
 clear z Z
 refine hK12 _ ?_
 refine AT_region_q fun Z z => ?_
 simp [row_map, tdiv50, hkt, hkl]
 repeat refine sg ?_
 refine z _ ?_
 clear z Z
 simp only [nrm, reduceIte, Nat.reduceEqDiff]
 refine hK10 _ (by first | rfl | simp) (l.length - (k+1)) (by omega) ?_
 refine ⟨k+1, cntE l[k] c, by omega, ?_, by omega, by simp⟩
 rw [hc2, List.drop_eq_getElem_cons hkl, cntEs_cons, if_pos (by omega)]
 simp [row_map, tdiv50, hkt, hkl] at hb42
 refine AT_exit ?_
 simp only [nrm, reduceIte, Nat.reduceEqDiff]
 refine hK9 _ ?_
 refine sr fun Z z => ?_
 simp [row_map, tdiv50, hkt, hkl]
 refine z _ ?_
 clear z Z
 refine AT_ret ?_
 simp [row_map, tdiv50, Tryz.f44]
 (rw [hc2, List.drop_eq_getElem_cons hkl, cntEs_cons, if_neg (by omega)])
 refine sr fun Z z => ?_
 simp [row_map, tdiv50, hkt, hkl]
 refine z _ ?_
 clear z Z
 refine AT_cond (b := false) (g := none) (by simp [hkt, hkl]) (fun hb => ?_) (fun hb => ?_)
 cases hb
 clear hb
 refine AT_exit ?_
 simp only [nrm, reduceIte, Nat.reduceEqDiff]
 refine hK9 _ ?_
 refine sr fun Z z => ?_
 simp [row_map, tdiv50, hkt, hkl]
 refine z _ ?_
 clear z Z
 refine AT_ret ?_
 simp [row_map, tdiv50, Tryz.f44]
 (rw [hc2, List.drop_eq_nil_of_le (by omega)]; rfl)

theorem c_ref05x_sameTypes (a b : List Ty) (hw : wts a ≤ 1099511627776) : Valid Tryz.prog (G0 g rnd) 85 [.slice (a.map encTy), .slice (b.map encTy)] (.bool (sameTs a b)) := by
 have hla := wts_len a
 refine valid_of [] Tryz.func85 rfl (by kernel_rfl) ?_
 refine sr fun Z z => ?_
 simp [row_map, Tryz.f85]
 refine z _ ?_
 clear z Z
 refine AT_seq_k fun K1 hK1 => ?_
 refine sr fun Z z => ?_
 simp [row_map]
 refine z _ ?_
 clear z Z
 refine AT_cond (g := none) rfl (fun hb10 => ?_) (fun hb10 => ?_)
 simp [row_map] at hb10
 refine sr fun Z z => ?_
 simp [row_map, hb10]
 refine z _ ?_
 clear z Z
 refine AT_ret ?_
 simp [row_map, Tryz.f85]
 (· rw [sameTs_len (show a.length ≠ b.length by omega)])
 simp [row_map] at hb10
 have hab : a.length = b.length := by omega
 refine AT_skip ?_
 simp only [nrm, reduceIte, Nat.reduceEqDiff]
 refine hK1 _ ?_
 refine AT_seq_k fun K2 hK2 => ?_
 refine sr fun Z z => ?_
 simp [row_map]
 refine z _ ?_
 clear z Z
 refine AT_block ?_
 refine AT_loop_q [0,1,5] [] (fun j s => ∃ k, k ≤ a.length ∧ sameTs a b = sameTs (a.drop k) (b.drop k) ∧ j = a.length - k ∧ s = { n := 27, tm := [(0, .v (.slice (a.map encTy)) none), (1, .v (.slice (b.map encTy)) none), (5, .v (.int .i64 k) none)], bx := [], tb := [], sh := [], hint := [] }) (a.length) (by first | rfl | simp) ?_ ?_
 exact ⟨0, by simp⟩
 rintro j s ⟨k, hk, hc, rfl, rfl⟩ K3 hK3
 refine AT_seq_k fun K4 hK4 => ?_
 refine sr fun Z z => ?_
 simp [row_map]
 refine z _ ?_
 clear z Z
 refine AT_cond (g := none) rfl (fun hb14 => ?_) (fun hb14 => ?_)
 simp [row_map] at hb14
 refine AT_skip ?_
 simp only [nrm, reduceIte, Nat.reduceEqDiff]
 refine hK4 _ ?_
 refine AT_seq_k fun K5 hK5 => ?_
 refine AT_block ?_
 refine AT_seq_draw Pt.mixed (by kernel_rfl) fun Z z => ?_
 have hku : k < b.length := by omega
 have hm := wts_mem (l := a) (t := a[k]) (by simp)
 have hda := List.drop_eq_getElem_cons hb14
 have hdb := List.drop_eq_getElem_cons hku
 simp [row_map, hku, hb14]
 refine RVdn_call (c_ref04x_Same g rnd a[k] b[k] (by omega)) ?_
 simp [row_map, hku, hb14]
 refine z _ ?_
 clear z Z
 refine AT_cond (g := none) rfl (fun hb26 => ?_) (fun hb26 => ?_)
 simp [row_map, hb14] at hb26
 refine sr fun Z z => ?_
 simp [row_map, hb14, hb26]
 refine z _ ?_
 clear z Z
 refine AT_ret ?_
 simp [row_map, Tryz.f85]
 (· rw [hc, hda, hdb, sameTs_cons]; simp [hb26])
 simp [row_map, hb14] at hb26
 refine AT_skip ?_
 simp only [nrm, reduceIte, Nat.reduceEqDiff]
 refine hK5 _ ?_
 refine AT_region_q fun Z z => ?_
 simp [row_map, hb14, hb26]
 repeat refine sg ?_
 refine z _ ?_
 clear z Z
 simp only [nrm, reduceIte, Nat.reduceEqDiff]
 refine hK3 _ (by first | rfl | simp) (a.length - (k+1)) (by omega) ?_
 refine ⟨k+1, by omega, ?_, by omega, by simp⟩
 rw [hc, hda, hdb, sameTs_cons]; simp [hb26]
 simp [row_map] at hb14
 refine AT_exit ?_
 simp only [nrm, reduceIte, Nat.reduceEqDiff]
 refine hK2 _ ?_
 refine sr fun Z z => ?_
 simp [row_map, hb14]
 refine z _ ?_
 clear z Z
 refine AT_ret ?_
 simp [row_map, Tryz.f85]
 (rw [hc, List.drop_eq_nil_of_le hb14, List.drop_eq_nil_of_le (show b.length ≤ k by omega)]; rfl)

theorem c_ref05x_Same : ∀ e f : Exp, wtE e ≤ 1000000000 → Valid Tryz.prog (G0 g rnd) 53 [.agg (encE e), .agg (encE f)] (.bool (sameE e f)) := by
 intro e
 induction e using Exp.ind with
 | h kd n t ta l p ih =>
 intro f hw
 obtain ⟨kf, m, u, ua, ul, q⟩ := f
 have hw2 : n.length + 1 + wt t + wts ta + wtEs l ≤ 1000000000 := by simpa [wtE_mk] using hw
 have hln := wtEs_len l
 have hla := wts_len ta
 refine valid_of [] Tryz.func53 rfl (by kernel_rfl) ?_
 refine sr fun Z z => ?_
 simp [row_map, Tryz.f53]
 refine z _ ?_
 clear z Z
 refine AT_seq_k fun K1 hK1 => ?_
 cases h1 : (kd != kf)
 cases h2 : (n == m)
 refine sr fun Z z => ?_
 simp [row_map, h1, h2]
 refine z _ ?_
 clear z Z
 refine AT_cond (b := true) (g := none) (by simp [h1, h2]) (fun hb => ?_) (fun hb => ?_)
 clear hb
 refine sr fun Z z => ?_
 simp [row_map, h1, h2]
 refine z _ ?_
 clear z Z
 refine AT_ret ?_
 simp [row_map, Tryz.f53]
 (· simp [sameE, h2])
 cases hb
 cases h3 : (cmpT t u == 0)
 refine sr fun Z z => ?_
 simp [row_map, h1, h2, h3]
 refine RVn_call (c_ref04x_Same g rnd t u (by omega)) ?_
 simp [row_map, h1, h2, h3]
 repeat refine sg ?_
 refine z _ ?_
 clear z Z
 refine AT_cond (b := true) (g := none) (by simp [h1, h2, h3]) (fun hb => ?_) (fun hb => ?_)
 clear hb
 refine sr fun Z z => ?_
 simp [row_map, h1, h2, h3]
 refine z _ ?_
 clear z Z
 refine AT_ret ?_
 simp [row_map, Tryz.f53]
 (· simp [sameE, h3])
 cases hb
 cases h4 : (sameTs ta ua)
 refine sr fun Z z => ?_
 simp [row_map, h1, h2, h3, h4]
 refine RVn_call (c_ref04x_Same g rnd t u (by omega)) ?_
 simp [row_map, h1, h2, h3, h4]
 repeat refine sg ?_
 refine RVn_call (c_ref05x_sameTypes g rnd ta ua (by omega)) ?_
 simp [row_map, h1, h2, h3, h4]
 repeat refine sg ?_
 refine z _ ?_
 clear z Z
 refine AT_cond (b := true) (g := none) (by simp [h1, h2, h3, h4]) (fun hb => ?_) (fun hb => ?_)
 clear hb
 refine sr fun Z z => ?_
 simp [row_map, h1, h2, h3, h4]
 refine z _ ?_
 clear z Z
 refine AT_ret ?_
 simp [row_map, Tryz.f53]
 (· simp [sameE, h4])
 cases hb
 by_cases h5 : (l.length : Int) = ul.length
 have h5b : ((l.length : Int) != ul.length) = false := by simpa using h5
 refine sr fun Z z => ?_
 simp [row_map, h1, h2, h3, h4, h5b]
 refine RVn_call (c_ref04x_Same g rnd t u (by omega)) ?_
 simp [row_map, h1, h2, h3, h4, h5b]
 repeat refine sg ?_
 refine RVn_call (c_ref05x_sameTypes g rnd ta ua (by omega)) ?_
 simp [row_map, h1, h2, h3, h4, h5b]
 repeat refine sg ?_
 refine z _ ?_
 clear z Z
 refine AT_cond (b := false) (g := none) (by simp [h1, h2, h3, h4, h5b]) (fun hb => ?_) (fun hb => ?_)
 cases hb
 clear hb
 refine AT_skip ?_
 simp only [nrm, reduceIte, Nat.reduceEqDiff]
 refine hK1 _ ?_
 refine AT_seq_k fun K2 hK2 => ?_
 refine sr fun Z z => ?_
 simp [row_map, h1, h2, h3, h4, h5b]
 refine z _ ?_
 clear z Z
 refine AT_block ?_
 refine AT_loop_q [2,3,5] [2,3] (fun j s => ∃ k, k ≤ l.length ∧ sameEs l ul = sameEs (l.drop k) (ul.drop k) ∧ j = l.length - k ∧ s = { n := 62, tm := [(2, .lp 2 0), (3, .lp 3 0), (5, .v (.int .i64 k) none)], bx := [(2, encE (.mk kd n t ta l p)), (3, encE (.mk kf m u ua ul q))], tb := [], sh := [], hint := [] }) (l.length) (by first | rfl | simp) ?_ ?_
 exact ⟨0, by simp⟩
 rintro j s ⟨k, hk, hc, rfl, rfl⟩ K3 hK3
 refine AT_seq_k fun K4 hK4 => ?_
 refine sr fun Z z => ?_
 simp [row_map, h1, h2, h3, h4, h5b]
 refine z _ ?_
 clear z Z
 refine AT_cond (g := none) rfl (fun hb47 => ?_) (fun hb47 => ?_)
 simp [row_map, h1, h2, h3, h4, h5b] at hb47
 refine AT_skip ?_
 simp only [nrm, reduceIte, Nat.reduceEqDiff]
 refine hK4 _ ?_
 refine AT_seq_k fun K5 hK5 => ?_
 refine AT_block ?_
 refine AT_seq_draw Pt.mixed (by kernel_rfl) fun Z z => ?_
 have hku : k < ul.length := by omega
 have hm := wtEs_mem (l := l) (e := l[k]) (by simp)
 have hda := List.drop_eq_getElem_cons hb47
 have hdb := List.drop_eq_getElem_cons hku
 simp [row_map, hku, h1, h2, h3, h4, h5b, hb47]
 refine RVdn_call (ih l[k] (by simp) ul[k] (by omega)) ?_
 simp [row_map, hku, h1, h2, h3, h4, h5b, hb47]
 refine z _ ?_
 clear z Z
 refine AT_cond (g := none) rfl (fun hb61 => ?_) (fun hb61 => ?_)
 simp [row_map, h1, h2, h3, h4, h5b, hb47] at hb61
 refine sr fun Z z => ?_
 simp [row_map, h1, h2, h3, h4, h5b, hb47, hb61]
 refine z _ ?_
 clear z Z
 refine AT_ret ?_
 simp [row_map, Tryz.f53]
 (· have he : sameE (.mk kd n t ta l p) (.mk kf m u ua ul q) = sameEs l ul := by simp [sameE, show (kd == kf) = true by simpa using h1, h2, h3, h4]
    rw [he, hc, hda, hdb, sameEs_cons]; simp [hb61])
 simp [row_map, h1, h2, h3, h4, h5b, hb47] at hb61
 refine AT_skip ?_
 simp only [nrm, reduceIte, Nat.reduceEqDiff]
 refine hK5 _ ?_
 refine AT_region_q fun Z z => ?_
 simp [row_map, h1, h2, h3, h4, h5b, hb47, hb61]
 repeat refine sg ?_
 refine z _ ?_
 clear z Z
 simp only [nrm, reduceIte, Nat.reduceEqDiff]
 refine hK3 _ (by first | rfl | simp) (l.length - (k+1)) (by omega) ?_
 refine ⟨k+1, by omega, ?_, by omega, by simp⟩
 rw [hc, hda, hdb, sameEs_cons]; simp [hb61]
 simp [row_map, h1, h2, h3, h4, h5b] at hb47
 refine AT_exit ?_
 simp only [nrm, reduceIte, Nat.reduceEqDiff]
 refine hK2 _ ?_
 refine sr fun Z z => ?_
 simp [row_map, h1, h2, h3, h4, h5b, hb47]
 refine z _ ?_
 clear z Z
 refine AT_ret ?_
 simp [row_map, Tryz.f53]
 (· have he : sameE (.mk kd n t ta l p) (.mk kf m u ua ul q) = sameEs l ul := by simp [sameE, show (kd == kf) = true by simpa using h1, h2, h3, h4]
    rw [he, hc, List.drop_eq_nil_of_le hb47, List.drop_eq_nil_of_le (show ul.length ≤ k by omega)]; simp [sameEs])
 have h5b : ((l.length : Int) != ul.length) = true := by simpa using h5
 refine sr fun Z z => ?_
 simp [row_map, h1, h2, h3, h4, h5b]
 refine RVn_call (c_ref04x_Same g rnd t u (by omega)) ?_
 simp [row_map, h1, h2, h3, h4, h5b]
 repeat refine sg ?_
 refine RVn_call (c_ref05x_sameTypes g rnd ta ua (by omega)) ?_
 simp [row_map, h1, h2, h3, h4, h5b]
 repeat refine sg ?_
 refine z _ ?_
 clear z Z
 refine AT_cond (b := true) (g := none) (by simp [h1, h2, h3, h4, h5b]) (fun hb => ?_) (fun hb => ?_)
 clear hb
 refine sr fun Z z => ?_
 simp [row_map, h1, h2, h3, h4, h5b]
 refine z _ ?_
 clear z Z
 refine AT_ret ?_
 simp [row_map, Tryz.f53]
 (· simp [sameE, sameEs_len (show l.length ≠ ul.length by omega)])
 cases hb
 refine sr fun Z z => ?_
 simp [row_map, h1]
 refine z _ ?_
 clear z Z
 refine AT_cond (b := true) (g := none) (by simp [h1]) (fun hb => ?_) (fun hb => ?_)
 clear hb
 refine sr fun Z z => ?_
 simp [row_map, h1]
 refine z _ ?_
 clear z Z
 refine AT_ret ?_
 simp [row_map, Tryz.f53]
 (· simp [sameE, show (kd == kf) = false by simpa using h1])
 cases hb

end Go.Proofs.YtepbmjchhcmcoaaGreatDoor
end

section
/- Contracts: expressions, shown and measured. -/
set_option linter.all false
set_option maxHeartbeats 1000000
set_option maxRecDepth 10000
namespace Go.Proofs.YtepbmjchhcmcoaaGreatDoor
open Go Go.Pv
variable (g : Nat → Option (List AV)) (rnd : Bool)

end Go.Proofs.YtepbmjchhcmcoaaGreatDoor
end

section
/- Contracts: texts of expressions. -/
set_option linter.all false
set_option maxHeartbeats 1000000
set_option maxRecDepth 10000
namespace Go.Proofs.YtepbmjchhcmcoaaGreatDoor
open Go Go.Pv
variable (g : Nat → Option (List AV)) (rnd : Bool)

theorem c_expr_join_api_Type (ts : List Ty) (hw : wts ts ≤ 1000000000) : Valid Tryz.prog (G0 g rnd) 56 [.slice (ts.map encTy), .func 43 []] (.str (Lib.join (txts ts) [44, 32])) := by
 have hlt := wts_len ts
 have hjl := txts_join_len ts
 refine valid_of [(5, 9)] Tryz.func56 rfl (by kernel_rfl) ?_
 refine sr fun Z z => ?_
 simp [row_map, Tryz.f56]
 refine z _ ?_
 clear z Z
 refine sr fun Z z => ?_
 simp [row_map]
 refine z _ ?_
 clear z Z
 refine AT_seq_k fun K1 hK1 => ?_
 refine sr fun Z z => ?_
 simp [row_map]
 refine z _ ?_
 clear z Z
 refine AT_block ?_
 refine AT_loop_q [1,5,8,9,10] [] (fun j s => ∃ k, k ≤ ts.length ∧ j = ts.length - k ∧ s = { n := 23, tm := [(1, .v (.func 43 []) none), (5, .v (.slice ((txts (ts.take k)).map encS)) (some (5, 9))), (8, .v (.slice (ts.map encTy)) none), (9, .v (.int .i64 ts.length) none), (10, .v (.int .i64 k) none)], bx := [], tb := [], sh := [], hint := [(5, 9)] }) (ts.length) (by first | rfl | simp) ?_ ?_
 exact ⟨0, by simp [txts]⟩
 rintro j s ⟨k, hk, rfl, rfl⟩ K2 hK2
 refine sr fun Z z => ?_
 simp [row_map]
 refine z _ ?_
 clear z Z
 refine AT_seq_k fun K3 hK3 => ?_
 refine AT_cond (g := none) rfl (fun hb11 => ?_) (fun hb11 => ?_)
 simp [row_map] at hb11
 refine AT_skip ?_
 simp only [nrm, reduceIte, Nat.reduceEqDiff]
 refine hK3 _ ?_
 refine AT_seq_k fun K4 hK4 => ?_
 refine AT_block ?_
 refine sr fun Z z => ?_
 simp [row_map, hb11]
 refine z _ ?_
 clear z Z
 refine AT_region_q fun Z z => ?_
 have hm := wts_mem (l := ts) (t := ts[k]) (by simp)
 have htl := txts_len (ts.take k)
 have hlt2 : (ts.take k).length ≤ k := by simp; omega
 simp [row_map, hb11]
 refine RVn_call (c_types_Text g rnd ts[k] (by omega)) ?_
 simp [row_map, hb11]
 repeat refine sg ?_
 refine z _ ?_
 clear z Z
 refine hK4 _ ?_
 refine AT_region_q fun Z z => ?_
 simp [row_map, hb11]
 repeat refine sg ?_
 refine z _ ?_
 clear z Z
 simp only [nrm, reduceIte, Nat.reduceEqDiff]
 refine hK2 _ (by first | rfl | simp) (ts.length - (k+1)) (by omega) ?_
 have hs := txts_take ts k hb11
 exact ⟨k+1, by omega, by omega, by simp [hs, encS]⟩
 simp [row_map] at hb11
 refine AT_exit ?_
 simp only [nrm, reduceIte, Nat.reduceEqDiff]
 refine hK1 _ ?_
 refine sr fun Z z => ?_
 try rw [List.take_of_length_le hb11]
 simp [row_map, hb11]
 refine RVn_call (c_strings_Join g rnd (txts ts) [44, 32] (by rw [txts_len]; omega) (by omega)) ?_
 simp [row_map, hb11]
 refine z _ ?_
 clear z Z
 refine AT_ret ?_
 simp [row_map, Tryz.f56]

theorem c_expr_join_api_Expr (l : List Exp) (hw : wtEs l ≤ 1000000000) (hs : ∀ e ∈ l, Valid Tryz.prog (G0 g rnd) 23 [.agg (encE e)] (.str (txtE e))) : Valid Tryz.prog (G0 g rnd) 57 [.slice (l.map encE), .func 23 []] (.str (Lib.join (txtEs l) [44, 32])) := by
 have hlt := wtEs_len l
 have hjl := txtEs_join_len l
 refine valid_of [(5, 9)] Tryz.func57 rfl (by kernel_rfl) ?_
 refine sr fun Z z => ?_
 simp [row_map, Tryz.f57]
 refine z _ ?_
 clear z Z
 refine sr fun Z z => ?_
 simp [row_map]
 refine z _ ?_
 clear z Z
 refine AT_seq_k fun K1 hK1 => ?_
 refine sr fun Z z => ?_
 simp [row_map]
 refine z _ ?_
 clear z Z
 refine AT_block ?_
 refine AT_loop_q [1,5,8,9,10] [] (fun j s => ∃ k, k ≤ l.length ∧ j = l.length - k ∧ s = { n := 23, tm := [(1, .v (.func 23 []) none), (5, .v (.slice ((txtEs (l.take k)).map encS)) (some (5, 9))), (8, .v (.slice (l.map encE)) none), (9, .v (.int .i64 l.length) none), (10, .v (.int .i64 k) none)], bx := [], tb := [], sh := [], hint := [(5, 9)] }) (l.length) (by first | rfl | simp) ?_ ?_
 exact ⟨0, by simp [txtEs]⟩
 rintro j s ⟨k, hk, rfl, rfl⟩ K2 hK2
 refine sr fun Z z => ?_
 simp [row_map]
 refine z _ ?_
 clear z Z
 refine AT_seq_k fun K3 hK3 => ?_
 refine AT_cond (g := none) rfl (fun hb11 => ?_) (fun hb11 => ?_)
 simp [row_map] at hb11
 refine AT_skip ?_
 simp only [nrm, reduceIte, Nat.reduceEqDiff]
 refine hK3 _ ?_
 refine AT_seq_k fun K4 hK4 => ?_
 refine AT_block ?_
 refine sr fun Z z => ?_
 simp [row_map, hb11]
 refine z _ ?_
 clear z Z
 refine AT_region_q fun Z z => ?_
 have htl := txtEs_len (l.take k)
 have hlt2 : (l.take k).length ≤ k := by simp; omega
 simp [row_map, hb11]
 refine RVn_call (hs l[k] (by simp)) ?_
 simp [row_map, hb11]
 repeat refine sg ?_
 refine z _ ?_
 clear z Z
 refine hK4 _ ?_
 refine AT_region_q fun Z z => ?_
 simp [row_map, hb11]
 repeat refine sg ?_
 refine z _ ?_
 clear z Z
 simp only [nrm, reduceIte, Nat.reduceEqDiff]
 refine hK2 _ (by first | rfl | simp) (l.length - (k+1)) (by omega) ?_
 have hs := txtEs_take l k hb11
 exact ⟨k+1, by omega, by omega, by simp [hs, encS]⟩
 simp [row_map] at hb11
 refine AT_exit ?_
 simp only [nrm, reduceIte, Nat.reduceEqDiff]
 refine hK1 _ ?_
 refine sr fun Z z => ?_
 try rw [List.take_of_length_le hb11]
 simp [row_map, hb11]
 refine RVn_call (c_strings_Join g rnd (txtEs l) [44, 32] (by rw [txtEs_len]; omega) (by omega)) ?_
 simp [row_map, hb11]
 refine z _ ?_
 clear z Z
 refine AT_ret ?_
 simp [row_map, Tryz.f57]

theorem c_expr_Text (e : Exp) : rightE e = true → wtE e ≤ 1000000000 → Valid Tryz.prog (G0 g rnd) 23 [.agg (encE e)] (.str (txtE e)) := by
 induction e using Exp.ind with
 | h kd n t ta l p ih =>
 intro hr hw
 have hw2 : n.length + 1 + wt t + wts ta + wtEs l ≤ 1000000000 := by simpa [wtE_mk] using hw
 have hln := wtEs_len l
 have hla := wts_len ta
 refine valid_of [] Tryz.func23 rfl (by kernel_rfl) ?_
 refine sr fun Z z => ?_
 simp [row_map, Tryz.f23]
 refine z _ ?_
 clear z Z
 refine AT_seq_k fun K1 hK1 => ?_
 rcases rightE_kind hr with ⟨hk, hl⟩ | ⟨hk, hl0⟩ | hk | ⟨hk45, hl1⟩
 have e1 : (kd == 1) = true := by rw [hk]; rfl
 have e2 : (kd == 2) = false := by rw [hk]; rfl
 have e3 : (kd == 3) = false := by rw [hk]; rfl
 have e4 : (kd == 4) = false := by rw [hk]; rfl
 have e5 : (kd == 5) = false := by rw [hk]; rfl
 refine sr fun Z z => ?_
 simp [row_map, e1, e2, e3, e4, e5]
 repeat (refine ⟨by first | omega | (simp only [List.length_append, List.length_cons, List.length_nil]; omega) | (simp at *; omega), ?_⟩)
 refine z _ ?_
 clear z Z
 refine AT_block ?_
 refine sr fun Z z => ?_
 simp [row_map, e1, e2, e3, e4, e5]
 repeat (refine ⟨by first | omega | (simp only [List.length_append, List.length_cons, List.length_nil]; omega) | (simp at *; omega), ?_⟩)
 refine z _ ?_
 clear z Z
 refine AT_cond (b := false) (g := none) (by simp [e1, e2, e3, e4, e5]) (fun hb => ?_) (fun hb => ?_)
 cases hb
 clear hb
 refine sr fun Z z => ?_
 simp [row_map, e1, e2, e3, e4, e5]
 repeat (refine ⟨by first | omega | (simp only [List.length_append, List.length_cons, List.length_nil]; omega) | (simp at *; omega), ?_⟩)
 refine z _ ?_
 clear z Z
 refine AT_cond (b := false) (g := none) (by simp [e1, e2, e3, e4, e5]) (fun hb => ?_) (fun hb => ?_)
 cases hb
 clear hb
 refine sr fun Z z => ?_
 simp [row_map, e1, e2, e3, e4, e5]
 repeat (refine ⟨by first | omega | (simp only [List.length_append, List.length_cons, List.length_nil]; omega) | (simp at *; omega), ?_⟩)
 refine z _ ?_
 clear z Z
 refine AT_cond (b := false) (g := none) (by simp [e1, e2, e3, e4, e5]) (fun hb => ?_) (fun hb => ?_)
 cases hb
 clear hb
 refine sr fun Z z => ?_
 simp [row_map, e1, e2, e3, e4, e5]
 repeat (refine ⟨by first | omega | (simp only [List.length_append, List.length_cons, List.length_nil]; omega) | (simp at *; omega), ?_⟩)
 refine z _ ?_
 clear z Z
 refine AT_cond (b := false) (g := none) (by simp [e1, e2, e3, e4, e5]) (fun hb => ?_) (fun hb => ?_)
 cases hb
 clear hb
 refine AT_skip ?_
 refine hK1 _ ?_
 refine sr fun Z z => ?_
 simp [row_map, e1, e2, e3, e4, e5]
 repeat (refine ⟨by first | omega | (simp only [List.length_append, List.length_cons, List.length_nil]; omega) | (simp at *; omega), ?_⟩)
 refine z _ ?_
 clear z Z
 refine AT_ret ?_
 simp [row_map, Tryz.f23]
 (· simp [txtE, hk, hl, txtEs])
 have e1 : (kd == 1) = false := by rw [hk]; rfl
 have e2 : (kd == 2) = true := by rw [hk]; rfl
 have e3 : (kd == 3) = false := by rw [hk]; rfl
 have e4 : (kd == 4) = false := by rw [hk]; rfl
 have e5 : (kd == 5) = false := by rw [hk]; rfl
 have h0 : 0 < l.length := List.length_pos_iff.2 hl0
 have hm0 := wtEs_mem (l := l) (e := l[0]) (by simp)
 have hxw := txtE_wt l[0]
 have hd1 : wtEs (l.drop 1) ≤ wtEs l := by
   conv => rhs; rw [← List.take_append_drop 1 l]
   rw [wtEs_app]; omega
 have hjr := txtEs_join_len (l.drop 1)
 have hta := txt_wt (.mk [] ta 0)
 have htb : wt (.mk [] ta 0) = 1 + wts ta := by simp [wt]
 have hcons : txtEs l = txtE l[0] :: txtEs (l.drop 1) := by
   cases l with
   | nil => exact absurd rfl hl0
   | cons x r => rfl
 refine sr fun Z z => ?_
 simp [row_map, e1, e2, e3, e4, e5, h0]
 repeat (refine ⟨by first | omega | (simp only [List.length_append, List.length_cons, List.length_nil]; omega) | (simp at *; omega), ?_⟩)
 refine z _ ?_
 clear z Z
 refine AT_block ?_
 refine sr fun Z z => ?_
 simp [row_map, e1, e2, e3, e4, e5, h0]
 repeat (refine ⟨by first | omega | (simp only [List.length_append, List.length_cons, List.length_nil]; omega) | (simp at *; omega), ?_⟩)
 refine z _ ?_
 clear z Z
 refine AT_cond (b := true) (g := none) (by simp [e1, e2, e3, e4, e5, h0]) (fun hb => ?_) (fun hb => ?_)
 clear hb
 refine sr fun Z z => ?_
 simp [row_map, e1, e2, e3, e4, e5, h0]
 refine z _ ?_
 clear z Z
 refine AT_seq_k fun K2 hK2 => ?_
 refine sr fun Z z => ?_
 simp [row_map, e1, e2, e3, e4, e5, h0]
 repeat (refine ⟨by first | omega | (simp only [List.length_append, List.length_cons, List.length_nil]; omega) | (simp at *; omega), ?_⟩)
 refine z _ ?_
 clear z Z
 refine AT_cond (g := none) rfl (fun hb11 => ?_) (fun hb11 => ?_)
 simp [row_map, e1, e2, e3, e4, e5, h0] at hb11
 refine AT_region_q fun Z z => ?_
 have hjt := txts_join_len ta
 simp [row_map, e1, e2, e3, e4, e5, h0]
 repeat (refine ⟨by first | omega | (simp only [List.length_append, List.length_cons, List.length_nil]; omega) | (simp at *; omega), ?_⟩)
 refine RVn_call (c_expr_join_api_Type g rnd ta (by omega)) ?_
 simp [row_map, e1, e2, e3, e4, e5, h0]
 repeat (refine ⟨by first | omega | (simp only [List.length_append, List.length_cons, List.length_nil]; omega) | (simp at *; omega), ?_⟩)
 refine z _ ?_
 clear z Z
 simp only [nrm, reduceIte, Nat.reduceEqDiff]
 refine hK2 _ ?_
 refine AT_seq_draw Pt.mixed (by kernel_rfl) fun Z z => ?_
 have hjt := txts_join_len ta
 simp [row_map, e1, e2, e3, e4, e5, h0]
 repeat (refine ⟨by first | omega | (simp only [List.length_append, List.length_cons, List.length_nil]; omega) | (simp at *; omega), ?_⟩)
 refine RVdn_call (ih l[0] (by simp) (rightE_kids hr l[0] (by simp)) (by omega)) ?_
 simp [row_map, e1, e2, e3, e4, e5, h0]
 repeat (refine ⟨by first | omega | (simp only [List.length_append, List.length_cons, List.length_nil]; omega) | (simp at *; omega), ?_⟩)
 refine RVdn_call ((by have h := c_expr_join_api_Expr g rnd (l.drop 1) (by omega) (fun y hy => ih y (List.mem_of_mem_drop hy) (rightE_kids hr y (List.mem_of_mem_drop hy)) (by have := wtEs_mem hy; omega)); rw [List.map_drop, List.drop_one] at h; exact h)) ?_
 simp [row_map, e1, e2, e3, e4, e5, h0]
 repeat (refine ⟨by first | omega | (simp only [List.length_append, List.length_cons, List.length_nil]; omega) | (simp at *; omega), ?_⟩)
 refine z _ ?_
 clear z Z
 refine AT_ret ?_
 simp [row_map, Tryz.f23]
 (· have hne : ta.isEmpty = false := by cases ta with | nil => exact absurd hb11 (by simp) | cons a b => rfl
    simp [txtE, hk, hcons, txt, hne])
 simp [row_map, e1, e2, e3, e4, e5, h0] at hb11
 refine AT_skip ?_
 simp only [nrm, reduceIte, Nat.reduceEqDiff]
 refine hK2 _ ?_
 refine AT_seq_draw Pt.mixed (by kernel_rfl) fun Z z => ?_
 have hjt := txts_join_len ta
 simp [row_map, e1, e2, e3, e4, e5, h0]
 repeat (refine ⟨by first | omega | (simp only [List.length_append, List.length_cons, List.length_nil]; omega) | (simp at *; omega), ?_⟩)
 refine RVdn_call (ih l[0] (by simp) (rightE_kids hr l[0] (by simp)) (by omega)) ?_
 simp [row_map, e1, e2, e3, e4, e5, h0]
 repeat (refine ⟨by first | omega | (simp only [List.length_append, List.length_cons, List.length_nil]; omega) | (simp at *; omega), ?_⟩)
 refine RVdn_call ((by have h := c_expr_join_api_Expr g rnd (l.drop 1) (by omega) (fun y hy => ih y (List.mem_of_mem_drop hy) (rightE_kids hr y (List.mem_of_mem_drop hy)) (by have := wtEs_mem hy; omega)); rw [List.map_drop, List.drop_one] at h; exact h)) ?_
 simp [row_map, e1, e2, e3, e4, e5, h0]
 repeat (refine ⟨by first | omega | (simp only [List.length_append, List.length_cons, List.length_nil]; omega) | (simp at *; omega), ?_⟩)
 refine z _ ?_
 clear z Z
 refine AT_ret ?_
 simp [row_map, Tryz.f23]
 (· have hne : ta = [] := by cases ta with | nil => rfl | cons a b => exact absurd hb11 (by simp)
    simp [txtE, hk, hcons, txt, hne])
 cases hb
 have e1 : (kd == 1) = false := by rw [hk]; rfl
 have e2 : (kd == 2) = false := by rw [hk]; rfl
 have e3 : (kd == 3) = true := by rw [hk]; rfl
 have e4 : (kd == 4) = false := by rw [hk]; rfl
 have e5 : (kd == 5) = false := by rw [hk]; rfl
 have htw := txt_wt t
 have hjl := txtEs_join_len l
 refine sr fun Z z => ?_
 simp [row_map, e1, e2, e3, e4, e5]
 repeat (refine ⟨by first | omega | (simp only [List.length_append, List.length_cons, List.length_nil]; omega) | (simp at *; omega), ?_⟩)
 refine z _ ?_
 clear z Z
 refine AT_block ?_
 refine sr fun Z z => ?_
 simp [row_map, e1, e2, e3, e4, e5]
 repeat (refine ⟨by first | omega | (simp only [List.length_append, List.length_cons, List.length_nil]; omega) | (simp at *; omega), ?_⟩)
 refine z _ ?_
 clear z Z
 refine AT_cond (b := false) (g := none) (by simp [e1, e2, e3, e4, e5]) (fun hb => ?_) (fun hb => ?_)
 cases hb
 clear hb
 refine sr fun Z z => ?_
 simp [row_map, e1, e2, e3, e4, e5]
 repeat (refine ⟨by first | omega | (simp only [List.length_append, List.length_cons, List.length_nil]; omega) | (simp at *; omega), ?_⟩)
 refine z _ ?_
 clear z Z
 refine AT_cond (b := true) (g := none) (by simp [e1, e2, e3, e4, e5]) (fun hb => ?_) (fun hb => ?_)
 clear hb
 refine AT_seq_draw Pt.mixed (by kernel_rfl) fun Z z => ?_
 simp [row_map, e1, e2, e3, e4, e5]
 repeat (refine ⟨by first | omega | (simp only [List.length_append, List.length_cons, List.length_nil]; omega) | (simp at *; omega), ?_⟩)
 refine RVdn_call (c_types_Text g rnd t (by omega)) ?_
 simp [row_map, e1, e2, e3, e4, e5]
 repeat (refine ⟨by first | omega | (simp only [List.length_append, List.length_cons, List.length_nil]; omega) | (simp at *; omega), ?_⟩)
 refine RVdn_call (c_expr_join_api_Expr g rnd l (by omega) (fun y hy => ih y hy (rightE_kids hr y hy) (by have := wtEs_mem hy; omega))) ?_
 simp [row_map, e1, e2, e3, e4, e5]
 repeat (refine ⟨by first | omega | (simp only [List.length_append, List.length_cons, List.length_nil]; omega) | (simp at *; omega), ?_⟩)
 refine z _ ?_
 clear z Z
 refine AT_ret ?_
 simp [row_map, Tryz.f23]
 (· simp [txtE, hk])
 cases hb
 have h0 : 0 < l.length := by omega
 have hm0 := wtEs_mem (l := l) (e := l[0]) (by simp)
 have hxw := txtE_wt l[0]
 have htw := txt_wt t
 have hcons : txtEs l = [txtE l[0]] := by
   obtain ⟨x, rfl⟩ := List.length_eq_one_iff.1 hl1
   rfl
 rcases hk45 with hk | hk
 have e1 : (kd == 1) = false := by rw [hk]; rfl
 have e2 : (kd == 2) = false := by rw [hk]; rfl
 have e3 : (kd == 3) = false := by rw [hk]; rfl
 have e4 : (kd == 4) = true := by rw [hk]; rfl
 have e5 : (kd == 5) = false := by rw [hk]; rfl
 refine sr fun Z z => ?_
 simp [row_map, h0, e1, e2, e3, e4, e5]
 repeat (refine ⟨by first | omega | (simp only [List.length_append, List.length_cons, List.length_nil]; omega) | (simp at *; omega), ?_⟩)
 refine z _ ?_
 clear z Z
 refine AT_block ?_
 refine sr fun Z z => ?_
 simp [row_map, h0, e1, e2, e3, e4, e5]
 repeat (refine ⟨by first | omega | (simp only [List.length_append, List.length_cons, List.length_nil]; omega) | (simp at *; omega), ?_⟩)
 refine z _ ?_
 clear z Z
 refine AT_cond (b := false) (g := none) (by simp [h0, e1, e2, e3, e4, e5]) (fun hb => ?_) (fun hb => ?_)
 cases hb
 clear hb
 refine sr fun Z z => ?_
 simp [row_map, h0, e1, e2, e3, e4, e5]
 repeat (refine ⟨by first | omega | (simp only [List.length_append, List.length_cons, List.length_nil]; omega) | (simp at *; omega), ?_⟩)
 refine z _ ?_
 clear z Z
 refine AT_cond (b := false) (g := none) (by simp [h0, e1, e2, e3, e4, e5]) (fun hb => ?_) (fun hb => ?_)
 cases hb
 clear hb
 refine sr fun Z z => ?_
 simp [row_map, h0, e1, e2, e3, e4, e5]
 repeat (refine ⟨by first | omega | (simp only [List.length_append, List.length_cons, List.length_nil]; omega) | (simp at *; omega), ?_⟩)
 refine z _ ?_
 clear z Z
 refine AT_cond (b := true) (g := none) (by simp [h0, e1, e2, e3, e4, e5]) (fun hb => ?_) (fun hb => ?_)
 clear hb
 refine AT_seq_draw Pt.mixed (by kernel_rfl) fun Z z => ?_
 simp [row_map, h0, e1, e2, e3, e4, e5]
 repeat (refine ⟨by first | omega | (simp only [List.length_append, List.length_cons, List.length_nil]; omega) | (simp at *; omega), ?_⟩)
 refine RVdn_call (ih l[0] (by simp) (rightE_kids hr l[0] (by simp)) (by omega)) ?_
 simp [row_map, h0, e1, e2, e3, e4, e5]
 repeat (refine ⟨by first | omega | (simp only [List.length_append, List.length_cons, List.length_nil]; omega) | (simp at *; omega), ?_⟩)
 refine z _ ?_
 clear z Z
 refine AT_ret ?_
 simp [row_map, Tryz.f23]
 (· simp [txtE, hk, hcons])
 cases hb
 have e1 : (kd == 1) = false := by rw [hk]; rfl
 have e2 : (kd == 2) = false := by rw [hk]; rfl
 have e3 : (kd == 3) = false := by rw [hk]; rfl
 have e4 : (kd == 4) = false := by rw [hk]; rfl
 have e5 : (kd == 5) = true := by rw [hk]; rfl
 refine sr fun Z z => ?_
 simp [row_map, h0, e1, e2, e3, e4, e5]
 repeat (refine ⟨by first | omega | (simp only [List.length_append, List.length_cons, List.length_nil]; omega) | (simp at *; omega), ?_⟩)
 refine z _ ?_
 clear z Z
 refine AT_block ?_
 refine sr fun Z z => ?_
 simp [row_map, h0, e1, e2, e3, e4, e5]
 repeat (refine ⟨by first | omega | (simp only [List.length_append, List.length_cons, List.length_nil]; omega) | (simp at *; omega), ?_⟩)
 refine z _ ?_
 clear z Z
 refine AT_cond (b := false) (g := none) (by simp [h0, e1, e2, e3, e4, e5]) (fun hb => ?_) (fun hb => ?_)
 cases hb
 clear hb
 refine sr fun Z z => ?_
 simp [row_map, h0, e1, e2, e3, e4, e5]
 repeat (refine ⟨by first | omega | (simp only [List.length_append, List.length_cons, List.length_nil]; omega) | (simp at *; omega), ?_⟩)
 refine z _ ?_
 clear z Z
 refine AT_cond (b := false) (g := none) (by simp [h0, e1, e2, e3, e4, e5]) (fun hb => ?_) (fun hb => ?_)
 cases hb
 clear hb
 refine sr fun Z z => ?_
 simp [row_map, h0, e1, e2, e3, e4, e5]
 repeat (refine ⟨by first | omega | (simp only [List.length_append, List.length_cons, List.length_nil]; omega) | (simp at *; omega), ?_⟩)
 refine z _ ?_
 clear z Z
 refine AT_cond (b := false) (g := none) (by simp [h0, e1, e2, e3, e4, e5]) (fun hb => ?_) (fun hb => ?_)
 cases hb
 clear hb
 refine sr fun Z z => ?_
 simp [row_map, h0, e1, e2, e3, e4, e5]
 repeat (refine ⟨by first | omega | (simp only [List.length_append, List.length_cons, List.length_nil]; omega) | (simp at *; omega), ?_⟩)
 refine z _ ?_
 clear z Z
 refine AT_cond (b := true) (g := none) (by simp [h0, e1, e2, e3, e4, e5]) (fun hb => ?_) (fun hb => ?_)
 clear hb
 refine AT_seq_draw Pt.mixed (by kernel_rfl) fun Z z => ?_
 simp [row_map, h0, e1, e2, e3, e4, e5]
 repeat (refine ⟨by first | omega | (simp only [List.length_append, List.length_cons, List.length_nil]; omega) | (simp at *; omega), ?_⟩)
 refine RVdn_call (ih l[0] (by simp) (rightE_kids hr l[0] (by simp)) (by omega)) ?_
 simp [row_map, h0, e1, e2, e3, e4, e5]
 repeat (refine ⟨by first | omega | (simp only [List.length_append, List.length_cons, List.length_nil]; omega) | (simp at *; omega), ?_⟩)
 refine RVdn_call (c_types_Text g rnd t (by omega)) ?_
 simp [row_map, h0, e1, e2, e3, e4, e5]
 repeat (refine ⟨by first | omega | (simp only [List.length_append, List.length_cons, List.length_nil]; omega) | (simp at *; omega), ?_⟩)
 refine z _ ?_
 clear z Z
 refine AT_ret ?_
 simp [row_map, Tryz.f23]
 (· simp [txtE, hk, hcons])
 cases hb

end Go.Proofs.YtepbmjchhcmcoaaGreatDoor
end

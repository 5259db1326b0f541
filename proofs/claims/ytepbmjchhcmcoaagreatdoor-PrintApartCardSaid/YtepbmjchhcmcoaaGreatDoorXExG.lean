import Derived.Test.YtepbmjchhcmcoaaGreatDoorPt
import Derived.Test.YtepbmjchhcmcoaaGreatDoorPvPb
import Derived.Test.YtepbmjchhcmcoaaGreatDoorPvY
import Derived.Test.YtepbmjchhcmcoaaGreatDoorPvEa
import Derived.Test.YtepbmjchhcmcoaaGreatDoorXTyE
import Derived.Test.YtepbmjchhcmcoaaGreatDoorXExC
import Derived.Test.YtepbmjchhcmcoaaGreatDoorXLbJ
import Derived.Test.YtepbmjchhcmcoaaGreatDoorXRdE
import Derived.Test.YtepbmjchhcmcoaaGreatDoorPvMb
section
/- Contracts: counting declarations. -/
set_option linter.all false
set_option maxHeartbeats 1000000
set_option maxRecDepth 10000
namespace Go.Proofs.YtepbmjchhcmcoaaGreatDoor
open Go Go.Pv
variable (g : Nat → Option (List AV)) (rnd : Bool)

theorem c_ref06x_countFormals (l : List Fm) (hf : fitFs l) (n : Nat) (hn : n ≤ 100000000000000) : Valid Tryz.prog (G0 g rnd) 46 [.slice (l.map encF), .int .i64 n] (.int .i64 (cntFs l n)) := by
 obtain ⟨hf1, hf2⟩ := hf
 refine valid_of [] Tryz.func46 rfl (by kernel_rfl) ?_
 refine sr fun Z z => ?_
 simp [row_map, tdiv50, encF, Tryz.f46]
 refine z _ ?_
 clear z Z
 refine AT_seq_k fun K1 hK1 => ?_
 refine sr fun Z z => ?_
 simp [row_map, tdiv50, encF]
 refine z _ ?_
 clear z Z
 refine AT_block ?_
 refine AT_loop_q [0,1,5] [] (fun j s => ∃ k c, k ≤ l.length ∧ cntFs l n = cntFs (l.drop k) c ∧ j = l.length - k ∧ s = { n := 33, tm := [(0, .v (.slice (l.map encF)) none), (1, .v (.int .i64 (c : Nat)) none), (5, .v (.int .i64 k) none)], bx := [], tb := [], sh := [], hint := [] }) (l.length) (by first | rfl | simp) ?_ ?_
 exact ⟨0, n, by simp⟩
 rintro j s ⟨k, c, hk, hc, rfl, rfl⟩ K2 hK2
 refine AT_seq_k fun K3 hK3 => ?_
 by_cases hkt : k < l.length
 refine sr fun Z z => ?_
 simp [row_map, tdiv50, encF, hkt]
 refine z _ ?_
 clear z Z
 refine AT_cond (g := none) rfl (fun hb13 => ?_) (fun hb13 => ?_)
 simp [row_map, tdiv50, encF, hkt] at hb13
 refine AT_skip ?_
 simp only [nrm, reduceIte, Nat.reduceEqDiff]
 refine hK3 _ ?_
 refine AT_seq_k fun K4 hK4 => ?_
 refine AT_block ?_
 refine AT_draw_q Pt.mixed (by kernel_rfl) fun Z z => ?_
 have hfk := hf2 l[k] (by simp)
 have hfn := hfk.1
 simp [row_map, tdiv50, encF, hkt]
 repeat refine sg ?_
 refine RVdn_call ((by have h := c_ref04x_Count g rnd l[k].ty hfk.2 (c + 1 + l[k].name.length / 50) (by omega); simp only [encTy_def] at h; exact h)) ?_
 simp [row_map, tdiv50, encF, hkt]
 refine z _ ?_
 clear z Z
 simp only [nrm, reduceIte, Nat.reduceEqDiff]
 refine hK4 _ ?_
 refine AT_region_q fun Z z => ?_
 simp [row_map, tdiv50, encF, hkt]
 repeat refine sg ?_
 refine z _ ?_
 clear z Z
 simp only [nrm, reduceIte, Nat.reduceEqDiff]
 refine hK2 _ (by first | rfl | simp) (l.length - (k+1)) (by omega) ?_
 refine ⟨k+1, cnt l[k].ty (c + 1 + l[k].name.length / 50), by omega, ?_, by omega, by simp⟩
 rw [hc, List.drop_eq_getElem_cons hkt, cntFs_cons, if_pos (by omega)]
 simp [row_map, tdiv50, encF, hkt] at hb13
 refine AT_exit ?_
 simp only [nrm, reduceIte, Nat.reduceEqDiff]
 refine hK1 _ ?_
 refine sr fun Z z => ?_
 simp [row_map, tdiv50, encF, hkt]
 refine z _ ?_
 clear z Z
 refine AT_ret ?_
 simp [row_map, tdiv50, encF, Tryz.f46]
 (rw [hc, List.drop_eq_getElem_cons hkt, cntFs_cons, if_neg (by omega)])
 refine sr fun Z z => ?_
 simp [row_map, tdiv50, encF, hkt]
 refine z _ ?_
 clear z Z
 refine AT_cond (b := false) (g := none) (by simp [hkt]) (fun hb => ?_) (fun hb => ?_)
 cases hb
 clear hb
 refine AT_exit ?_
 simp only [nrm, reduceIte, Nat.reduceEqDiff]
 refine hK1 _ ?_
 refine sr fun Z z => ?_
 simp [row_map, tdiv50, encF, hkt]
 refine z _ ?_
 clear z Z
 refine AT_ret ?_
 simp [row_map, tdiv50, encF, Tryz.f46]
 (rw [hc, List.drop_eq_nil_of_le (by omega)]; rfl)

theorem c_ref06x_countParams (l : List Fm) (hf : fitFs l) (n : Nat) (hn : n ≤ 100000000000000) : Valid Tryz.prog (G0 g rnd) 45 [.slice (l.map encF), .int .i64 n] (.int .i64 (cntFs l n)) := by
 obtain ⟨hf1, hf2⟩ := hf
 refine valid_of [] Tryz.func45 rfl (by kernel_rfl) ?_
 refine sr fun Z z => ?_
 simp [row_map, tdiv50, encF, Tryz.f45]
 refine z _ ?_
 clear z Z
 refine AT_seq_k fun K1 hK1 => ?_
 refine sr fun Z z => ?_
 simp [row_map, tdiv50, encF]
 refine z _ ?_
 clear z Z
 refine AT_block ?_
 refine AT_loop_q [0,1,5] [] (fun j s => ∃ k c, k ≤ l.length ∧ cntFs l n = cntFs (l.drop k) c ∧ j = l.length - k ∧ s = { n := 33, tm := [(0, .v (.slice (l.map encF)) none), (1, .v (.int .i64 (c : Nat)) none), (5, .v (.int .i64 k) none)], bx := [], tb := [], sh := [], hint := [] }) (l.length) (by first | rfl | simp) ?_ ?_
 exact ⟨0, n, by simp⟩
 rintro j s ⟨k, c, hk, hc, rfl, rfl⟩ K2 hK2
 refine AT_seq_k fun K3 hK3 => ?_
 by_cases hkt : k < l.length
 refine sr fun Z z => ?_
 simp [row_map, tdiv50, encF, hkt]
 refine z _ ?_
 clear z Z
 refine AT_cond (g := none) rfl (fun hb13 => ?_) (fun hb13 => ?_)
 simp [row_map, tdiv50, encF, hkt] at hb13
 refine AT_skip ?_
 simp only [nrm, reduceIte, Nat.reduceEqDiff]
 refine hK3 _ ?_
 refine AT_seq_k fun K4 hK4 => ?_
 refine AT_block ?_
 refine AT_draw_q Pt.mixed (by kernel_rfl) fun Z z => ?_
 have hfk := hf2 l[k] (by simp)
 have hfn := hfk.1
 simp [row_map, tdiv50, encF, hkt]
 repeat refine sg ?_
 refine RVdn_call ((by have h := c_ref04x_Count g rnd l[k].ty hfk.2 (c + 1 + l[k].name.length / 50) (by omega); simp only [encTy_def] at h; exact h)) ?_
 simp [row_map, tdiv50, encF, hkt]
 refine z _ ?_
 clear z Z
 simp only [nrm, reduceIte, Nat.reduceEqDiff]
 refine hK4 _ ?_
 refine AT_region_q fun Z z => ?_
 simp [row_map, tdiv50, encF, hkt]
 repeat refine sg ?_
 refine z _ ?_
 clear z Z
 simp only [nrm, reduceIte, Nat.reduceEqDiff]
 refine hK2 _ (by first | rfl | simp) (l.length - (k+1)) (by omega) ?_
 refine ⟨k+1, cnt l[k].ty (c + 1 + l[k].name.length / 50), by omega, ?_, by omega, by simp⟩
 rw [hc, List.drop_eq_getElem_cons hkt, cntFs_cons, if_pos (by omega)]
 simp [row_map, tdiv50, encF, hkt] at hb13
 refine AT_exit ?_
 simp only [nrm, reduceIte, Nat.reduceEqDiff]
 refine hK1 _ ?_
 refine sr fun Z z => ?_
 simp [row_map, tdiv50, encF, hkt]
 refine z _ ?_
 clear z Z
 refine AT_ret ?_
 simp [row_map, tdiv50, encF, Tryz.f45]
 (rw [hc, List.drop_eq_getElem_cons hkt, cntFs_cons, if_neg (by omega)])
 refine sr fun Z z => ?_
 simp [row_map, tdiv50, encF, hkt]
 refine z _ ?_
 clear z Z
 refine AT_cond (b := false) (g := none) (by simp [hkt]) (fun hb => ?_) (fun hb => ?_)
 cases hb
 clear hb
 refine AT_exit ?_
 simp only [nrm, reduceIte, Nat.reduceEqDiff]
 refine hK1 _ ?_
 refine sr fun Z z => ?_
 simp [row_map, tdiv50, encF, hkt]
 refine z _ ?_
 clear z Z
 refine AT_ret ?_
 simp [row_map, tdiv50, encF, Tryz.f45]
 (rw [hc, List.drop_eq_nil_of_le (by omega)]; rfl)

theorem c_ref06x_countSig (s : Sg) (hf : fitG s) (n : Nat) (hn : n ≤ 10000000000000) : Valid Tryz.prog (G0 g rnd) 47 [.agg (encG s), .int .i64 n] (.int .i64 (cntG s n)) := by
 obtain ⟨hf1, hf2, hf3, hf4⟩ := hf
 have e1 := cntFs_ub hf2.2 (n + s.name.length / 50)
 have e2 := cntFs_ub hf3.2 (cntFs s.fms (n + s.name.length / 50))
 refine valid_of [] Tryz.func47 rfl (by kernel_rfl) ?_
 refine sr fun Z z => ?_
 simp [tdiv50, encG, Tryz.f47]
 refine z _ ?_
 clear z Z
 refine AT_seq_draw Pt.mixed (by kernel_rfl) fun Z z => ?_
 simp [tdiv50, encG]
 repeat refine sg ?_
 refine RVdn_call (c_ref06x_countFormals g rnd s.fms hf2 (n + s.name.length / 50) (by omega)) ?_
 simp [tdiv50, encG]
 refine RVdn_call (c_ref06x_countParams g rnd s.pms hf3 (cntFs s.fms (n + s.name.length / 50)) (by omega)) ?_
 simp [tdiv50, encG]
 refine RVdn_call ((by have h := c_ref04x_Count g rnd s.res hf4 (cntFs s.pms (cntFs s.fms (n + s.name.length / 50))) (by omega); simp only [encTy_def] at h; exact h)) ?_
 simp [tdiv50, encG]
 refine z _ ?_
 clear z Z
 refine AT_ret ?_
 simp [tdiv50, encG, Tryz.f47]
 rw [cntG]

theorem c_ref06x_Count (p : Pg) (hf : fitPg p) : Valid Tryz.prog (G0 g rnd) 18 [.agg (encPg p)] (.int .i64 (cntPg p)) := by
 obtain ⟨⟨hf1, hf2⟩, hf3⟩ := hf
 refine valid_of [] Tryz.func18 rfl (by kernel_rfl) ?_
 refine sr fun Z z => ?_
 simp [row_map, tdiv50, encPg, Tryz.f18]
 refine z _ ?_
 clear z Z
 refine sr fun Z z => ?_
 simp [row_map, tdiv50, encPg]
 refine RVn_call ((by have h := c_ref05x_Count g rnd p.main hf3 0 (by omega); simp only [encE_def] at h; exact h)) ?_
 simp [row_map, tdiv50, encPg]
 refine z _ ?_
 clear z Z
 refine AT_seq_k fun K1 hK1 => ?_
 refine sr fun Z z => ?_
 simp [row_map, tdiv50, encPg]
 refine z _ ?_
 clear z Z
 refine AT_block ?_
 refine AT_loop_q [1,3,4] [1] (fun j s => ∃ k c, k ≤ p.decls.length ∧ cntPg p = cntDs (p.decls.drop k) c ∧ j = p.decls.length - k ∧ s = { n := 94, tm := [(1, .lp 1 0), (3, .v (.int .i64 (c : Nat)) none), (4, .v (.int .i64 k) none)], bx := [(1, encPg p)], tb := [], sh := [], hint := [] }) (p.decls.length) (by first | rfl | simp) ?_ ?_
 exact ⟨0, cntE p.main 0, by simp [encPg, cntPg]⟩
 rintro j s ⟨k, c, hk, hc, rfl, rfl⟩ K2 hK2
 refine AT_seq_k fun K3 hK3 => ?_
 by_cases hkt : k < p.decls.length
 refine sr fun Z z => ?_
 simp [row_map, tdiv50, encPg, hkt]
 refine z _ ?_
 clear z Z
 refine AT_cond (g := none) rfl (fun hb19 => ?_) (fun hb19 => ?_)
 simp [row_map, tdiv50, encPg, hkt] at hb19
 refine AT_skip ?_
 simp only [nrm, reduceIte, Nat.reduceEqDiff]
 refine hK3 _ ?_
 refine AT_seq_k fun K4 hK4 => ?_
 refine AT_block ?_
 refine sr fun Z z => ?_
 obtain ⟨q1, ⟨q2a, q2⟩, ⟨q3a, q3⟩, ⟨q4a, q4⟩, q5, ⟨q6a, q6⟩, q7, q8⟩ := hf2 p.decls[k] (by simp)
 have u1 := cntFs_ub q2 (c + 1 + p.decls[k].name.length / 50 + p.decls[k].recv.length / 50)
 have u2 := cntFs_ub q3 (cntFs p.decls[k].fms (c + 1 + p.decls[k].name.length / 50 + p.decls[k].recv.length / 50))
 simp [row_map, tdiv50, encPg, encD, hkt]
 refine z _ ?_
 clear z Z
 refine AT_seq_draw Pt.mixed (by kernel_rfl) fun Z z => ?_
 simp [row_map, tdiv50, encPg, encD, hkt]
 repeat refine sg ?_
 refine RVdn_call (c_ref06x_countFormals g rnd p.decls[k].fms ⟨q2a, q2⟩ (c + 1 + p.decls[k].name.length / 50 + p.decls[k].recv.length / 50) (by omega)) ?_
 simp [row_map, tdiv50, encPg, encD, hkt]
 refine RVdn_call (c_ref06x_countParams g rnd p.decls[k].flds ⟨q3a, q3⟩ (cntFs p.decls[k].fms (c + 1 + p.decls[k].name.length / 50 + p.decls[k].recv.length / 50)) (by omega)) ?_
 simp [row_map, tdiv50, encPg, encD, hkt]
 refine z _ ?_
 clear z Z
 refine AT_seq_k fun K5 hK5 => ?_
 refine sr fun Z z => ?_
 simp [row_map, tdiv50, encPg, hkt]
 refine z _ ?_
 clear z Z
 refine AT_block ?_
 refine AT_loop_q [1,3,4,5,6] [1,5] (fun j s => ∃ m e, m ≤ p.decls[k].sigs.length ∧ cntGs p.decls[k].sigs (cntFs p.decls[k].flds (cntFs p.decls[k].fms (c + 1 + p.decls[k].name.length / 50 + p.decls[k].recv.length / 50))) = cntGs (p.decls[k].sigs.drop m) e ∧ j = p.decls[k].sigs.length - m ∧ s = { n := 94, tm := [(1, .lp 1 0), (3, .v (.int .i64 (e : Nat)) none), (4, .v (.int .i64 k) none), (5, .lp 5 0), (6, .v (.int .i64 m) none)], bx := [(1, encPg p), (5, encD p.decls[k])], tb := [], sh := [], hint := [] }) (p.decls[k].sigs.length) (by first | rfl | simp) ?_ ?_
 exact ⟨0, cntFs p.decls[k].flds (cntFs p.decls[k].fms (c + 1 + p.decls[k].name.length / 50 + p.decls[k].recv.length / 50)), by simp [encD, encPg]⟩
 rintro j s ⟨m, e, hm, he, rfl, rfl⟩ K6 hK6
 refine AT_seq_k fun K7 hK7 => ?_
 by_cases hms : m < p.decls[k].sigs.length
 refine sr fun Z z => ?_
 simp [row_map, tdiv50, encPg, encD, hkt, hms]
 refine z _ ?_
 clear z Z
 refine AT_cond (g := none) rfl (fun hb53 => ?_) (fun hb53 => ?_)
 simp [row_map, tdiv50, encPg, hkt, hms] at hb53
 refine AT_skip ?_
 simp only [nrm, reduceIte, Nat.reduceEqDiff]
 refine hK7 _ ?_
 refine AT_seq_k fun K8 hK8 => ?_
 refine AT_block ?_
 refine AT_region_q fun Z z => ?_
 simp [row_map, tdiv50, encPg, encD, encG, hkt, hms]
 refine RVn_call ((by have h := c_ref06x_countSig g rnd p.decls[k].sigs[m] (q4 _ (by simp)) e (by omega); simp only [encG] at h; exact h)) ?_
 simp [row_map, tdiv50, encPg, encD, encG, hkt, hms]
 refine z _ ?_
 clear z Z
 refine hK8 _ ?_
 refine AT_region_q fun Z z => ?_
 simp [row_map, tdiv50, encPg, hkt, hms]
 repeat refine sg ?_
 refine z _ ?_
 clear z Z
 simp only [nrm, reduceIte, Nat.reduceEqDiff]
 refine hK6 _ (by first | rfl | simp) (p.decls[k].sigs.length - (m+1)) (by omega) ?_
 refine ⟨m+1, cntG p.decls[k].sigs[m] e, by omega, ?_, by omega, by simp [encD, encPg]⟩
 rw [he, List.drop_eq_getElem_cons hms, cntGs_cons, if_pos (by omega)]
 simp [row_map, tdiv50, encPg, hkt, hms] at hb53
 refine AT_exit ?_
 simp only [nrm, reduceIte, Nat.reduceEqDiff]
 refine hK5 _ ?_
 refine AT_seq_k fun K9 hK9 => ?_
 refine sr fun Z z => ?_
 have hG : cntGs p.decls[k].sigs (cntFs p.decls[k].flds (cntFs p.decls[k].fms (c + 1 + p.decls[k].name.length / 50 + p.decls[k].recv.length / 50))) = e := by
   rw [he]
   (rw [List.drop_eq_getElem_cons hms, cntGs_cons, if_neg (by omega)])
 simp [row_map, tdiv50, encPg, hkt, hms]
 refine z _ ?_
 clear z Z
 refine AT_block ?_
 refine AT_loop_q [1,3,4,5,7] [1,5] (fun j s => ∃ i w, i ≤ p.decls[k].vars.length ∧ cntVs p.decls[k].vars (cntGs p.decls[k].sigs (cntFs p.decls[k].flds (cntFs p.decls[k].fms (c + 1 + p.decls[k].name.length / 50 + p.decls[k].recv.length / 50)))) = cntVs (p.decls[k].vars.drop i) w ∧ j = p.decls[k].vars.length - i ∧ s = { n := 94, tm := [(1, .lp 1 0), (3, .v (.int .i64 (w : Nat)) none), (4, .v (.int .i64 k) none), (5, .lp 5 0), (7, .v (.int .i64 i) none)], bx := [(1, encPg p), (5, encD p.decls[k])], tb := [], sh := [], hint := [] }) (p.decls[k].vars.length) (by first | rfl | simp) ?_ ?_
 exact ⟨0, e, by omega, by rw [hG]; rfl, by omega, by simp [encD, encPg]⟩
 rintro j s ⟨i, w, hi, hw, rfl, rfl⟩ K10 hK10
 refine AT_seq_k fun K11 hK11 => ?_
 by_cases hmv : i < p.decls[k].vars.length
 refine sr fun Z z => ?_
 simp [row_map, tdiv50, encPg, encD, hkt, hms, hmv]
 refine z _ ?_
 clear z Z
 refine AT_cond (g := none) rfl (fun hb71 => ?_) (fun hb71 => ?_)
 simp [row_map, tdiv50, encPg, hkt, hms, hmv] at hb71
 refine AT_skip ?_
 simp only [nrm, reduceIte, Nat.reduceEqDiff]
 refine hK11 _ ?_
 refine AT_seq_k fun K12 hK12 => ?_
 refine AT_block ?_
 refine AT_region_q fun Z z => ?_
 have q6k := q6 p.decls[k].vars[i] (by simp)
 simp [row_map, tdiv50, encPg, encD, encS, hkt, hms, hmv]
 repeat refine sg ?_
 refine z _ ?_
 clear z Z
 refine hK12 _ ?_
 refine AT_region_q fun Z z => ?_
 simp [row_map, tdiv50, encPg, hkt, hms, hmv]
 repeat refine sg ?_
 refine z _ ?_
 clear z Z
 simp only [nrm, reduceIte, Nat.reduceEqDiff]
 refine hK10 _ (by first | rfl | simp) (p.decls[k].vars.length - (i+1)) (by omega) ?_
 refine ⟨i+1, w + 1 + p.decls[k].vars[i].length / 50, by omega, ?_, by omega, by simp [encD, encPg]⟩
 rw [hw, List.drop_eq_getElem_cons hmv, cntVs_cons, if_pos (by omega)]
 simp [row_map, tdiv50, encPg, hkt, hms, hmv] at hb71
 refine AT_exit ?_
 simp only [nrm, reduceIte, Nat.reduceEqDiff]
 refine hK9 _ ?_
 refine sr fun Z z => ?_
 have hV : cntVs p.decls[k].vars (cntGs p.decls[k].sigs (cntFs p.decls[k].flds (cntFs p.decls[k].fms (c + 1 + p.decls[k].name.length / 50 + p.decls[k].recv.length / 50)))) = w := by
   rw [hw]
   (rw [List.drop_eq_getElem_cons hmv, cntVs_cons, if_neg (by omega)])
 simp [row_map, tdiv50, encPg, hkt, hms, hmv]
 refine z _ ?_
 clear z Z
 refine AT_cond (g := none) rfl (fun hb85 => ?_) (fun hb85 => ?_)
 simp [row_map, tdiv50, encPg, hkt, hms, hmv] at hb85
 refine AT_draw_q Pt.mixed (by kernel_rfl) fun Z z => ?_
 have u3 := cntG_ub q7 w
 simp [row_map, tdiv50, encPg, encD, hkt, hms, hmv, hb85]
 refine RVdn_call ((by have h := c_ref06x_countSig g rnd p.decls[k].sig q7 w (by omega); simp only [encG] at h; exact h)) ?_
 simp [row_map, tdiv50, encPg, encD, hkt, hms, hmv, hb85]
 refine RVdn_call ((by have h := c_ref05x_Count g rnd p.decls[k].body q8 (cntG p.decls[k].sig w) (by omega); simp only [encE_def] at h; exact h)) ?_
 simp [row_map, tdiv50, encPg, encD, hkt, hms, hmv, hb85]
 refine z _ ?_
 clear z Z
 simp only [nrm, reduceIte, Nat.reduceEqDiff]
 refine hK4 _ ?_
 refine AT_region_q fun Z z => ?_
 simp [row_map, tdiv50, encPg, hkt, hms, hmv, hb85]
 repeat refine sg ?_
 refine z _ ?_
 clear z Z
 simp only [nrm, reduceIte, Nat.reduceEqDiff]
 refine hK2 _ (by first | rfl | simp) (p.decls.length - (k+1)) (by omega) ?_
 (· refine ⟨k+1, cntE p.decls[k].body (cntG p.decls[k].sig w), by omega, ?_, by omega, by simp [encPg]⟩
    rw [hc, List.drop_eq_getElem_cons hkt, cntDs_cons, if_pos (by omega), cntD, hV, if_pos (by omega)])
 simp [row_map, tdiv50, encPg, hkt, hms, hmv] at hb85
 refine AT_skip ?_
 refine hK4 _ ?_
 refine AT_region_q fun Z z => ?_
 simp [row_map, tdiv50, encPg, hkt, hms, hmv, hb85]
 repeat refine sg ?_
 refine z _ ?_
 clear z Z
 simp only [nrm, reduceIte, Nat.reduceEqDiff]
 refine hK2 _ (by first | rfl | simp) (p.decls.length - (k+1)) (by omega) ?_
 (refine ⟨k+1, w, by omega, ?_, by omega, by simp [encPg]⟩
  rw [hc, List.drop_eq_getElem_cons hkt, cntDs_cons, if_pos (by omega), cntD, hV, if_neg (by omega)])
 refine sr fun Z z => ?_
 simp [row_map, tdiv50, encPg, encD, hkt, hms, hmv]
 refine z _ ?_
 clear z Z
 refine AT_cond (b := false) (g := none) (by simp [hkt, hms, hmv]) (fun hb => ?_) (fun hb => ?_)
 cases hb
 clear hb
 refine AT_exit ?_
 simp only [nrm, reduceIte, Nat.reduceEqDiff]
 refine hK9 _ ?_
 refine sr fun Z z => ?_
 have hV : cntVs p.decls[k].vars (cntGs p.decls[k].sigs (cntFs p.decls[k].flds (cntFs p.decls[k].fms (c + 1 + p.decls[k].name.length / 50 + p.decls[k].recv.length / 50)))) = w := by
   rw [hw]
   (rw [List.drop_eq_nil_of_le (by omega)]; rfl)
 simp [row_map, tdiv50, encPg, hkt, hms, hmv]
 refine z _ ?_
 clear z Z
 refine AT_cond (g := none) rfl (fun hb85 => ?_) (fun hb85 => ?_)
 simp [row_map, tdiv50, encPg, hkt, hms, hmv] at hb85
 refine AT_draw_q Pt.mixed (by kernel_rfl) fun Z z => ?_
 have u3 := cntG_ub q7 w
 simp [row_map, tdiv50, encPg, encD, hkt, hms, hmv, hb85]
 refine RVdn_call ((by have h := c_ref06x_countSig g rnd p.decls[k].sig q7 w (by omega); simp only [encG] at h; exact h)) ?_
 simp [row_map, tdiv50, encPg, encD, hkt, hms, hmv, hb85]
 refine RVdn_call ((by have h := c_ref05x_Count g rnd p.decls[k].body q8 (cntG p.decls[k].sig w) (by omega); simp only [encE_def] at h; exact h)) ?_
 simp [row_map, tdiv50, encPg, encD, hkt, hms, hmv, hb85]
 refine z _ ?_
 clear z Z
 simp only [nrm, reduceIte, Nat.reduceEqDiff]
 refine hK4 _ ?_
 refine AT_region_q fun Z z => ?_
 simp [row_map, tdiv50, encPg, hkt, hms, hmv, hb85]
 repeat refine sg ?_
 refine z _ ?_
 clear z Z
 simp only [nrm, reduceIte, Nat.reduceEqDiff]
 refine hK2 _ (by first | rfl | simp) (p.decls.length - (k+1)) (by omega) ?_
 (· refine ⟨k+1, cntE p.decls[k].body (cntG p.decls[k].sig w), by omega, ?_, by omega, by simp [encPg]⟩
    rw [hc, List.drop_eq_getElem_cons hkt, cntDs_cons, if_pos (by omega), cntD, hV, if_pos (by omega)])
 simp [row_map, tdiv50, encPg, hkt, hms, hmv] at hb85
 refine AT_skip ?_
 refine hK4 _ ?_
 refine AT_region_q fun Z z => ?_
 simp [row_map, tdiv50, encPg, hkt, hms, hmv, hb85]
 repeat refine sg ?_
 refine z _ ?_
 clear z Z
 simp only [nrm, reduceIte, Nat.reduceEqDiff]
 refine hK2 _ (by first | rfl | simp) (p.decls.length - (k+1)) (by omega) ?_
 (refine ⟨k+1, w, by omega, ?_, by omega, by simp [encPg]⟩
  rw [hc, List.drop_eq_getElem_cons hkt, cntDs_cons, if_pos (by omega), cntD, hV, if_neg (by omega)])
 refine sr fun Z z => ?_
 simp [row_map, tdiv50, encPg, encD, hkt, hms]
 refine z _ ?_
 clear z Z
 refine AT_cond (b := false) (g := none) (by simp [hkt, hms]) (fun hb => ?_) (fun hb => ?_)
 cases hb
 clear hb
 refine AT_exit ?_
 simp only [nrm, reduceIte, Nat.reduceEqDiff]
 refine hK5 _ ?_
 refine AT_seq_k fun K13 hK13 => ?_
 refine sr fun Z z => ?_
 have hG : cntGs p.decls[k].sigs (cntFs p.decls[k].flds (cntFs p.decls[k].fms (c + 1 + p.decls[k].name.length / 50 + p.decls[k].recv.length / 50))) = e := by
   rw [he]
   (rw [List.drop_eq_nil_of_le (by omega)]; rfl)
 simp [row_map, tdiv50, encPg, hkt, hms]
 refine z _ ?_
 clear z Z
 refine AT_block ?_
 refine AT_loop_q [1,3,4,5,7] [1,5] (fun j s => ∃ i w, i ≤ p.decls[k].vars.length ∧ cntVs p.decls[k].vars (cntGs p.decls[k].sigs (cntFs p.decls[k].flds (cntFs p.decls[k].fms (c + 1 + p.decls[k].name.length / 50 + p.decls[k].recv.length / 50)))) = cntVs (p.decls[k].vars.drop i) w ∧ j = p.decls[k].vars.length - i ∧ s = { n := 94, tm := [(1, .lp 1 0), (3, .v (.int .i64 (w : Nat)) none), (4, .v (.int .i64 k) none), (5, .lp 5 0), (7, .v (.int .i64 i) none)], bx := [(1, encPg p), (5, encD p.decls[k])], tb := [], sh := [], hint := [] }) (p.decls[k].vars.length) (by first | rfl | simp) ?_ ?_
 exact ⟨0, e, by omega, by rw [hG]; rfl, by omega, by simp [encD, encPg]⟩
 rintro j s ⟨i, w, hi, hw, rfl, rfl⟩ K14 hK14
 refine AT_seq_k fun K15 hK15 => ?_
 by_cases hmv : i < p.decls[k].vars.length
 refine sr fun Z z => ?_
 simp [row_map, tdiv50, encPg, encD, hkt, hms, hmv]
 refine z _ ?_
 clear z Z
 refine AT_cond (g := none) rfl (fun hb71 => ?_) (fun hb71 => ?_)
 simp [row_map, tdiv50, encPg, hkt, hms, hmv] at hb71
 refine AT_skip ?_
 simp only [nrm, reduceIte, Nat.reduceEqDiff]
 refine hK15 _ ?_
 refine AT_seq_k fun K16 hK16 => ?_
 refine AT_block ?_
 refine AT_region_q fun Z z => ?_
 have q6k := q6 p.decls[k].vars[i] (by simp)
 simp [row_map, tdiv50, encPg, encD, encS, hkt, hms, hmv]
 repeat refine sg ?_
 refine z _ ?_
 clear z Z
 refine hK16 _ ?_
 refine AT_region_q fun Z z => ?_
 simp [row_map, tdiv50, encPg, hkt, hms, hmv]
 repeat refine sg ?_
 refine z _ ?_
 clear z Z
 simp only [nrm, reduceIte, Nat.reduceEqDiff]
 refine hK14 _ (by first | rfl | simp) (p.decls[k].vars.length - (i+1)) (by omega) ?_
 refine ⟨i+1, w + 1 + p.decls[k].vars[i].length / 50, by omega, ?_, by omega, by simp [encD, encPg]⟩
 rw [hw, List.drop_eq_getElem_cons hmv, cntVs_cons, if_pos (by omega)]
 simp [row_map, tdiv50, encPg, hkt, hms, hmv] at hb71
 refine AT_exit ?_
 simp only [nrm, reduceIte, Nat.reduceEqDiff]
 refine hK13 _ ?_
 refine sr fun Z z => ?_
 have hV : cntVs p.decls[k].vars (cntGs p.decls[k].sigs (cntFs p.decls[k].flds (cntFs p.decls[k].fms (c + 1 + p.decls[k].name.length / 50 + p.decls[k].recv.length / 50)))) = w := by
   rw [hw]
   (rw [List.drop_eq_getElem_cons hmv, cntVs_cons, if_neg (by omega)])
 simp [row_map, tdiv50, encPg, hkt, hms, hmv]
 refine z _ ?_
 clear z Z
 refine AT_cond (g := none) rfl (fun hb85 => ?_) (fun hb85 => ?_)
 simp [row_map, tdiv50, encPg, hkt, hms, hmv] at hb85
 refine AT_draw_q Pt.mixed (by kernel_rfl) fun Z z => ?_
 have u3 := cntG_ub q7 w
 simp [row_map, tdiv50, encPg, encD, hkt, hms, hmv, hb85]
 refine RVdn_call ((by have h := c_ref06x_countSig g rnd p.decls[k].sig q7 w (by omega); simp only [encG] at h; exact h)) ?_
 simp [row_map, tdiv50, encPg, encD, hkt, hms, hmv, hb85]
 refine RVdn_call ((by have h := c_ref05x_Count g rnd p.decls[k].body q8 (cntG p.decls[k].sig w) (by omega); simp only [encE_def] at h; exact h)) ?_
 simp [row_map, tdiv50, encPg, encD, hkt, hms, hmv, hb85]
 refine z _ ?_
 clear z Z
 simp only [nrm, reduceIte, Nat.reduceEqDiff]
 refine hK4 _ ?_
 refine AT_region_q fun Z z => ?_
 simp [row_map, tdiv50, encPg, hkt, hms, hmv, hb85]
 repeat refine sg ?_
 refine z _ ?_
 clear z Z
 simp only [nrm, reduceIte, Nat.reduceEqDiff]
 refine hK2 _ (by first | rfl | simp) (p.decls.length - (k+1)) (by omega) ?_
 (· refine ⟨k+1, cntE p.decls[k].body (cntG p.decls[k].sig w), by omega, ?_, by omega, by simp [encPg]⟩
    rw [hc, List.drop_eq_getElem_cons hkt, cntDs_cons, if_pos (by omega), cntD, hV, if_pos (by omega)])
 simp [row_map, tdiv50, encPg, hkt, hms, hmv] at hb85
 refine AT_skip ?_
 refine hK4 _ ?_
 refine AT_region_q fun Z z => ?_
 simp [row_map, tdiv50, encPg, hkt, hms, hmv, hb85]
 repeat refine sg ?_
 refine z _ ?_
 clear z Z
 simp only [nrm, reduceIte, Nat.reduceEqDiff]
 refine hK2 _ (by first | rfl | simp) (p.decls.length - (k+1)) (by omega) ?_
 (refine ⟨k+1, w, by omega, ?_, by omega, by simp [encPg]⟩
  rw [hc, List.drop_eq_getElem_cons hkt, cntDs_cons, if_pos (by omega), cntD, hV, if_neg (by omega)])
 refine sr fun Z z => ?_
 simp [row_map, tdiv50, encPg, encD, hkt, hms, hmv]
 refine z _ ?_
 clear z Z
 refine AT_cond (b := false) (g := none) (by simp [hkt, hms, hmv]) (fun hb => ?_) (fun hb => ?_)
 cases hb
 clear hb
 refine AT_exit ?_
 simp only [nrm, reduceIte, Nat.reduceEqDiff]
 refine hK13 _ ?_
 refine sr fun Z z => ?_
 have hV : cntVs p.decls[k].vars (cntGs p.decls[k].sigs (cntFs p.decls[k].flds (cntFs p.decls[k].fms (c + 1 + p.decls[k].name.length / 50 + p.decls[k].recv.length / 50)))) = w := by
   rw [hw]
   (rw [List.drop_eq_nil_of_le (by omega)]; rfl)
 simp [row_map, tdiv50, encPg, hkt, hms, hmv]
 refine z _ ?_
 clear z Z
 refine AT_cond (g := none) rfl (fun hb85 => ?_) (fun hb85 => ?_)
 simp [row_map, tdiv50, encPg, hkt, hms, hmv] at hb85
 refine AT_draw_q Pt.mixed (by kernel_rfl) fun Z z => ?_
 have u3 := cntG_ub q7 w
 simp [row_map, tdiv50, encPg, encD, hkt, hms, hmv, hb85]
 refine RVdn_call ((by have h := c_ref06x_countSig g rnd p.decls[k].sig q7 w (by omega); simp only [encG] at h; exact h)) ?_
 simp [row_map, tdiv50, encPg, encD, hkt, hms, hmv, hb85]
 refine RVdn_call ((by have h := c_ref05x_Count g rnd p.decls[k].body q8 (cntG p.decls[k].sig w) (by omega); simp only [encE_def] at h; exact h)) ?_
 simp [row_map, tdiv50, encPg, encD, hkt, hms, hmv, hb85]
 refine z _ ?_
 clear z Z
 simp only [nrm, reduceIte, Nat.reduceEqDiff]
 refine hK4 _ ?_
 refine AT_region_q fun Z z => ?_
 simp [row_map, tdiv50, encPg, hkt, hms, hmv, hb85]
 repeat refine sg ?_
 refine z _ ?_
 clear z Z
 simp only [nrm, reduceIte, Nat.reduceEqDiff]
 refine hK2 _ (by first | rfl | simp) (p.decls.length - (k+1)) (by omega) ?_
 (· refine ⟨k+1, cntE p.decls[k].body (cntG p.decls[k].sig w), by omega, ?_, by omega, by simp [encPg]⟩
    rw [hc, List.drop_eq_getElem_cons hkt, cntDs_cons, if_pos (by omega), cntD, hV, if_pos (by omega)])
 simp [row_map, tdiv50, encPg, hkt, hms, hmv] at hb85
 refine AT_skip ?_
 refine hK4 _ ?_
 refine AT_region_q fun Z z => ?_
 simp [row_map, tdiv50, encPg, hkt, hms, hmv, hb85]
 repeat refine sg ?_
 refine z _ ?_
 clear z Z
 simp only [nrm, reduceIte, Nat.reduceEqDiff]
 refine hK2 _ (by first | rfl | simp) (p.decls.length - (k+1)) (by omega) ?_
 (refine ⟨k+1, w, by omega, ?_, by omega, by simp [encPg]⟩
  rw [hc, List.drop_eq_getElem_cons hkt, cntDs_cons, if_pos (by omega), cntD, hV, if_neg (by omega)])
 simp [row_map, tdiv50, encPg, hkt] at hb19
 refine AT_exit ?_
 simp only [nrm, reduceIte, Nat.reduceEqDiff]
 refine hK1 _ ?_
 refine sr fun Z z => ?_
 simp [row_map, tdiv50, encPg, hkt]
 refine z _ ?_
 clear z Z
 refine AT_ret ?_
 simp [row_map, tdiv50, encPg, Tryz.f18]
 (rw [hc, List.drop_eq_getElem_cons hkt, cntDs_cons, if_neg (by omega)])
 refine sr fun Z z => ?_
 simp [row_map, tdiv50, encPg, hkt]
 refine z _ ?_
 clear z Z
 refine AT_cond (b := false) (g := none) (by simp [hkt]) (fun hb => ?_) (fun hb => ?_)
 cases hb
 clear hb
 refine AT_exit ?_
 simp only [nrm, reduceIte, Nat.reduceEqDiff]
 refine hK1 _ ?_
 refine sr fun Z z => ?_
 simp [row_map, tdiv50, encPg, hkt]
 refine z _ ?_
 clear z Z
 refine AT_ret ?_
 simp [row_map, tdiv50, encPg, Tryz.f18]
 (rw [hc, List.drop_eq_nil_of_le (by omega)]; rfl)

theorem c_ref06x_Few (p : Pg) (hf : fitPg p) : Valid Tryz.prog (G0 g rnd) 7 [.agg (encPg p)] (.bool (decide (cntPg p ≤ 600))) := by

 refine valid_of [] Tryz.func7 rfl (by kernel_rfl) ?_
 refine sr fun Z z => ?_
 simp [Tryz.f7]
 refine z _ ?_
 clear z Z
 refine sr fun Z z => ?_
 simp
 refine RVn_call (c_ref06x_Count g rnd p hf) ?_
 simp
 refine z _ ?_
 clear z Z
 refine AT_ret ?_
 simp [Tryz.f7]
 omega

end Go.Proofs.YtepbmjchhcmcoaaGreatDoor
end

section
/- Contracts. -/
set_option linter.all false
set_option maxHeartbeats 1000000
set_option maxRecDepth 10000
namespace Go.Proofs.YtepbmjchhcmcoaaGreatDoor
open Go Go.Pv
variable (g : Nat → Option (List AV)) (rnd : Bool)

theorem rightT_len {t : Ty} (hw : wt t ≤ 1099511627776) : ∀ s ∈ lst t, s.length ≤ 1099511627776 := fun s hs => Nat.le_trans (Nat.le_of_lt (lst_mem_wt t s hs)) hw

theorem c_ref04x_Right (t : Ty) (hw : wt t ≤ 1099511627776) : Valid Tryz.prog (G0 g rnd) 54 [.agg (encTy t)] (.bool (rightT t)) := by

 refine valid_of [] Tryz.func54 rfl (by kernel_rfl) ?_
 refine sr fun Z z => ?_
 simp [row_map, Tryz.f54]
 refine z _ ?_
 clear z Z
 refine sr fun Z z => ?_
 have hll := lst_wt t
 simp [row_map]
 refine RVn_call (c_ref04x_List g rnd t hw) ?_
 simp [row_map]
 refine z _ ?_
 clear z Z
 refine AT_seq_k fun K1 hK1 => ?_
 refine sr fun Z z => ?_
 simp [row_map]
 refine z _ ?_
 clear z Z
 refine AT_block ?_
 refine AT_loop_q [3,4] [] (fun j s => ∃ k, k ≤ (lst t).length ∧ rightT t = ((lst t).drop k).all isName ∧ j = (lst t).length - k ∧ s = { n := 19, tm := [(3, .v (.slice ((lst t).map encS)) none), (4, .v (.int .i64 k) none)], bx := [], tb := [], sh := [], hint := [] }) ((lst t).length) (by first | rfl | simp) ?_ ?_
 exact ⟨0, by simp [rightT]⟩
 rintro j s ⟨k, hk, hc, rfl, rfl⟩ K2 hK2
 refine AT_seq_k fun K3 hK3 => ?_
 refine sr fun Z z => ?_
 have hll := lst_wt t
 simp [row_map]
 refine z _ ?_
 clear z Z
 refine AT_cond (g := none) rfl (fun hb10 => ?_) (fun hb10 => ?_)
 simp [row_map] at hb10
 refine AT_skip ?_
 simp only [nrm, reduceIte, Nat.reduceEqDiff]
 refine hK3 _ ?_
 refine AT_seq_k fun K4 hK4 => ?_
 refine AT_block ?_
 refine sr fun Z z => ?_
 have hda := List.drop_eq_getElem_cons hb10
 simp [row_map, hb10]
 refine RVn_call (c_ref01x_Is g rnd _ (rightT_len hw _ (by simp))) ?_
 simp [row_map, hb10]
 refine z _ ?_
 clear z Z
 refine AT_cond (g := none) rfl (fun hb18 => ?_) (fun hb18 => ?_)
 simp [row_map, hb10] at hb18
 refine sr fun Z z => ?_
 simp [row_map, hb10]
 refine z _ ?_
 clear z Z
 refine AT_ret ?_
 simp [row_map, Tryz.f54]
 (rw [hc, hda, List.all_cons, hb18]; rfl)
 simp [row_map, hb10] at hb18
 refine AT_skip ?_
 refine hK4 _ ?_
 refine AT_region_q fun Z z => ?_
 simp [row_map, hb10]
 repeat refine sg ?_
 refine z _ ?_
 clear z Z
 simp only [nrm, reduceIte, Nat.reduceEqDiff]
 refine hK2 _ (by first | rfl | simp) ((lst t).length - (k+1)) (by omega) ?_
 refine ⟨k+1, by omega, ?_, by omega, by simp⟩
 rw [hc, hda, List.all_cons, hb18, Bool.true_and]
 simp [row_map] at hb10
 refine AT_exit ?_
 simp only [nrm, reduceIte, Nat.reduceEqDiff]
 refine hK1 _ ?_
 refine sr fun Z z => ?_
 simp [row_map, hb10]
 refine z _ ?_
 clear z Z
 refine AT_ret ?_
 simp [row_map, Tryz.f54]
 (rw [hc, List.drop_eq_nil_of_le hb10]; rfl)

end Go.Proofs.YtepbmjchhcmcoaaGreatDoor
end

section
/- Contracts: right expressions. -/
set_option linter.all false
set_option maxHeartbeats 1000000
set_option maxRecDepth 10000
namespace Go.Proofs.YtepbmjchhcmcoaaGreatDoor
open Go Go.Pv
variable (g : Nat → Option (List AV)) (rnd : Bool)

theorem c_ref05x_Right (e : Exp) : wtE e ≤ 1000000000 → Valid Tryz.prog (G0 g rnd) 20 [.agg (encE e)] (.bool (rightE e)) := by
 induction e using Exp.ind with
 | h kd n t ta l p ih =>
 intro hw
 have hw2 : n.length + 1 + wt t + wts ta + wtEs l ≤ 1000000000 := by simpa [wtE_mk] using hw
 have hln := wtEs_len l
 have hla := wts_len ta
 obtain ⟨tn, tas, tp⟩ := t
 refine valid_of [] Tryz.func20 rfl (by kernel_rfl) ?_
 refine sr fun Z z => ?_
 simp [row_map, Tryz.f20]
 refine z _ ?_
 clear z Z
 refine AT_seq_k fun K1 hK1 => ?_
 refine sr fun Z z => ?_
 simp [row_map]
 refine z _ ?_
 clear z Z
 refine AT_block ?_
 refine AT_loop_q [1,3] [1] (fun j s => ∃ k, k ≤ l.length ∧ rightEs l = rightEs (l.drop k) ∧ j = l.length - k ∧ s = { n := 108, tm := [(1, .lp 1 0), (3, .v (.int .i64 k) none)], bx := [(1, encE (.mk kd n (.mk tn tas tp) ta l p))], tb := [], sh := [], hint := [] }) (l.length) (by first | rfl | simp) ?_ ?_
 exact ⟨0, by simp⟩
 rintro j s ⟨k, hk, hc, rfl, rfl⟩ K2 hK2
 refine AT_seq_k fun K3 hK3 => ?_
 refine sr fun Z z => ?_
 simp [row_map]
 refine z _ ?_
 clear z Z
 refine AT_cond (g := none) rfl (fun hb10 => ?_) (fun hb10 => ?_)
 simp [row_map] at hb10
 refine AT_skip ?_
 simp only [nrm, reduceIte, Nat.reduceEqDiff]
 refine hK3 _ ?_
 refine AT_seq_k fun K4 hK4 => ?_
 refine AT_block ?_
 refine sr fun Z z => ?_
 have hm := wtEs_mem (l := l) (e := l[k]) (by simp)
 have hda := List.drop_eq_getElem_cons hb10
 simp [row_map, hb10]
 refine RVn_call (ih l[k] (by simp) (by omega)) ?_
 simp [row_map, hb10]
 refine z _ ?_
 clear z Z
 refine AT_cond (g := none) rfl (fun hb19 => ?_) (fun hb19 => ?_)
 simp [row_map, hb10] at hb19
 refine sr fun Z z => ?_
 simp [row_map, hb10, hb19]
 refine z _ ?_
 clear z Z
 refine AT_ret ?_
 simp [row_map, Tryz.f20]
 (rw [rightE_ok, hc, hda, rightEs_cons, hb19]; rfl)
 simp [row_map, hb10] at hb19
 refine AT_skip ?_
 refine hK4 _ ?_
 refine AT_region_q fun Z z => ?_
 simp [row_map, hb10, hb19]
 repeat refine sg ?_
 refine z _ ?_
 clear z Z
 simp only [nrm, reduceIte, Nat.reduceEqDiff]
 refine hK2 _ (by first | rfl | simp) (l.length - (k+1)) (by omega) ?_
 refine ⟨k+1, by omega, ?_, by omega, by simp⟩
 rw [hc, hda, rightEs_cons, hb19]; rfl
 simp [row_map] at hb10
 refine AT_exit ?_
 simp only [nrm, reduceIte, Nat.reduceEqDiff]
 refine hK1 _ ?_
 refine AT_seq_k fun K5 hK5 => ?_
 refine sr fun Z z => ?_
 simp [row_map, hb10]
 refine z _ ?_
 clear z Z
 refine AT_block ?_
 have hL : rightEs l = true := by rw [hc, List.drop_eq_nil_of_le hb10]; simp [rightEs]
 refine AT_loop_q [1,4] [1] (fun j s => ∃ k, k ≤ ta.length ∧ okT kd ta = okT kd (ta.drop k) ∧ j = ta.length - k ∧ s = { n := 108, tm := [(1, .lp 1 0), (4, .v (.int .i64 k) none)], bx := [(1, encE (.mk kd n (.mk tn tas tp) ta l p))], tb := [], sh := [], hint := [] }) (ta.length) (by first | rfl | simp) ?_ ?_
 exact ⟨0, by simp⟩
 rintro j s ⟨k, hk2, hc2, rfl, rfl⟩ K6 hK6
 refine AT_seq_k fun K7 hK7 => ?_
 refine sr fun Z z => ?_
 simp [row_map, hb10]
 refine z _ ?_
 clear z Z
 refine AT_cond (g := none) rfl (fun hb24 => ?_) (fun hb24 => ?_)
 simp [row_map, hb10] at hb24
 refine AT_skip ?_
 simp only [nrm, reduceIte, Nat.reduceEqDiff]
 refine hK7 _ ?_
 refine AT_seq_k fun K8 hK8 => ?_
 refine AT_block ?_
 cases h2 : (kd != 2)
 have h2b : (kd == 2) = true := by simpa using h2
 cases hrk : rightT ta[k]
 refine sr fun Z z => ?_
 have hdb := List.drop_eq_getElem_cons hb24
 have hm2 := wts_mem (l := ta) (t := ta[k]) (by simp)
 simp [row_map, hb10, hb24, h2, hrk]
 refine RVn_call (c_ref04x_Right g rnd ta[k] (by omega)) ?_
 simp [row_map, hb10, hb24, h2, hrk]
 repeat refine sg ?_
 refine z _ ?_
 clear z Z
 refine AT_cond (b := true) (g := none) (by simp [hb10, hb24, h2, hrk]) (fun hb => ?_) (fun hb => ?_)
 clear hb
 refine sr fun Z z => ?_
 simp [row_map, hb10, hb24, h2, hrk]
 refine z _ ?_
 clear z Z
 refine AT_ret ?_
 simp [row_map, Tryz.f20]
 (rw [rightE_ok, hL, hc2, hdb, okT_cons, h2b, hrk]; rfl)
 cases hb
 refine sr fun Z z => ?_
 have hdb := List.drop_eq_getElem_cons hb24
 have hm2 := wts_mem (l := ta) (t := ta[k]) (by simp)
 simp [row_map, hb10, hb24, h2, hrk]
 refine RVn_call (c_ref04x_Right g rnd ta[k] (by omega)) ?_
 simp [row_map, hb10, hb24, h2, hrk]
 repeat refine sg ?_
 refine z _ ?_
 clear z Z
 refine AT_cond (b := false) (g := none) (by simp [hb10, hb24, h2, hrk]) (fun hb => ?_) (fun hb => ?_)
 cases hb
 clear hb
 refine AT_skip ?_
 refine hK8 _ ?_
 refine AT_region_q fun Z z => ?_
 simp [row_map, hb10, hb24, h2, hrk]
 repeat refine sg ?_
 refine z _ ?_
 clear z Z
 simp only [nrm, reduceIte, Nat.reduceEqDiff]
 refine hK6 _ (by first | rfl | simp) (ta.length - (k+1)) (by omega) ?_
 refine ⟨k+1, by omega, ?_, by omega, by simp⟩
 rw [hc2, hdb, okT_cons, h2b, hrk]; rfl
 have h2b : (kd == 2) = false := by simpa using h2
 refine sr fun Z z => ?_
 have hdb := List.drop_eq_getElem_cons hb24
 have hm2 := wts_mem (l := ta) (t := ta[k]) (by simp)
 simp [row_map, hb10, hb24, h2]
 refine z _ ?_
 clear z Z
 refine AT_cond (b := true) (g := none) (by simp [hb10, hb24, h2]) (fun hb => ?_) (fun hb => ?_)
 clear hb
 refine sr fun Z z => ?_
 simp [row_map, hb10, hb24, h2]
 refine z _ ?_
 clear z Z
 refine AT_ret ?_
 simp [row_map, Tryz.f20]
 (rw [rightE_ok, hL, hc2, hdb, okT_cons, h2b]; rfl)
 cases hb
 simp [row_map, hb10] at hb24
 refine AT_exit ?_
 simp only [nrm, reduceIte, Nat.reduceEqDiff]
 refine hK5 _ ?_
 rcases kd_cases kd with hk | hk | hk | hk | hk | ⟨e1, e2, e3, e4, e5⟩
 have e1 : (kd == 1) = true := by rw [hk]; rfl
 have e2 : (kd == 2) = false := by rw [hk]; rfl
 have e3 : (kd == 3) = false := by rw [hk]; rfl
 have e4 : (kd == 4) = false := by rw [hk]; rfl
 have e5 : (kd == 5) = false := by rw [hk]; rfl
 cases hr : (rightT (.mk tn tas tp))
 cases ht : tn.isEmpty
 refine sr fun Z z => ?_
 have hT : okT kd ta = true := by rw [hc2, List.drop_eq_nil_of_le hb24]; rfl
 simp [row_map, hb10, hb24, e1, e2, e3, e4, e5, hr, ht]
 refine z _ ?_
 clear z Z
 refine AT_seq_k fun K9 hK9 => ?_
 refine sr fun Z z => ?_
 simp [row_map, hb10, hb24, e1, e2, e3, e4, e5, hr, ht]
 refine RVn_call (c_ref04x_Right g rnd (.mk tn tas tp) (by omega)) ?_
 simp [row_map, hb10, hb24, e1, e2, e3, e4, e5, hr, ht]
 refine z _ ?_
 clear z Z
 refine AT_cond (b := true) (g := none) (by simp [hb10, hb24, e1, e2, e3, e4, e5, hr, ht]) (fun hb => ?_) (fun hb => ?_)
 clear hb
 refine sr fun Z z => ?_
 simp [row_map, hb10, hb24, e1, e2, e3, e4, e5, hr, ht]
 refine z _ ?_
 clear z Z
 refine AT_ret ?_
 simp [row_map, Tryz.f20]
 (· rw [rightE_ok, hL, hT]; simp [bodyE, kidsE, typedE, e1, e2, e3, e4, e5, hr, ht])
 cases hb
 cases ha : tas.isEmpty
 have ha0 : 0 < tas.length := by cases tas with | nil => cases ha | cons x r => simp
 refine sr fun Z z => ?_
 have hT : okT kd ta = true := by rw [hc2, List.drop_eq_nil_of_le hb24]; rfl
 simp [row_map, hb10, hb24, e1, e2, e3, e4, e5, hr, ht, ha0]
 refine z _ ?_
 clear z Z
 refine AT_seq_k fun K10 hK10 => ?_
 refine sr fun Z z => ?_
 simp [row_map, hb10, hb24, e1, e2, e3, e4, e5, hr, ht, ha0]
 refine RVn_call (c_ref04x_Right g rnd (.mk tn tas tp) (by omega)) ?_
 simp [row_map, hb10, hb24, e1, e2, e3, e4, e5, hr, ht, ha0]
 refine z _ ?_
 clear z Z
 refine AT_cond (b := true) (g := none) (by simp [hb10, hb24, e1, e2, e3, e4, e5, hr, ht, ha0]) (fun hb => ?_) (fun hb => ?_)
 clear hb
 refine sr fun Z z => ?_
 simp [row_map, hb10, hb24, e1, e2, e3, e4, e5, hr, ht, ha0]
 refine z _ ?_
 clear z Z
 refine AT_ret ?_
 simp [row_map, Tryz.f20]
 (· rw [rightE_ok, hL, hT]; simp [bodyE, kidsE, typedE, e1, e2, e3, e4, e5, hr, ht, ha])
 cases hb
 have ha0 : ¬ 0 < tas.length := by rw [List.isEmpty_iff.1 ha]; decide
 cases hin : (isName n)
 refine sr fun Z z => ?_
 have hT : okT kd ta = true := by rw [hc2, List.drop_eq_nil_of_le hb24]; rfl
 simp [row_map, hb10, hb24, e1, e2, e3, e4, e5, hr, ht, ha0, hin]
 refine z _ ?_
 clear z Z
 refine AT_seq_k fun K11 hK11 => ?_
 refine sr fun Z z => ?_
 simp [row_map, hb10, hb24, e1, e2, e3, e4, e5, hr, ht, ha0, hin]
 refine RVn_call (c_ref04x_Right g rnd (.mk tn tas tp) (by omega)) ?_
 simp [row_map, hb10, hb24, e1, e2, e3, e4, e5, hr, ht, ha0, hin]
 refine z _ ?_
 clear z Z
 refine AT_cond (b := false) (g := none) (by simp [hb10, hb24, e1, e2, e3, e4, e5, hr, ht, ha0, hin]) (fun hb => ?_) (fun hb => ?_)
 cases hb
 clear hb
 refine AT_skip ?_
 simp only [nrm, reduceIte, Nat.reduceEqDiff]
 refine hK11 _ ?_
 refine AT_seq_k fun K12 hK12 => ?_
 refine sr fun Z z => ?_
 simp [row_map, hb10, hb24, e1, e2, e3, e4, e5, hr, ht, ha0, hin]
 refine RVn_call (c_ref01x_Is g rnd n (by omega)) ?_
 simp [row_map, hb10, hb24, e1, e2, e3, e4, e5, hr, ht, ha0, hin]
 repeat refine sg ?_
 refine z _ ?_
 clear z Z
 refine AT_cond (b := true) (g := none) (by simp [hb10, hb24, e1, e2, e3, e4, e5, hr, ht, ha0, hin]) (fun hb => ?_) (fun hb => ?_)
 clear hb
 refine sr fun Z z => ?_
 simp [row_map, hb10, hb24, e1, e2, e3, e4, e5, hr, ht, ha0, hin]
 refine z _ ?_
 clear z Z
 refine AT_ret ?_
 simp [row_map, Tryz.f20]
 (· rw [rightE_ok, hL, hT]; simp [bodyE, kidsE, typedE, e1, e2, e3, e4, e5, hr, ht, ha, hin])
 cases hb
 refine sr fun Z z => ?_
 have hT : okT kd ta = true := by rw [hc2, List.drop_eq_nil_of_le hb24]; rfl
 simp [row_map, hb10, hb24, e1, e2, e3, e4, e5, hr, ht, ha0, hin]
 refine z _ ?_
 clear z Z
 refine AT_seq_k fun K13 hK13 => ?_
 refine sr fun Z z => ?_
 simp [row_map, hb10, hb24, e1, e2, e3, e4, e5, hr, ht, ha0, hin]
 refine RVn_call (c_ref04x_Right g rnd (.mk tn tas tp) (by omega)) ?_
 simp [row_map, hb10, hb24, e1, e2, e3, e4, e5, hr, ht, ha0, hin]
 refine z _ ?_
 clear z Z
 refine AT_cond (b := false) (g := none) (by simp [hb10, hb24, e1, e2, e3, e4, e5, hr, ht, ha0, hin]) (fun hb => ?_) (fun hb => ?_)
 cases hb
 clear hb
 refine AT_skip ?_
 simp only [nrm, reduceIte, Nat.reduceEqDiff]
 refine hK13 _ ?_
 refine AT_seq_k fun K14 hK14 => ?_
 refine sr fun Z z => ?_
 simp [row_map, hb10, hb24, e1, e2, e3, e4, e5, hr, ht, ha0, hin]
 refine RVn_call (c_ref01x_Is g rnd n (by omega)) ?_
 simp [row_map, hb10, hb24, e1, e2, e3, e4, e5, hr, ht, ha0, hin]
 repeat refine sg ?_
 refine z _ ?_
 clear z Z
 refine AT_cond (b := false) (g := none) (by simp [hb10, hb24, e1, e2, e3, e4, e5, hr, ht, ha0, hin]) (fun hb => ?_) (fun hb => ?_)
 cases hb
 clear hb
 refine AT_skip ?_
 simp only [nrm, reduceIte, Nat.reduceEqDiff]
 refine hK14 _ ?_
 refine AT_seq_k fun K15 hK15 => ?_
 refine sr fun Z z => ?_
 simp [row_map, hb10, hb24, e1, e2, e3, e4, e5, hr, ht, ha0, hin]
 refine z _ ?_
 clear z Z
 refine AT_block ?_
 refine sr fun Z z => ?_
 simp [row_map, hb10, hb24, e1, e2, e3, e4, e5, hr, ht, ha0, hin]
 refine z _ ?_
 clear z Z
 refine AT_cond (b := true) (g := none) (by simp [hb10, hb24, e1, e2, e3, e4, e5, hr, ht, ha0, hin]) (fun hb => ?_) (fun hb => ?_)
 clear hb
 refine sr fun Z z => ?_
 simp [row_map, hb10, hb24, e1, e2, e3, e4, e5, hr, ht, ha0, hin]
 refine z _ ?_
 clear z Z
 refine AT_ret ?_
 simp [row_map, Tryz.f20]
 (· rw [rightE_ok, hL, hT]; simp [bodyE, kidsE, typedE, e1, e2, e3, e4, e5, hr, ht, ha, hin, len_eq0, len_ge1, len_eq1])
 cases hb
 refine sr fun Z z => ?_
 have hT : okT kd ta = true := by rw [hc2, List.drop_eq_nil_of_le hb24]; rfl
 simp [row_map, hb10, hb24, e1, e2, e3, e4, e5, hr]
 refine z _ ?_
 clear z Z
 refine AT_seq_k fun K16 hK16 => ?_
 refine sr fun Z z => ?_
 simp [row_map, hb10, hb24, e1, e2, e3, e4, e5, hr]
 refine RVn_call (c_ref04x_Right g rnd (.mk tn tas tp) (by omega)) ?_
 simp [row_map, hb10, hb24, e1, e2, e3, e4, e5, hr]
 refine z _ ?_
 clear z Z
 refine AT_cond (b := true) (g := none) (by simp [hb10, hb24, e1, e2, e3, e4, e5, hr]) (fun hb => ?_) (fun hb => ?_)
 clear hb
 refine sr fun Z z => ?_
 simp [row_map, hb10, hb24, e1, e2, e3, e4, e5, hr]
 refine z _ ?_
 clear z Z
 refine AT_ret ?_
 simp [row_map, Tryz.f20]
 (· rw [rightE_ok, hL, hT]; simp [bodyE, kidsE, typedE, e1, e2, e3, e4, e5, rightT_ne hr])
 cases hb
 have e1 : (kd == 1) = false := by rw [hk]; rfl
 have e2 : (kd == 2) = true := by rw [hk]; rfl
 have e3 : (kd == 3) = false := by rw [hk]; rfl
 have e4 : (kd == 4) = false := by rw [hk]; rfl
 have e5 : (kd == 5) = false := by rw [hk]; rfl
 cases hr : (rightT (.mk tn tas tp))
 cases ht : tn.isEmpty
 refine sr fun Z z => ?_
 have hT : okT kd ta = true := by rw [hc2, List.drop_eq_nil_of_le hb24]; rfl
 simp [row_map, hb10, hb24, e1, e2, e3, e4, e5, hr, ht]
 refine z _ ?_
 clear z Z
 refine AT_seq_k fun K17 hK17 => ?_
 refine sr fun Z z => ?_
 simp [row_map, hb10, hb24, e1, e2, e3, e4, e5, hr, ht]
 refine RVn_call (c_ref04x_Right g rnd (.mk tn tas tp) (by omega)) ?_
 simp [row_map, hb10, hb24, e1, e2, e3, e4, e5, hr, ht]
 refine z _ ?_
 clear z Z
 refine AT_cond (b := true) (g := none) (by simp [hb10, hb24, e1, e2, e3, e4, e5, hr, ht]) (fun hb => ?_) (fun hb => ?_)
 clear hb
 refine sr fun Z z => ?_
 simp [row_map, hb10, hb24, e1, e2, e3, e4, e5, hr, ht]
 refine z _ ?_
 clear z Z
 refine AT_ret ?_
 simp [row_map, Tryz.f20]
 (· rw [rightE_ok, hL, hT]; simp [bodyE, kidsE, typedE, e1, e2, e3, e4, e5, hr, ht])
 cases hb
 cases ha : tas.isEmpty
 have ha0 : 0 < tas.length := by cases tas with | nil => cases ha | cons x r => simp
 refine sr fun Z z => ?_
 have hT : okT kd ta = true := by rw [hc2, List.drop_eq_nil_of_le hb24]; rfl
 simp [row_map, hb10, hb24, e1, e2, e3, e4, e5, hr, ht, ha0]
 refine z _ ?_
 clear z Z
 refine AT_seq_k fun K18 hK18 => ?_
 refine sr fun Z z => ?_
 simp [row_map, hb10, hb24, e1, e2, e3, e4, e5, hr, ht, ha0]
 refine RVn_call (c_ref04x_Right g rnd (.mk tn tas tp) (by omega)) ?_
 simp [row_map, hb10, hb24, e1, e2, e3, e4, e5, hr, ht, ha0]
 refine z _ ?_
 clear z Z
 refine AT_cond (b := true) (g := none) (by simp [hb10, hb24, e1, e2, e3, e4, e5, hr, ht, ha0]) (fun hb => ?_) (fun hb => ?_)
 clear hb
 refine sr fun Z z => ?_
 simp [row_map, hb10, hb24, e1, e2, e3, e4, e5, hr, ht, ha0]
 refine z _ ?_
 clear z Z
 refine AT_ret ?_
 simp [row_map, Tryz.f20]
 (· rw [rightE_ok, hL, hT]; simp [bodyE, kidsE, typedE, e1, e2, e3, e4, e5, hr, ht, ha])
 cases hb
 have ha0 : ¬ 0 < tas.length := by rw [List.isEmpty_iff.1 ha]; decide
 cases hin : (isName n)
 refine sr fun Z z => ?_
 have hT : okT kd ta = true := by rw [hc2, List.drop_eq_nil_of_le hb24]; rfl
 simp [row_map, hb10, hb24, e1, e2, e3, e4, e5, hr, ht, ha0, hin]
 refine z _ ?_
 clear z Z
 refine AT_seq_k fun K19 hK19 => ?_
 refine sr fun Z z => ?_
 simp [row_map, hb10, hb24, e1, e2, e3, e4, e5, hr, ht, ha0, hin]
 refine RVn_call (c_ref04x_Right g rnd (.mk tn tas tp) (by omega)) ?_
 simp [row_map, hb10, hb24, e1, e2, e3, e4, e5, hr, ht, ha0, hin]
 refine z _ ?_
 clear z Z
 refine AT_cond (b := false) (g := none) (by simp [hb10, hb24, e1, e2, e3, e4, e5, hr, ht, ha0, hin]) (fun hb => ?_) (fun hb => ?_)
 cases hb
 clear hb
 refine AT_skip ?_
 simp only [nrm, reduceIte, Nat.reduceEqDiff]
 refine hK19 _ ?_
 refine AT_seq_k fun K20 hK20 => ?_
 refine sr fun Z z => ?_
 simp [row_map, hb10, hb24, e1, e2, e3, e4, e5, hr, ht, ha0, hin]
 refine RVn_call (c_ref01x_Is g rnd n (by omega)) ?_
 simp [row_map, hb10, hb24, e1, e2, e3, e4, e5, hr, ht, ha0, hin]
 repeat refine sg ?_
 refine z _ ?_
 clear z Z
 refine AT_cond (b := true) (g := none) (by simp [hb10, hb24, e1, e2, e3, e4, e5, hr, ht, ha0, hin]) (fun hb => ?_) (fun hb => ?_)
 clear hb
 refine sr fun Z z => ?_
 simp [row_map, hb10, hb24, e1, e2, e3, e4, e5, hr, ht, ha0, hin]
 refine z _ ?_
 clear z Z
 refine AT_ret ?_
 simp [row_map, Tryz.f20]
 (· rw [rightE_ok, hL, hT]; simp [bodyE, kidsE, typedE, e1, e2, e3, e4, e5, hr, ht, ha, hin])
 cases hb
 refine sr fun Z z => ?_
 have hT : okT kd ta = true := by rw [hc2, List.drop_eq_nil_of_le hb24]; rfl
 simp [row_map, hb10, hb24, e1, e2, e3, e4, e5, hr, ht, ha0, hin]
 refine z _ ?_
 clear z Z
 refine AT_seq_k fun K21 hK21 => ?_
 refine sr fun Z z => ?_
 simp [row_map, hb10, hb24, e1, e2, e3, e4, e5, hr, ht, ha0, hin]
 refine RVn_call (c_ref04x_Right g rnd (.mk tn tas tp) (by omega)) ?_
 simp [row_map, hb10, hb24, e1, e2, e3, e4, e5, hr, ht, ha0, hin]
 refine z _ ?_
 clear z Z
 refine AT_cond (b := false) (g := none) (by simp [hb10, hb24, e1, e2, e3, e4, e5, hr, ht, ha0, hin]) (fun hb => ?_) (fun hb => ?_)
 cases hb
 clear hb
 refine AT_skip ?_
 simp only [nrm, reduceIte, Nat.reduceEqDiff]
 refine hK21 _ ?_
 refine AT_seq_k fun K22 hK22 => ?_
 refine sr fun Z z => ?_
 simp [row_map, hb10, hb24, e1, e2, e3, e4, e5, hr, ht, ha0, hin]
 refine RVn_call (c_ref01x_Is g rnd n (by omega)) ?_
 simp [row_map, hb10, hb24, e1, e2, e3, e4, e5, hr, ht, ha0, hin]
 repeat refine sg ?_
 refine z _ ?_
 clear z Z
 refine AT_cond (b := false) (g := none) (by simp [hb10, hb24, e1, e2, e3, e4, e5, hr, ht, ha0, hin]) (fun hb => ?_) (fun hb => ?_)
 cases hb
 clear hb
 refine AT_skip ?_
 simp only [nrm, reduceIte, Nat.reduceEqDiff]
 refine hK22 _ ?_
 refine AT_seq_k fun K23 hK23 => ?_
 refine sr fun Z z => ?_
 simp [row_map, hb10, hb24, e1, e2, e3, e4, e5, hr, ht, ha0, hin]
 refine z _ ?_
 clear z Z
 refine AT_block ?_
 refine sr fun Z z => ?_
 simp [row_map, hb10, hb24, e1, e2, e3, e4, e5, hr, ht, ha0, hin]
 refine z _ ?_
 clear z Z
 refine AT_cond (b := false) (g := none) (by simp [hb10, hb24, e1, e2, e3, e4, e5, hr, ht, ha0, hin]) (fun hb => ?_) (fun hb => ?_)
 cases hb
 clear hb
 refine sr fun Z z => ?_
 simp [row_map, hb10, hb24, e1, e2, e3, e4, e5, hr, ht, ha0, hin]
 refine z _ ?_
 clear z Z
 refine AT_cond (b := true) (g := none) (by simp [hb10, hb24, e1, e2, e3, e4, e5, hr, ht, ha0, hin]) (fun hb => ?_) (fun hb => ?_)
 clear hb
 refine sr fun Z z => ?_
 simp [row_map, hb10, hb24, e1, e2, e3, e4, e5, hr, ht, ha0, hin]
 refine z _ ?_
 clear z Z
 refine AT_ret ?_
 simp [row_map, Tryz.f20]
 (· rw [rightE_ok, hL, hT]; simp [bodyE, kidsE, typedE, e1, e2, e3, e4, e5, hr, ht, ha, hin, len_eq0, len_ge1, len_eq1])
 cases hb
 refine sr fun Z z => ?_
 have hT : okT kd ta = true := by rw [hc2, List.drop_eq_nil_of_le hb24]; rfl
 simp [row_map, hb10, hb24, e1, e2, e3, e4, e5, hr]
 refine z _ ?_
 clear z Z
 refine AT_seq_k fun K24 hK24 => ?_
 refine sr fun Z z => ?_
 simp [row_map, hb10, hb24, e1, e2, e3, e4, e5, hr]
 refine RVn_call (c_ref04x_Right g rnd (.mk tn tas tp) (by omega)) ?_
 simp [row_map, hb10, hb24, e1, e2, e3, e4, e5, hr]
 refine z _ ?_
 clear z Z
 refine AT_cond (b := true) (g := none) (by simp [hb10, hb24, e1, e2, e3, e4, e5, hr]) (fun hb => ?_) (fun hb => ?_)
 clear hb
 refine sr fun Z z => ?_
 simp [row_map, hb10, hb24, e1, e2, e3, e4, e5, hr]
 refine z _ ?_
 clear z Z
 refine AT_ret ?_
 simp [row_map, Tryz.f20]
 (· rw [rightE_ok, hL, hT]; simp [bodyE, kidsE, typedE, e1, e2, e3, e4, e5, rightT_ne hr])
 cases hb
 have e1 : (kd == 1) = false := by rw [hk]; rfl
 have e2 : (kd == 2) = false := by rw [hk]; rfl
 have e3 : (kd == 3) = true := by rw [hk]; rfl
 have e4 : (kd == 4) = false := by rw [hk]; rfl
 have e5 : (kd == 5) = false := by rw [hk]; rfl
 cases hr : (rightT (.mk tn tas tp))
 refine sr fun Z z => ?_
 have hT : okT kd ta = true := by rw [hc2, List.drop_eq_nil_of_le hb24]; rfl
 simp [row_map, hb10, hb24, e1, e2, e3, e4, e5, hr]
 refine z _ ?_
 clear z Z
 refine AT_seq_k fun K25 hK25 => ?_
 refine sr fun Z z => ?_
 simp [row_map, hb10, hb24, e1, e2, e3, e4, e5, hr]
 refine RVn_call (c_ref04x_Right g rnd (.mk tn tas tp) (by omega)) ?_
 simp [row_map, hb10, hb24, e1, e2, e3, e4, e5, hr]
 refine z _ ?_
 clear z Z
 refine AT_cond (b := true) (g := none) (by simp [hb10, hb24, e1, e2, e3, e4, e5, hr]) (fun hb => ?_) (fun hb => ?_)
 clear hb
 refine sr fun Z z => ?_
 simp [row_map, hb10, hb24, e1, e2, e3, e4, e5, hr]
 refine z _ ?_
 clear z Z
 refine AT_ret ?_
 simp [row_map, Tryz.f20]
 (· rw [rightE_ok, hL, hT]; simp [bodyE, kidsE, typedE, e1, e2, e3, e4, e5, hr])
 cases hb
 cases hn : (n.isEmpty)
 have hn0 : ¬ n = [] := by rw [← List.isEmpty_iff, hn]; decide
 refine sr fun Z z => ?_
 have hT : okT kd ta = true := by rw [hc2, List.drop_eq_nil_of_le hb24]; rfl
 simp [row_map, hb10, hb24, e1, e2, e3, e4, e5, hr, hn]
 refine z _ ?_
 clear z Z
 refine AT_seq_k fun K26 hK26 => ?_
 refine sr fun Z z => ?_
 simp [row_map, hb10, hb24, e1, e2, e3, e4, e5, hr, hn]
 refine RVn_call (c_ref04x_Right g rnd (.mk tn tas tp) (by omega)) ?_
 simp [row_map, hb10, hb24, e1, e2, e3, e4, e5, hr, hn]
 refine z _ ?_
 clear z Z
 refine AT_cond (b := false) (g := none) (by simp [hb10, hb24, e1, e2, e3, e4, e5, hr, hn]) (fun hb => ?_) (fun hb => ?_)
 cases hb
 clear hb
 refine AT_skip ?_
 simp only [nrm, reduceIte, Nat.reduceEqDiff]
 refine hK26 _ ?_
 refine AT_seq_k fun K27 hK27 => ?_
 refine sr fun Z z => ?_
 simp [row_map, hb10, hb24, e1, e2, e3, e4, e5, hr, hn]
 refine z _ ?_
 clear z Z
 refine AT_cond (b := true) (g := none) (by simp [hb10, hb24, e1, e2, e3, e4, e5, hr, hn]) (fun hb => ?_) (fun hb => ?_)
 clear hb
 refine sr fun Z z => ?_
 simp [row_map, hb10, hb24, e1, e2, e3, e4, e5, hr, hn]
 refine z _ ?_
 clear z Z
 refine AT_ret ?_
 simp [row_map, Tryz.f20]
 (· rw [rightE_ok, hL, hT]; simp [bodyE, kidsE, typedE, e1, e2, e3, e4, e5, hr, hn])
 cases hb
 have hn0 : n = [] := List.isEmpty_iff.1 hn
 refine sr fun Z z => ?_
 have hT : okT kd ta = true := by rw [hc2, List.drop_eq_nil_of_le hb24]; rfl
 simp [row_map, hb10, hb24, e1, e2, e3, e4, e5, hr, hn]
 refine z _ ?_
 clear z Z
 refine AT_seq_k fun K28 hK28 => ?_
 refine sr fun Z z => ?_
 simp [row_map, hb10, hb24, e1, e2, e3, e4, e5, hr, hn]
 refine RVn_call (c_ref04x_Right g rnd (.mk tn tas tp) (by omega)) ?_
 simp [row_map, hb10, hb24, e1, e2, e3, e4, e5, hr, hn]
 refine z _ ?_
 clear z Z
 refine AT_cond (b := false) (g := none) (by simp [hb10, hb24, e1, e2, e3, e4, e5, hr, hn]) (fun hb => ?_) (fun hb => ?_)
 cases hb
 clear hb
 refine AT_skip ?_
 simp only [nrm, reduceIte, Nat.reduceEqDiff]
 refine hK28 _ ?_
 refine AT_seq_k fun K29 hK29 => ?_
 refine sr fun Z z => ?_
 simp [row_map, hb10, hb24, e1, e2, e3, e4, e5, hr, hn]
 refine z _ ?_
 clear z Z
 refine AT_cond (b := false) (g := none) (by simp [hb10, hb24, e1, e2, e3, e4, e5, hr, hn]) (fun hb => ?_) (fun hb => ?_)
 cases hb
 clear hb
 refine AT_skip ?_
 simp only [nrm, reduceIte, Nat.reduceEqDiff]
 refine hK29 _ ?_
 refine AT_seq_k fun K30 hK30 => ?_
 refine sr fun Z z => ?_
 simp [row_map, hb10, hb24, e1, e2, e3, e4, e5, hr, hn]
 refine z _ ?_
 clear z Z
 refine AT_block ?_
 refine sr fun Z z => ?_
 simp [row_map, hb10, hb24, e1, e2, e3, e4, e5, hr, hn]
 refine z _ ?_
 clear z Z
 refine AT_cond (b := false) (g := none) (by simp [hb10, hb24, e1, e2, e3, e4, e5, hr, hn]) (fun hb => ?_) (fun hb => ?_)
 cases hb
 clear hb
 refine sr fun Z z => ?_
 simp [row_map, hb10, hb24, e1, e2, e3, e4, e5, hr, hn]
 refine z _ ?_
 clear z Z
 refine AT_cond (b := false) (g := none) (by simp [hb10, hb24, e1, e2, e3, e4, e5, hr, hn]) (fun hb => ?_) (fun hb => ?_)
 cases hb
 clear hb
 refine sr fun Z z => ?_
 simp [row_map, hb10, hb24, e1, e2, e3, e4, e5, hr, hn]
 refine z _ ?_
 clear z Z
 refine AT_cond (b := true) (g := none) (by simp [hb10, hb24, e1, e2, e3, e4, e5, hr, hn]) (fun hb => ?_) (fun hb => ?_)
 clear hb
 refine sr fun Z z => ?_
 simp [row_map, hb10, hb24, e1, e2, e3, e4, e5, hr, hn]
 refine z _ ?_
 clear z Z
 refine AT_ret ?_
 simp [row_map, Tryz.f20]
 (· rw [rightE_ok, hL, hT]; simp [bodyE, kidsE, typedE, e1, e2, e3, e4, e5, hr, hn])
 cases hb
 have e1 : (kd == 1) = false := by rw [hk]; rfl
 have e2 : (kd == 2) = false := by rw [hk]; rfl
 have e3 : (kd == 3) = false := by rw [hk]; rfl
 have e4 : (kd == 4) = true := by rw [hk]; rfl
 have e5 : (kd == 5) = false := by rw [hk]; rfl
 cases hr : (rightT (.mk tn tas tp))
 cases ht : tn.isEmpty
 refine sr fun Z z => ?_
 have hT : okT kd ta = true := by rw [hc2, List.drop_eq_nil_of_le hb24]; rfl
 simp [row_map, hb10, hb24, e1, e2, e3, e4, e5, hr, ht]
 refine z _ ?_
 clear z Z
 refine AT_seq_k fun K31 hK31 => ?_
 refine sr fun Z z => ?_
 simp [row_map, hb10, hb24, e1, e2, e3, e4, e5, hr, ht]
 refine RVn_call (c_ref04x_Right g rnd (.mk tn tas tp) (by omega)) ?_
 simp [row_map, hb10, hb24, e1, e2, e3, e4, e5, hr, ht]
 refine z _ ?_
 clear z Z
 refine AT_cond (b := true) (g := none) (by simp [hb10, hb24, e1, e2, e3, e4, e5, hr, ht]) (fun hb => ?_) (fun hb => ?_)
 clear hb
 refine sr fun Z z => ?_
 simp [row_map, hb10, hb24, e1, e2, e3, e4, e5, hr, ht]
 refine z _ ?_
 clear z Z
 refine AT_ret ?_
 simp [row_map, Tryz.f20]
 (· rw [rightE_ok, hL, hT]; simp [bodyE, kidsE, typedE, e1, e2, e3, e4, e5, hr, ht])
 cases hb
 cases ha : tas.isEmpty
 have ha0 : 0 < tas.length := by cases tas with | nil => cases ha | cons x r => simp
 refine sr fun Z z => ?_
 have hT : okT kd ta = true := by rw [hc2, List.drop_eq_nil_of_le hb24]; rfl
 simp [row_map, hb10, hb24, e1, e2, e3, e4, e5, hr, ht, ha0]
 refine z _ ?_
 clear z Z
 refine AT_seq_k fun K32 hK32 => ?_
 refine sr fun Z z => ?_
 simp [row_map, hb10, hb24, e1, e2, e3, e4, e5, hr, ht, ha0]
 refine RVn_call (c_ref04x_Right g rnd (.mk tn tas tp) (by omega)) ?_
 simp [row_map, hb10, hb24, e1, e2, e3, e4, e5, hr, ht, ha0]
 refine z _ ?_
 clear z Z
 refine AT_cond (b := true) (g := none) (by simp [hb10, hb24, e1, e2, e3, e4, e5, hr, ht, ha0]) (fun hb => ?_) (fun hb => ?_)
 clear hb
 refine sr fun Z z => ?_
 simp [row_map, hb10, hb24, e1, e2, e3, e4, e5, hr, ht, ha0]
 refine z _ ?_
 clear z Z
 refine AT_ret ?_
 simp [row_map, Tryz.f20]
 (· rw [rightE_ok, hL, hT]; simp [bodyE, kidsE, typedE, e1, e2, e3, e4, e5, hr, ht, ha])
 cases hb
 have ha0 : ¬ 0 < tas.length := by rw [List.isEmpty_iff.1 ha]; decide
 cases hin : (isName n)
 refine sr fun Z z => ?_
 have hT : okT kd ta = true := by rw [hc2, List.drop_eq_nil_of_le hb24]; rfl
 simp [row_map, hb10, hb24, e1, e2, e3, e4, e5, hr, ht, ha0, hin]
 refine z _ ?_
 clear z Z
 refine AT_seq_k fun K33 hK33 => ?_
 refine sr fun Z z => ?_
 simp [row_map, hb10, hb24, e1, e2, e3, e4, e5, hr, ht, ha0, hin]
 refine RVn_call (c_ref04x_Right g rnd (.mk tn tas tp) (by omega)) ?_
 simp [row_map, hb10, hb24, e1, e2, e3, e4, e5, hr, ht, ha0, hin]
 refine z _ ?_
 clear z Z
 refine AT_cond (b := false) (g := none) (by simp [hb10, hb24, e1, e2, e3, e4, e5, hr, ht, ha0, hin]) (fun hb => ?_) (fun hb => ?_)
 cases hb
 clear hb
 refine AT_skip ?_
 simp only [nrm, reduceIte, Nat.reduceEqDiff]
 refine hK33 _ ?_
 refine AT_seq_k fun K34 hK34 => ?_
 refine sr fun Z z => ?_
 simp [row_map, hb10, hb24, e1, e2, e3, e4, e5, hr, ht, ha0, hin]
 refine RVn_call (c_ref01x_Is g rnd n (by omega)) ?_
 simp [row_map, hb10, hb24, e1, e2, e3, e4, e5, hr, ht, ha0, hin]
 repeat refine sg ?_
 refine z _ ?_
 clear z Z
 refine AT_cond (b := true) (g := none) (by simp [hb10, hb24, e1, e2, e3, e4, e5, hr, ht, ha0, hin]) (fun hb => ?_) (fun hb => ?_)
 clear hb
 refine sr fun Z z => ?_
 simp [row_map, hb10, hb24, e1, e2, e3, e4, e5, hr, ht, ha0, hin]
 refine z _ ?_
 clear z Z
 refine AT_ret ?_
 simp [row_map, Tryz.f20]
 (· rw [rightE_ok, hL, hT]; simp [bodyE, kidsE, typedE, e1, e2, e3, e4, e5, hr, ht, ha, hin])
 cases hb
 refine sr fun Z z => ?_
 have hT : okT kd ta = true := by rw [hc2, List.drop_eq_nil_of_le hb24]; rfl
 simp [row_map, hb10, hb24, e1, e2, e3, e4, e5, hr, ht, ha0, hin]
 refine z _ ?_
 clear z Z
 refine AT_seq_k fun K35 hK35 => ?_
 refine sr fun Z z => ?_
 simp [row_map, hb10, hb24, e1, e2, e3, e4, e5, hr, ht, ha0, hin]
 refine RVn_call (c_ref04x_Right g rnd (.mk tn tas tp) (by omega)) ?_
 simp [row_map, hb10, hb24, e1, e2, e3, e4, e5, hr, ht, ha0, hin]
 refine z _ ?_
 clear z Z
 refine AT_cond (b := false) (g := none) (by simp [hb10, hb24, e1, e2, e3, e4, e5, hr, ht, ha0, hin]) (fun hb => ?_) (fun hb => ?_)
 cases hb
 clear hb
 refine AT_skip ?_
 simp only [nrm, reduceIte, Nat.reduceEqDiff]
 refine hK35 _ ?_
 refine AT_seq_k fun K36 hK36 => ?_
 refine sr fun Z z => ?_
 simp [row_map, hb10, hb24, e1, e2, e3, e4, e5, hr, ht, ha0, hin]
 refine RVn_call (c_ref01x_Is g rnd n (by omega)) ?_
 simp [row_map, hb10, hb24, e1, e2, e3, e4, e5, hr, ht, ha0, hin]
 repeat refine sg ?_
 refine z _ ?_
 clear z Z
 refine AT_cond (b := false) (g := none) (by simp [hb10, hb24, e1, e2, e3, e4, e5, hr, ht, ha0, hin]) (fun hb => ?_) (fun hb => ?_)
 cases hb
 clear hb
 refine AT_skip ?_
 simp only [nrm, reduceIte, Nat.reduceEqDiff]
 refine hK36 _ ?_
 refine AT_seq_k fun K37 hK37 => ?_
 refine sr fun Z z => ?_
 simp [row_map, hb10, hb24, e1, e2, e3, e4, e5, hr, ht, ha0, hin]
 refine z _ ?_
 clear z Z
 refine AT_block ?_
 refine sr fun Z z => ?_
 simp [row_map, hb10, hb24, e1, e2, e3, e4, e5, hr, ht, ha0, hin]
 refine z _ ?_
 clear z Z
 refine AT_cond (b := false) (g := none) (by simp [hb10, hb24, e1, e2, e3, e4, e5, hr, ht, ha0, hin]) (fun hb => ?_) (fun hb => ?_)
 cases hb
 clear hb
 refine sr fun Z z => ?_
 simp [row_map, hb10, hb24, e1, e2, e3, e4, e5, hr, ht, ha0, hin]
 refine z _ ?_
 clear z Z
 refine AT_cond (b := false) (g := none) (by simp [hb10, hb24, e1, e2, e3, e4, e5, hr, ht, ha0, hin]) (fun hb => ?_) (fun hb => ?_)
 cases hb
 clear hb
 refine sr fun Z z => ?_
 simp [row_map, hb10, hb24, e1, e2, e3, e4, e5, hr, ht, ha0, hin]
 refine z _ ?_
 clear z Z
 refine AT_cond (b := false) (g := none) (by simp [hb10, hb24, e1, e2, e3, e4, e5, hr, ht, ha0, hin]) (fun hb => ?_) (fun hb => ?_)
 cases hb
 clear hb
 refine AT_seq_k fun K38 hK38 => ?_
 refine sr fun Z z => ?_
 simp [row_map, hb10, hb24, e1, e2, e3, e4, e5, hr, ht, ha0, hin]
 refine z _ ?_
 clear z Z
 refine AT_cond (b := true) (g := none) (by simp [hb10, hb24, e1, e2, e3, e4, e5, hr, ht, ha0, hin]) (fun hb => ?_) (fun hb => ?_)
 clear hb
 refine AT_skip ?_
 simp only [nrm, reduceIte, Nat.reduceEqDiff]
 refine hK38 _ ?_
 refine AT_cond (b := true) (g := none) (by simp [hb10, hb24, e1, e2, e3, e4, e5, hr, ht, ha0, hin]) (fun hb => ?_) (fun hb => ?_)
 clear hb
 refine sr fun Z z => ?_
 simp [row_map, hb10, hb24, e1, e2, e3, e4, e5, hr, ht, ha0, hin]
 refine z _ ?_
 clear z Z
 refine AT_ret ?_
 simp [row_map, Tryz.f20]
 (· rw [rightE_ok, hL, hT]; simp [bodyE, kidsE, typedE, e1, e2, e3, e4, e5, hr, ht, ha, hin, len_eq0, len_ge1, len_eq1])
 cases hb
 cases hb
 refine sr fun Z z => ?_
 have hT : okT kd ta = true := by rw [hc2, List.drop_eq_nil_of_le hb24]; rfl
 simp [row_map, hb10, hb24, e1, e2, e3, e4, e5, hr]
 refine z _ ?_
 clear z Z
 refine AT_seq_k fun K39 hK39 => ?_
 refine sr fun Z z => ?_
 simp [row_map, hb10, hb24, e1, e2, e3, e4, e5, hr]
 refine RVn_call (c_ref04x_Right g rnd (.mk tn tas tp) (by omega)) ?_
 simp [row_map, hb10, hb24, e1, e2, e3, e4, e5, hr]
 refine z _ ?_
 clear z Z
 refine AT_cond (b := true) (g := none) (by simp [hb10, hb24, e1, e2, e3, e4, e5, hr]) (fun hb => ?_) (fun hb => ?_)
 clear hb
 refine sr fun Z z => ?_
 simp [row_map, hb10, hb24, e1, e2, e3, e4, e5, hr]
 refine z _ ?_
 clear z Z
 refine AT_ret ?_
 simp [row_map, Tryz.f20]
 (· rw [rightE_ok, hL, hT]; simp [bodyE, kidsE, typedE, e1, e2, e3, e4, e5, rightT_ne hr])
 cases hb
 have e1 : (kd == 1) = false := by rw [hk]; rfl
 have e2 : (kd == 2) = false := by rw [hk]; rfl
 have e3 : (kd == 3) = false := by rw [hk]; rfl
 have e4 : (kd == 4) = false := by rw [hk]; rfl
 have e5 : (kd == 5) = true := by rw [hk]; rfl
 cases hr : (rightT (.mk tn tas tp))
 refine sr fun Z z => ?_
 have hT : okT kd ta = true := by rw [hc2, List.drop_eq_nil_of_le hb24]; rfl
 simp [row_map, hb10, hb24, e1, e2, e3, e4, e5, hr]
 refine z _ ?_
 clear z Z
 refine AT_seq_k fun K40 hK40 => ?_
 refine sr fun Z z => ?_
 simp [row_map, hb10, hb24, e1, e2, e3, e4, e5, hr]
 refine RVn_call (c_ref04x_Right g rnd (.mk tn tas tp) (by omega)) ?_
 simp [row_map, hb10, hb24, e1, e2, e3, e4, e5, hr]
 refine z _ ?_
 clear z Z
 refine AT_cond (b := true) (g := none) (by simp [hb10, hb24, e1, e2, e3, e4, e5, hr]) (fun hb => ?_) (fun hb => ?_)
 clear hb
 refine sr fun Z z => ?_
 simp [row_map, hb10, hb24, e1, e2, e3, e4, e5, hr]
 refine z _ ?_
 clear z Z
 refine AT_ret ?_
 simp [row_map, Tryz.f20]
 (· rw [rightE_ok, hL, hT]; simp [bodyE, kidsE, typedE, e1, e2, e3, e4, e5, hr])
 cases hb
 cases hn : (n.isEmpty)
 have hn0 : ¬ n = [] := by rw [← List.isEmpty_iff, hn]; decide
 refine sr fun Z z => ?_
 have hT : okT kd ta = true := by rw [hc2, List.drop_eq_nil_of_le hb24]; rfl
 simp [row_map, hb10, hb24, e1, e2, e3, e4, e5, hr, hn]
 refine z _ ?_
 clear z Z
 refine AT_seq_k fun K41 hK41 => ?_
 refine sr fun Z z => ?_
 simp [row_map, hb10, hb24, e1, e2, e3, e4, e5, hr, hn]
 refine RVn_call (c_ref04x_Right g rnd (.mk tn tas tp) (by omega)) ?_
 simp [row_map, hb10, hb24, e1, e2, e3, e4, e5, hr, hn]
 refine z _ ?_
 clear z Z
 refine AT_cond (b := false) (g := none) (by simp [hb10, hb24, e1, e2, e3, e4, e5, hr, hn]) (fun hb => ?_) (fun hb => ?_)
 cases hb
 clear hb
 refine AT_skip ?_
 simp only [nrm, reduceIte, Nat.reduceEqDiff]
 refine hK41 _ ?_
 refine AT_seq_k fun K42 hK42 => ?_
 refine sr fun Z z => ?_
 simp [row_map, hb10, hb24, e1, e2, e3, e4, e5, hr, hn]
 refine z _ ?_
 clear z Z
 refine AT_cond (b := true) (g := none) (by simp [hb10, hb24, e1, e2, e3, e4, e5, hr, hn]) (fun hb => ?_) (fun hb => ?_)
 clear hb
 refine sr fun Z z => ?_
 simp [row_map, hb10, hb24, e1, e2, e3, e4, e5, hr, hn]
 refine z _ ?_
 clear z Z
 refine AT_ret ?_
 simp [row_map, Tryz.f20]
 (· rw [rightE_ok, hL, hT]; simp [bodyE, kidsE, typedE, e1, e2, e3, e4, e5, hr, hn])
 cases hb
 have hn0 : n = [] := List.isEmpty_iff.1 hn
 refine sr fun Z z => ?_
 have hT : okT kd ta = true := by rw [hc2, List.drop_eq_nil_of_le hb24]; rfl
 simp [row_map, hb10, hb24, e1, e2, e3, e4, e5, hr, hn]
 refine z _ ?_
 clear z Z
 refine AT_seq_k fun K43 hK43 => ?_
 refine sr fun Z z => ?_
 simp [row_map, hb10, hb24, e1, e2, e3, e4, e5, hr, hn]
 refine RVn_call (c_ref04x_Right g rnd (.mk tn tas tp) (by omega)) ?_
 simp [row_map, hb10, hb24, e1, e2, e3, e4, e5, hr, hn]
 refine z _ ?_
 clear z Z
 refine AT_cond (b := false) (g := none) (by simp [hb10, hb24, e1, e2, e3, e4, e5, hr, hn]) (fun hb => ?_) (fun hb => ?_)
 cases hb
 clear hb
 refine AT_skip ?_
 simp only [nrm, reduceIte, Nat.reduceEqDiff]
 refine hK43 _ ?_
 refine AT_seq_k fun K44 hK44 => ?_
 refine sr fun Z z => ?_
 simp [row_map, hb10, hb24, e1, e2, e3, e4, e5, hr, hn]
 refine z _ ?_
 clear z Z
 refine AT_cond (b := false) (g := none) (by simp [hb10, hb24, e1, e2, e3, e4, e5, hr, hn]) (fun hb => ?_) (fun hb => ?_)
 cases hb
 clear hb
 refine AT_skip ?_
 simp only [nrm, reduceIte, Nat.reduceEqDiff]
 refine hK44 _ ?_
 refine AT_seq_k fun K45 hK45 => ?_
 refine sr fun Z z => ?_
 simp [row_map, hb10, hb24, e1, e2, e3, e4, e5, hr, hn]
 refine z _ ?_
 clear z Z
 refine AT_block ?_
 refine sr fun Z z => ?_
 simp [row_map, hb10, hb24, e1, e2, e3, e4, e5, hr, hn]
 refine z _ ?_
 clear z Z
 refine AT_cond (b := false) (g := none) (by simp [hb10, hb24, e1, e2, e3, e4, e5, hr, hn]) (fun hb => ?_) (fun hb => ?_)
 cases hb
 clear hb
 refine sr fun Z z => ?_
 simp [row_map, hb10, hb24, e1, e2, e3, e4, e5, hr, hn]
 refine z _ ?_
 clear z Z
 refine AT_cond (b := false) (g := none) (by simp [hb10, hb24, e1, e2, e3, e4, e5, hr, hn]) (fun hb => ?_) (fun hb => ?_)
 cases hb
 clear hb
 refine sr fun Z z => ?_
 simp [row_map, hb10, hb24, e1, e2, e3, e4, e5, hr, hn]
 refine z _ ?_
 clear z Z
 refine AT_cond (b := false) (g := none) (by simp [hb10, hb24, e1, e2, e3, e4, e5, hr, hn]) (fun hb => ?_) (fun hb => ?_)
 cases hb
 clear hb
 refine AT_seq_k fun K46 hK46 => ?_
 refine sr fun Z z => ?_
 simp [row_map, hb10, hb24, e1, e2, e3, e4, e5, hr, hn]
 refine z _ ?_
 clear z Z
 refine AT_cond (b := false) (g := none) (by simp [hb10, hb24, e1, e2, e3, e4, e5, hr, hn]) (fun hb => ?_) (fun hb => ?_)
 cases hb
 clear hb
 refine AT_region_q fun Z z => ?_
 simp [row_map, hb10, hb24, e1, e2, e3, e4, e5, hr, hn]
 refine z _ ?_
 clear z Z
 simp only [nrm, reduceIte, Nat.reduceEqDiff]
 refine hK46 _ ?_
 refine AT_cond (b := true) (g := none) (by simp [hb10, hb24, e1, e2, e3, e4, e5, hr, hn]) (fun hb => ?_) (fun hb => ?_)
 clear hb
 refine sr fun Z z => ?_
 simp [row_map, hb10, hb24, e1, e2, e3, e4, e5, hr, hn]
 refine z _ ?_
 clear z Z
 refine AT_ret ?_
 simp [row_map, Tryz.f20]
 (· rw [rightE_ok, hL, hT]; simp [bodyE, kidsE, typedE, e1, e2, e3, e4, e5, hr, hn, len_eq0, len_ge1, len_eq1])
 cases hb
 cases hr : (rightT (.mk tn tas tp))
 cases ht : tn.isEmpty
 refine sr fun Z z => ?_
 have hT : okT kd ta = true := by rw [hc2, List.drop_eq_nil_of_le hb24]; rfl
 simp [row_map, hb10, hb24, e1, e2, e3, e4, e5, hr, ht]
 refine z _ ?_
 clear z Z
 refine AT_seq_k fun K47 hK47 => ?_
 refine sr fun Z z => ?_
 simp [row_map, hb10, hb24, e1, e2, e3, e4, e5, hr, ht]
 refine RVn_call (c_ref04x_Right g rnd (.mk tn tas tp) (by omega)) ?_
 simp [row_map, hb10, hb24, e1, e2, e3, e4, e5, hr, ht]
 refine z _ ?_
 clear z Z
 refine AT_cond (b := true) (g := none) (by simp [hb10, hb24, e1, e2, e3, e4, e5, hr, ht]) (fun hb => ?_) (fun hb => ?_)
 clear hb
 refine sr fun Z z => ?_
 simp [row_map, hb10, hb24, e1, e2, e3, e4, e5, hr, ht]
 refine z _ ?_
 clear z Z
 refine AT_ret ?_
 simp [row_map, Tryz.f20]
 (· rw [rightE_ok, hL, hT]; simp [bodyE, kidsE, typedE, e1, e2, e3, e4, e5, hr])
 cases hb
 cases ha : tas.isEmpty
 have ha0 : 0 < tas.length := by cases tas with | nil => cases ha | cons x r => simp
 refine sr fun Z z => ?_
 have hT : okT kd ta = true := by rw [hc2, List.drop_eq_nil_of_le hb24]; rfl
 simp [row_map, hb10, hb24, e1, e2, e3, e4, e5, hr, ht, ha0]
 refine z _ ?_
 clear z Z
 refine AT_seq_k fun K48 hK48 => ?_
 refine sr fun Z z => ?_
 simp [row_map, hb10, hb24, e1, e2, e3, e4, e5, hr, ht, ha0]
 refine RVn_call (c_ref04x_Right g rnd (.mk tn tas tp) (by omega)) ?_
 simp [row_map, hb10, hb24, e1, e2, e3, e4, e5, hr, ht, ha0]
 refine z _ ?_
 clear z Z
 refine AT_cond (b := true) (g := none) (by simp [hb10, hb24, e1, e2, e3, e4, e5, hr, ht, ha0]) (fun hb => ?_) (fun hb => ?_)
 clear hb
 refine sr fun Z z => ?_
 simp [row_map, hb10, hb24, e1, e2, e3, e4, e5, hr, ht, ha0]
 refine z _ ?_
 clear z Z
 refine AT_ret ?_
 simp [row_map, Tryz.f20]
 (· rw [rightE_ok, hL, hT]; simp [bodyE, kidsE, typedE, e1, e2, e3, e4, e5, hr])
 cases hb
 have ha0 : ¬ 0 < tas.length := by rw [List.isEmpty_iff.1 ha]; decide
 cases hin : (isName n)
 refine sr fun Z z => ?_
 have hT : okT kd ta = true := by rw [hc2, List.drop_eq_nil_of_le hb24]; rfl
 simp [row_map, hb10, hb24, e1, e2, e3, e4, e5, hr, ht, ha0, hin]
 refine z _ ?_
 clear z Z
 refine AT_seq_k fun K49 hK49 => ?_
 refine sr fun Z z => ?_
 simp [row_map, hb10, hb24, e1, e2, e3, e4, e5, hr, ht, ha0, hin]
 refine RVn_call (c_ref04x_Right g rnd (.mk tn tas tp) (by omega)) ?_
 simp [row_map, hb10, hb24, e1, e2, e3, e4, e5, hr, ht, ha0, hin]
 refine z _ ?_
 clear z Z
 refine AT_cond (b := false) (g := none) (by simp [hb10, hb24, e1, e2, e3, e4, e5, hr, ht, ha0, hin]) (fun hb => ?_) (fun hb => ?_)
 cases hb
 clear hb
 refine AT_skip ?_
 simp only [nrm, reduceIte, Nat.reduceEqDiff]
 refine hK49 _ ?_
 refine AT_seq_k fun K50 hK50 => ?_
 refine sr fun Z z => ?_
 simp [row_map, hb10, hb24, e1, e2, e3, e4, e5, hr, ht, ha0, hin]
 refine RVn_call (c_ref01x_Is g rnd n (by omega)) ?_
 simp [row_map, hb10, hb24, e1, e2, e3, e4, e5, hr, ht, ha0, hin]
 repeat refine sg ?_
 refine z _ ?_
 clear z Z
 refine AT_cond (b := true) (g := none) (by simp [hb10, hb24, e1, e2, e3, e4, e5, hr, ht, ha0, hin]) (fun hb => ?_) (fun hb => ?_)
 clear hb
 refine sr fun Z z => ?_
 simp [row_map, hb10, hb24, e1, e2, e3, e4, e5, hr, ht, ha0, hin]
 refine z _ ?_
 clear z Z
 refine AT_ret ?_
 simp [row_map, Tryz.f20]
 (· rw [rightE_ok, hL, hT]; simp [bodyE, kidsE, typedE, e1, e2, e3, e4, e5, hr])
 cases hb
 refine sr fun Z z => ?_
 have hT : okT kd ta = true := by rw [hc2, List.drop_eq_nil_of_le hb24]; rfl
 simp [row_map, hb10, hb24, e1, e2, e3, e4, e5, hr, ht, ha0, hin]
 refine z _ ?_
 clear z Z
 refine AT_seq_k fun K51 hK51 => ?_
 refine sr fun Z z => ?_
 simp [row_map, hb10, hb24, e1, e2, e3, e4, e5, hr, ht, ha0, hin]
 refine RVn_call (c_ref04x_Right g rnd (.mk tn tas tp) (by omega)) ?_
 simp [row_map, hb10, hb24, e1, e2, e3, e4, e5, hr, ht, ha0, hin]
 refine z _ ?_
 clear z Z
 refine AT_cond (b := false) (g := none) (by simp [hb10, hb24, e1, e2, e3, e4, e5, hr, ht, ha0, hin]) (fun hb => ?_) (fun hb => ?_)
 cases hb
 clear hb
 refine AT_skip ?_
 simp only [nrm, reduceIte, Nat.reduceEqDiff]
 refine hK51 _ ?_
 refine AT_seq_k fun K52 hK52 => ?_
 refine sr fun Z z => ?_
 simp [row_map, hb10, hb24, e1, e2, e3, e4, e5, hr, ht, ha0, hin]
 refine RVn_call (c_ref01x_Is g rnd n (by omega)) ?_
 simp [row_map, hb10, hb24, e1, e2, e3, e4, e5, hr, ht, ha0, hin]
 repeat refine sg ?_
 refine z _ ?_
 clear z Z
 refine AT_cond (b := false) (g := none) (by simp [hb10, hb24, e1, e2, e3, e4, e5, hr, ht, ha0, hin]) (fun hb => ?_) (fun hb => ?_)
 cases hb
 clear hb
 refine AT_skip ?_
 simp only [nrm, reduceIte, Nat.reduceEqDiff]
 refine hK52 _ ?_
 refine AT_seq_k fun K53 hK53 => ?_
 refine sr fun Z z => ?_
 simp [row_map, hb10, hb24, e1, e2, e3, e4, e5, hr, ht, ha0, hin]
 refine z _ ?_
 clear z Z
 refine AT_block ?_
 refine sr fun Z z => ?_
 simp [row_map, hb10, hb24, e1, e2, e3, e4, e5, hr, ht, ha0, hin]
 refine z _ ?_
 clear z Z
 refine AT_cond (b := false) (g := none) (by simp [hb10, hb24, e1, e2, e3, e4, e5, hr, ht, ha0, hin]) (fun hb => ?_) (fun hb => ?_)
 cases hb
 clear hb
 refine sr fun Z z => ?_
 simp [row_map, hb10, hb24, e1, e2, e3, e4, e5, hr, ht, ha0, hin]
 refine z _ ?_
 clear z Z
 refine AT_cond (b := false) (g := none) (by simp [hb10, hb24, e1, e2, e3, e4, e5, hr, ht, ha0, hin]) (fun hb => ?_) (fun hb => ?_)
 cases hb
 clear hb
 refine sr fun Z z => ?_
 simp [row_map, hb10, hb24, e1, e2, e3, e4, e5, hr, ht, ha0, hin]
 refine z _ ?_
 clear z Z
 refine AT_cond (b := false) (g := none) (by simp [hb10, hb24, e1, e2, e3, e4, e5, hr, ht, ha0, hin]) (fun hb => ?_) (fun hb => ?_)
 cases hb
 clear hb
 refine AT_seq_k fun K54 hK54 => ?_
 refine sr fun Z z => ?_
 simp [row_map, hb10, hb24, e1, e2, e3, e4, e5, hr, ht, ha0, hin]
 refine z _ ?_
 clear z Z
 refine AT_cond (b := false) (g := none) (by simp [hb10, hb24, e1, e2, e3, e4, e5, hr, ht, ha0, hin]) (fun hb => ?_) (fun hb => ?_)
 cases hb
 clear hb
 refine AT_region_q fun Z z => ?_
 simp [row_map, hb10, hb24, e1, e2, e3, e4, e5, hr, ht, ha0, hin]
 refine z _ ?_
 clear z Z
 simp only [nrm, reduceIte, Nat.reduceEqDiff]
 refine hK54 _ ?_
 refine AT_cond (b := false) (g := none) (by simp [hb10, hb24, e1, e2, e3, e4, e5, hr, ht, ha0, hin]) (fun hb => ?_) (fun hb => ?_)
 cases hb
 clear hb
 refine AT_skip ?_
 refine hK53 _ ?_
 refine sr fun Z z => ?_
 simp [row_map, hb10, hb24, e1, e2, e3, e4, e5, hr, ht, ha0, hin]
 refine z _ ?_
 clear z Z
 refine AT_ret ?_
 simp [row_map, Tryz.f20]
 (· rw [rightE_ok, hL, hT]; simp [bodyE, kidsE, typedE, e1, e2, e3, e4, e5, hr])
 refine sr fun Z z => ?_
 have hT : okT kd ta = true := by rw [hc2, List.drop_eq_nil_of_le hb24]; rfl
 simp [row_map, hb10, hb24, e1, e2, e3, e4, e5, hr]
 refine z _ ?_
 clear z Z
 refine AT_seq_k fun K55 hK55 => ?_
 refine sr fun Z z => ?_
 simp [row_map, hb10, hb24, e1, e2, e3, e4, e5, hr]
 refine RVn_call (c_ref04x_Right g rnd (.mk tn tas tp) (by omega)) ?_
 simp [row_map, hb10, hb24, e1, e2, e3, e4, e5, hr]
 refine z _ ?_
 clear z Z
 refine AT_cond (b := true) (g := none) (by simp [hb10, hb24, e1, e2, e3, e4, e5, hr]) (fun hb => ?_) (fun hb => ?_)
 clear hb
 refine sr fun Z z => ?_
 simp [row_map, hb10, hb24, e1, e2, e3, e4, e5, hr]
 refine z _ ?_
 clear z Z
 refine AT_ret ?_
 simp [row_map, Tryz.f20]
 (· rw [rightE_ok, hL, hT]; simp [bodyE, kidsE, typedE, e1, e2, e3, e4, e5, hr])
 cases hb

end Go.Proofs.YtepbmjchhcmcoaaGreatDoor
end

import Derived.Test.YtdifpfehijnmiaaGreatDoorPt
import Derived.Test.YtdifpfehijnmiaaGreatDoorPvXa
import Derived.Test.YtdifpfehijnmiaaGreatDoorPvY
import Derived.Test.YtdifpfehijnmiaaGreatDoorPvXb
import Derived.Test.YtdifpfehijnmiaaGreatDoorXTyC
import Derived.Test.YtdifpfehijnmiaaGreatDoorXExA
import Derived.Test.YtdifpfehijnmiaaGreatDoorXDcO
section
/- Contracts: counting declarations. -/
set_option linter.all false
set_option maxHeartbeats 1000000
set_option maxRecDepth 10000
namespace Go.Proofs.YtdifpfehijnmiaaGreatDoor
open Go Go.Pv
variable (g : Nat → Option (List AV)) (rnd : Bool)

theorem c_ref06x_countFormals (l : List Fm) (hf : fitFs l) (n : Nat) (hn : n ≤ 100000000000000) : Valid Tryz.prog (G0 g rnd) 80 [.slice (l.map encF), .int .i64 n] (.int .i64 (cntFs l n)) := by
 obtain ⟨hf1, hf2⟩ := hf
 refine valid_of [] Tryz.func80 rfl (by kernel_rfl) ?_
 refine sr fun Z z => ?_
 simp [row_map, tdiv50, encF, Tryz.f80]
 refine z _ ?_
 clear z Z
 refine AT_seq_k fun K1 hK1 => ?_
 refine sr fun Z z => ?_
 simp [row_map, tdiv50, encF]
 refine z _ ?_
 clear z Z
 refine AT_block ?_
 refine AT_loop_q [0,1,5] [] (fun j s => ∃ k c, k ≤ l.length ∧ cntFs l n = cntFs (l.drop k) c ∧ j = l.length - k ∧ s = { n := 33, tm := [(0, .v (.slice (l.map encF)) none), (1, .v (.int .i64 (c : Nat)) none), (5, .v (.int .i64 k) none)], bx := [], tb := [], sh := [], hint := [] }) (l.length) (by first | rfl | simp) ?_ ?_
 exact ⟨0, n, by simp⟩
 rintro j s ⟨k, c, hk, hc, rfl, rfl⟩ K2 hK2
 refine AT_seq_k fun K3 hK3 => ?_
 by_cases hkt : k < l.length
 refine sr fun Z z => ?_
 simp [row_map, tdiv50, encF, hkt]
 repeat refine sg ?_
 refine z _ ?_
 clear z Z
 refine AT_cond (g := none) rfl (fun hb13 => ?_) (fun hb13 => ?_)
 try simp [row_map, tdiv50, encF, hkt] at hb13
 refine AT_skip ?_
 try simp only [nrm, reduceIte, Nat.reduceEqDiff]
 refine hK3 _ ?_
 refine AT_seq_k fun K4 hK4 => ?_
 refine AT_block ?_
 refine AT_draw_q Pt.mixed (by kernel_rfl) fun Z z => ?_
 have hfk := hf2 l[k] (by simp)
 have hfn := hfk.1
 simp [row_map, tdiv50, encF, hkt]
 repeat refine sg ?_
 refine RVdn_call ((by have h := c_ref04x_Count g rnd l[k].ty hfk.2 (c + 1 + l[k].name.length / 50) (by omega); simp only [encTy_def] at h; exact h)) ?_
 simp [row_map, tdiv50, encF, hkt]
 repeat refine sg ?_
 refine z _ ?_
 clear z Z
 try simp only [nrm, reduceIte, Nat.reduceEqDiff]
 refine hK4 _ ?_
 refine AT_region_q fun Z z => ?_
 simp [row_map, tdiv50, encF, hkt]
 repeat refine sg ?_
 refine z _ ?_
 clear z Z
 try simp only [nrm, reduceIte, Nat.reduceEqDiff]
 refine hK2 _ (by first | rfl | simp) (l.length - (k+1)) (by omega) ?_
 refine ⟨k+1, cnt l[k].ty (c + 1 + l[k].name.length / 50), by omega, ?_, by omega, by simp⟩
 rw [hc, List.drop_eq_getElem_cons hkt, cntFs_cons, if_pos (by omega)]
 try simp [row_map, tdiv50, encF, hkt] at hb13
 refine AT_exit ?_
 try simp only [nrm, reduceIte, Nat.reduceEqDiff]
 refine hK1 _ ?_
 refine sr fun Z z => ?_
 simp [row_map, tdiv50, encF, hkt]
 refine z _ ?_
 clear z Z
 refine AT_ret ?_
 simp [row_map, tdiv50, encF, Tryz.f80]
 (rw [hc, List.drop_eq_getElem_cons hkt, cntFs_cons, if_neg (by omega)])
 refine sr fun Z z => ?_
 simp [row_map, tdiv50, encF, hkt]
 repeat refine sg ?_
 refine z _ ?_
 clear z Z
 refine AT_cond (b := false) (g := none) (by simp [hkt]) (fun hb => ?_) (fun hb => ?_)
 cases hb
 clear hb
 refine AT_exit ?_
 try simp only [nrm, reduceIte, Nat.reduceEqDiff]
 refine hK1 _ ?_
 refine sr fun Z z => ?_
 simp [row_map, tdiv50, encF, hkt]
 refine z _ ?_
 clear z Z
 refine AT_ret ?_
 simp [row_map, tdiv50, encF, Tryz.f80]
 (rw [hc, List.drop_eq_nil_of_le (by omega)]; rfl)

theorem c_ref06x_countParams (l : List Fm) (hf : fitFs l) (n : Nat) (hn : n ≤ 100000000000000) : Valid Tryz.prog (G0 g rnd) 79 [.slice (l.map encF), .int .i64 n] (.int .i64 (cntFs l n)) := by
 obtain ⟨hf1, hf2⟩ := hf
 refine valid_of [] Tryz.func79 rfl (by kernel_rfl) ?_
 refine sr fun Z z => ?_
 simp [row_map, tdiv50, encF, Tryz.f79]
 refine z _ ?_
 clear z Z
 refine AT_seq_k fun K1 hK1 => ?_
 refine sr fun Z z => ?_
 simp [row_map, tdiv50, encF]
 refine z _ ?_
 clear z Z
 refine AT_block ?_
 refine AT_loop_q [0,1,5] [] (fun j s => ∃ k c, k ≤ l.length ∧ cntFs l n = cntFs (l.drop k) c ∧ j = l.length - k ∧ s = { n := 33, tm := [(0, .v (.slice (l.map encF)) none), (1, .v (.int .i64 (c : Nat)) none), (5, .v (.int .i64 k) none)], bx := [], tb := [], sh := [], hint := [] }) (l.length) (by first | rfl | simp) ?_ ?_
 exact ⟨0, n, by simp⟩
 rintro j s ⟨k, c, hk, hc, rfl, rfl⟩ K2 hK2
 refine AT_seq_k fun K3 hK3 => ?_
 by_cases hkt : k < l.length
 refine sr fun Z z => ?_
 simp [row_map, tdiv50, encF, hkt]
 repeat refine sg ?_
 refine z _ ?_
 clear z Z
 refine AT_cond (g := none) rfl (fun hb13 => ?_) (fun hb13 => ?_)
 try simp [row_map, tdiv50, encF, hkt] at hb13
 refine AT_skip ?_
 try simp only [nrm, reduceIte, Nat.reduceEqDiff]
 refine hK3 _ ?_
 refine AT_seq_k fun K4 hK4 => ?_
 refine AT_block ?_
 refine AT_draw_q Pt.mixed (by kernel_rfl) fun Z z => ?_
 have hfk := hf2 l[k] (by simp)
 have hfn := hfk.1
 simp [row_map, tdiv50, encF, hkt]
 repeat refine sg ?_
 refine RVdn_call ((by have h := c_ref04x_Count g rnd l[k].ty hfk.2 (c + 1 + l[k].name.length / 50) (by omega); simp only [encTy_def] at h; exact h)) ?_
 simp [row_map, tdiv50, encF, hkt]
 repeat refine sg ?_
 refine z _ ?_
 clear z Z
 try simp only [nrm, reduceIte, Nat.reduceEqDiff]
 refine hK4 _ ?_
 refine AT_region_q fun Z z => ?_
 simp [row_map, tdiv50, encF, hkt]
 repeat refine sg ?_
 refine z _ ?_
 clear z Z
 try simp only [nrm, reduceIte, Nat.reduceEqDiff]
 refine hK2 _ (by first | rfl | simp) (l.length - (k+1)) (by omega) ?_
 refine ⟨k+1, cnt l[k].ty (c + 1 + l[k].name.length / 50), by omega, ?_, by omega, by simp⟩
 rw [hc, List.drop_eq_getElem_cons hkt, cntFs_cons, if_pos (by omega)]
 try simp [row_map, tdiv50, encF, hkt] at hb13
 refine AT_exit ?_
 try simp only [nrm, reduceIte, Nat.reduceEqDiff]
 refine hK1 _ ?_
 refine sr fun Z z => ?_
 simp [row_map, tdiv50, encF, hkt]
 refine z _ ?_
 clear z Z
 refine AT_ret ?_
 simp [row_map, tdiv50, encF, Tryz.f79]
 (rw [hc, List.drop_eq_getElem_cons hkt, cntFs_cons, if_neg (by omega)])
 refine sr fun Z z => ?_
 simp [row_map, tdiv50, encF, hkt]
 repeat refine sg ?_
 refine z _ ?_
 clear z Z
 refine AT_cond (b := false) (g := none) (by simp [hkt]) (fun hb => ?_) (fun hb => ?_)
 cases hb
 clear hb
 refine AT_exit ?_
 try simp only [nrm, reduceIte, Nat.reduceEqDiff]
 refine hK1 _ ?_
 refine sr fun Z z => ?_
 simp [row_map, tdiv50, encF, hkt]
 refine z _ ?_
 clear z Z
 refine AT_ret ?_
 simp [row_map, tdiv50, encF, Tryz.f79]
 (rw [hc, List.drop_eq_nil_of_le (by omega)]; rfl)

theorem c_ref06x_countSig (s : Sg) (hf : fitG s) (n : Nat) (hn : n ≤ 10000000000000) : Valid Tryz.prog (G0 g rnd) 81 [.agg (encG s), .int .i64 n] (.int .i64 (cntG s n)) := by
 obtain ⟨hf1, hf2, hf3, hf4⟩ := hf
 have e1 := cntFs_ub hf2.2 (n + s.name.length / 50)
 have e2 := cntFs_ub hf3.2 (cntFs s.fms (n + s.name.length / 50))
 refine valid_of [] Tryz.func81 rfl (by kernel_rfl) ?_
 refine sr fun Z z => ?_
 simp [tdiv50, encG, Tryz.f81]
 refine z _ ?_
 clear z Z
 refine AT_seq_draw Pt.mixed (by kernel_rfl) fun Z z => ?_
 simp [tdiv50, encG]
 repeat refine sg ?_
 refine RVdn_call (c_ref06x_countFormals g rnd s.fms hf2 (n + s.name.length / 50) (by omega)) ?_
 simp [tdiv50, encG]
 repeat refine sg ?_
 refine RVdn_call (c_ref06x_countParams g rnd s.pms hf3 (cntFs s.fms (n + s.name.length / 50)) (by omega)) ?_
 simp [tdiv50, encG]
 repeat refine sg ?_
 refine RVdn_call ((by have h := c_ref04x_Count g rnd s.res hf4 (cntFs s.pms (cntFs s.fms (n + s.name.length / 50))) (by omega); simp only [encTy_def] at h; exact h)) ?_
 simp [tdiv50, encG]
 repeat refine sg ?_
 refine z _ ?_
 clear z Z
 refine AT_ret ?_
 simp [tdiv50, encG, Tryz.f81]
 rw [cntG]

theorem c_ref06x_Count (p : Pg) (hf : fitPg p) : Valid Tryz.prog (G0 g rnd) 27 [.agg (encPg p)] (.int .i64 (cntPg p)) := by
 obtain ⟨⟨hf1, hf2⟩, hf3⟩ := hf
 refine valid_of [] Tryz.func27 rfl (by kernel_rfl) ?_
 refine sr fun Z z => ?_
 simp [row_map, tdiv50, encPg, Tryz.f27]
 refine z _ ?_
 clear z Z
 refine sr fun Z z => ?_
 simp [row_map, tdiv50, encPg]
 repeat refine sg ?_
 refine RVn_call ((by have h := c_ref05x_Count g rnd p.main hf3 0 (by omega); simp only [encE_def] at h; exact h)) ?_
 simp [row_map, tdiv50, encPg]
 repeat refine sg ?_
 refine z _ ?_
 clear z Z
 refine AT_seq_k fun K1 hK1 => ?_
 refine sr fun Z z => ?_
 simp [row_map, tdiv50, encPg]
 refine z _ ?_
 clear z Z
 refine AT_block ?_
 refine AT_loop_q [1,3,4] [1] (fun j s => ∃ k c, k ≤ p.decls.length ∧ cntPg p = cntDs (p.decls.drop k) c ∧ j = p.decls.length - k ∧ s = { n := 94, tm := [(1, .lp 1 0), (3, .v (.int .i64 (c : Nat)) none), (4, .v (.int .i64 k) none)], bx := [(1, encPg p)], tb := [], sh := [], hint := [] }) (p.decls.length) (by first | rfl | simp) ?_ ?_
 exact ⟨0, cntE p.main 0, by simp [encPg, cntPg]⟩
 rintro j s ⟨k, c, hk, hc, rfl, rfl⟩ K2 hK2
 refine AT_seq_k fun K3 hK3 => ?_
 by_cases hkt : k < p.decls.length
 refine sr fun Z z => ?_
 simp [row_map, tdiv50, encPg, hkt]
 repeat refine sg ?_
 refine z _ ?_
 clear z Z
 refine AT_cond (g := none) rfl (fun hb19 => ?_) (fun hb19 => ?_)
 try simp [row_map, tdiv50, encPg, hkt] at hb19
 refine AT_skip ?_
 try simp only [nrm, reduceIte, Nat.reduceEqDiff]
 refine hK3 _ ?_
 refine AT_seq_k fun K4 hK4 => ?_
 refine AT_block ?_
 refine sr fun Z z => ?_
 obtain ⟨q1, ⟨q2a, q2⟩, ⟨q3a, q3⟩, ⟨q4a, q4⟩, q5, ⟨q6a, q6⟩, q7, q8⟩ := hf2 p.decls[k] (by simp)
 have u1 := cntFs_ub q2 (c + 1 + p.decls[k].name.length / 50 + p.decls[k].recv.length / 50)
 have u2 := cntFs_ub q3 (cntFs p.decls[k].fms (c + 1 + p.decls[k].name.length / 50 + p.decls[k].recv.length / 50))
 simp [row_map, tdiv50, encPg, encD, hkt]
 repeat refine sg ?_
 refine z _ ?_
 clear z Z
 refine AT_seq_draw Pt.mixed (by kernel_rfl) fun Z z => ?_
 simp [row_map, tdiv50, encPg, encD, hkt]
 repeat refine sg ?_
 refine RVdn_call (c_ref06x_countFormals g rnd p.decls[k].fms ⟨q2a, q2⟩ (c + 1 + p.decls[k].name.length / 50 + p.decls[k].recv.length / 50) (by omega)) ?_
 simp [row_map, tdiv50, encPg, encD, hkt]
 repeat refine sg ?_
 refine RVdn_call (c_ref06x_countParams g rnd p.decls[k].flds ⟨q3a, q3⟩ (cntFs p.decls[k].fms (c + 1 + p.decls[k].name.length / 50 + p.decls[k].recv.length / 50)) (by omega)) ?_
 simp [row_map, tdiv50, encPg, encD, hkt]
 repeat refine sg ?_
 refine z _ ?_
 clear z Z
 refine AT_seq_k fun K5 hK5 => ?_
 refine sr fun Z z => ?_
 simp [row_map, tdiv50, encPg, hkt]
 refine z _ ?_
 clear z Z
 refine AT_block ?_
 refine AT_loop_q [1,3,4,5,6] [1,5] (fun j s => ∃ m e, m ≤ p.decls[k].sigs.length ∧ cntGs p.decls[k].sigs (cntFs p.decls[k].flds (cntFs p.decls[k].fms (c + 1 + p.decls[k].name.length / 50 + p.decls[k].recv.length / 50))) = cntGs (p.decls[k].sigs.drop m) e ∧ j = p.decls[k].sigs.length - m ∧ s = { n := 94, tm := [(1, .lp 1 0), (3, .v (.int .i64 (e : Nat)) none), (4, .v (.int .i64 k) none), (5, .lp 5 0), (6, .v (.int .i64 m) none)], bx := [(1, encPg p), (5, encD p.decls[k])], tb := [], sh := [], hint := [] }) (p.decls[k].sigs.length) (by first | rfl | simp) ?_ ?_
 exact ⟨0, cntFs p.decls[k].flds (cntFs p.decls[k].fms (c + 1 + p.decls[k].name.length / 50 + p.decls[k].recv.length / 50)), by simp [encD, encPg]⟩
 rintro j s ⟨m, e, hm, he, rfl, rfl⟩ K6 hK6
 refine AT_seq_k fun K7 hK7 => ?_
 by_cases hms : m < p.decls[k].sigs.length
 refine sr fun Z z => ?_
 simp [row_map, tdiv50, encPg, encD, hkt, hms]
 repeat refine sg ?_
 refine z _ ?_
 clear z Z
 refine AT_cond (g := none) rfl (fun hb53 => ?_) (fun hb53 => ?_)
 try simp [row_map, tdiv50, encPg, hkt, hms] at hb53
 refine AT_skip ?_
 try simp only [nrm, reduceIte, Nat.reduceEqDiff]
 refine hK7 _ ?_
 refine AT_seq_k fun K8 hK8 => ?_
 refine AT_block ?_
 refine AT_region_q fun Z z => ?_
 simp [row_map, tdiv50, encPg, encD, encG, hkt, hms]
 repeat refine sg ?_
 refine RVn_call ((by have h := c_ref06x_countSig g rnd p.decls[k].sigs[m] (q4 _ (by simp)) e (by omega); simp only [encG] at h; exact h)) ?_
 simp [row_map, tdiv50, encPg, encD, encG, hkt, hms]
 repeat refine sg ?_
 refine z _ ?_
 clear z Z
 try simp only [nrm, reduceIte, Nat.reduceEqDiff]
 refine hK8 _ ?_
 refine AT_region_q fun Z z => ?_
 simp [row_map, tdiv50, encPg, hkt, hms]
 repeat refine sg ?_
 refine z _ ?_
 clear z Z
 try simp only [nrm, reduceIte, Nat.reduceEqDiff]
 refine hK6 _ (by first | rfl | simp) (p.decls[k].sigs.length - (m+1)) (by omega) ?_
 refine ⟨m+1, cntG p.decls[k].sigs[m] e, by omega, ?_, by omega, by simp [encD, encPg]⟩
 rw [he, List.drop_eq_getElem_cons hms, cntGs_cons, if_pos (by omega)]
 try simp [row_map, tdiv50, encPg, hkt, hms] at hb53
 refine AT_exit ?_
 try simp only [nrm, reduceIte, Nat.reduceEqDiff]
 refine hK5 _ ?_
 refine AT_seq_k fun K9 hK9 => ?_
 refine sr fun Z z => ?_
 have hG : cntGs p.decls[k].sigs (cntFs p.decls[k].flds (cntFs p.decls[k].fms (c + 1 + p.decls[k].name.length / 50 + p.decls[k].recv.length / 50))) = e := by
   rw [he]
   (rw [List.drop_eq_getElem_cons hms, cntGs_cons, if_neg (by omega)])
 simp [row_map, tdiv50, encPg, hkt, hms]
 refine z _ ?_
 clear z Z
 refine AT_block ?_
 refine AT_loop_q [1,3,4,5,7] [1,5] (fun j s => ∃ i w, i ≤ p.decls[k].vars.length ∧ cntVs p.decls[k].vars (cntGs p.decls[k].sigs (cntFs p.decls[k].flds (cntFs p.decls[k].fms (c + 1 + p.decls[k].name.length / 50 + p.decls[k].recv.length / 50)))) = cntVs (p.decls[k].vars.drop i) w ∧ j = p.decls[k].vars.length - i ∧ s = { n := 94, tm := [(1, .lp 1 0), (3, .v (.int .i64 (w : Nat)) none), (4, .v (.int .i64 k) none), (5, .lp 5 0), (7, .v (.int .i64 i) none)], bx := [(1, encPg p), (5, encD p.decls[k])], tb := [], sh := [], hint := [] }) (p.decls[k].vars.length) (by first | rfl | simp) ?_ ?_
 exact ⟨0, e, by omega, by rw [hG]; rfl, by omega, by simp [encD, encPg]⟩
 rintro j s ⟨i, w, hi, hw, rfl, rfl⟩ K10 hK10
 refine AT_seq_k fun K11 hK11 => ?_
 by_cases hmv : i < p.decls[k].vars.length
 refine sr fun Z z => ?_
 simp [row_map, tdiv50, encPg, encD, hkt, hms, hmv]
 repeat refine sg ?_
 refine z _ ?_
 clear z Z
 refine AT_cond (g := none) rfl (fun hb71 => ?_) (fun hb71 => ?_)
 try simp [row_map, tdiv50, encPg, hkt, hms, hmv] at hb71
 refine AT_skip ?_
 try simp only [nrm, reduceIte, Nat.reduceEqDiff]
 refine hK11 _ ?_
 refine AT_seq_k fun K12 hK12 => ?_
 refine AT_block ?_
 refine AT_region_q fun Z z => ?_
 have q6k := q6 p.decls[k].vars[i] (by simp)
 simp [row_map, tdiv50, encPg, encD, encS, hkt, hms, hmv]
 repeat refine sg ?_
 refine z _ ?_
 clear z Z
 try simp only [nrm, reduceIte, Nat.reduceEqDiff]
 refine hK12 _ ?_
 refine AT_region_q fun Z z => ?_
 simp [row_map, tdiv50, encPg, hkt, hms, hmv]
 repeat refine sg ?_
 refine z _ ?_
 clear z Z
 try simp only [nrm, reduceIte, Nat.reduceEqDiff]
 refine hK10 _ (by first | rfl | simp) (p.decls[k].vars.length - (i+1)) (by omega) ?_
 refine ⟨i+1, w + 1 + p.decls[k].vars[i].length / 50, by omega, ?_, by omega, by simp [encD, encPg]⟩
 rw [hw, List.drop_eq_getElem_cons hmv, cntVs_cons, if_pos (by omega)]
 try simp [row_map, tdiv50, encPg, hkt, hms, hmv] at hb71
 refine AT_exit ?_
 try simp only [nrm, reduceIte, Nat.reduceEqDiff]
 refine hK9 _ ?_
 refine sr fun Z z => ?_
 have hV : cntVs p.decls[k].vars (cntGs p.decls[k].sigs (cntFs p.decls[k].flds (cntFs p.decls[k].fms (c + 1 + p.decls[k].name.length / 50 + p.decls[k].recv.length / 50)))) = w := by
   rw [hw]
   (rw [List.drop_eq_getElem_cons hmv, cntVs_cons, if_neg (by omega)])
 simp [row_map, tdiv50, encPg, hkt, hms, hmv]
 repeat refine sg ?_
 refine z _ ?_
 clear z Z
 refine AT_cond (g := none) rfl (fun hb85 => ?_) (fun hb85 => ?_)
 try simp [row_map, tdiv50, encPg, hkt, hms, hmv] at hb85
 refine AT_draw_q Pt.mixed (by kernel_rfl) fun Z z => ?_
 have u3 := cntG_ub q7 w
 simp [row_map, tdiv50, encPg, encD, hkt, hms, hmv, hb85]
 repeat refine sg ?_
 refine RVdn_call ((by have h := c_ref06x_countSig g rnd p.decls[k].sig q7 w (by omega); simp only [encG] at h; exact h)) ?_
 simp [row_map, tdiv50, encPg, encD, hkt, hms, hmv, hb85]
 repeat refine sg ?_
 refine RVdn_call ((by have h := c_ref05x_Count g rnd p.decls[k].body q8 (cntG p.decls[k].sig w) (by omega); simp only [encE_def] at h; exact h)) ?_
 simp [row_map, tdiv50, encPg, encD, hkt, hms, hmv, hb85]
 repeat refine sg ?_
 refine z _ ?_
 clear z Z
 try simp only [nrm, reduceIte, Nat.reduceEqDiff]
 refine hK4 _ ?_
 refine AT_region_q fun Z z => ?_
 simp [row_map, tdiv50, encPg, hkt, hms, hmv, hb85]
 repeat refine sg ?_
 refine z _ ?_
 clear z Z
 try simp only [nrm, reduceIte, Nat.reduceEqDiff]
 refine hK2 _ (by first | rfl | simp) (p.decls.length - (k+1)) (by omega) ?_
 first
| (· refine ⟨k+1, cntE p.decls[k].body (cntG p.decls[k].sig w), by omega, ?_, by omega, by simp [encPg]⟩
     rw [hc, List.drop_eq_getElem_cons hkt, cntDs_cons, if_pos (by omega), cntD, hV, if_pos (by omega)])
| (refine ⟨k+1, w, by omega, ?_, by omega, by simp [encPg]⟩
   rw [hc, List.drop_eq_getElem_cons hkt, cntDs_cons, if_pos (by omega), cntD, hV, if_neg (by omega)])
 try simp [row_map, tdiv50, encPg, hkt, hms, hmv] at hb85
 refine AT_skip ?_
 try simp only [nrm, reduceIte, Nat.reduceEqDiff]
 refine hK4 _ ?_
 refine AT_region_q fun Z z => ?_
 simp [row_map, tdiv50, encPg, hkt, hms, hmv, hb85]
 repeat refine sg ?_
 refine z _ ?_
 clear z Z
 try simp only [nrm, reduceIte, Nat.reduceEqDiff]
 refine hK2 _ (by first | rfl | simp) (p.decls.length - (k+1)) (by omega) ?_
 first
| (· refine ⟨k+1, cntE p.decls[k].body (cntG p.decls[k].sig w), by omega, ?_, by omega, by simp [encPg]⟩
     rw [hc, List.drop_eq_getElem_cons hkt, cntDs_cons, if_pos (by omega), cntD, hV, if_pos (by omega)])
| (refine ⟨k+1, w, by omega, ?_, by omega, by simp [encPg]⟩
   rw [hc, List.drop_eq_getElem_cons hkt, cntDs_cons, if_pos (by omega), cntD, hV, if_neg (by omega)])
 refine sr fun Z z => ?_
 simp [row_map, tdiv50, encPg, encD, hkt, hms, hmv]
 repeat refine sg ?_
 refine z _ ?_
 clear z Z
 refine AT_cond (b := false) (g := none) (by simp [hkt, hms, hmv]) (fun hb => ?_) (fun hb => ?_)
 cases hb
 clear hb
 refine AT_exit ?_
 try simp only [nrm, reduceIte, Nat.reduceEqDiff]
 refine hK9 _ ?_
 refine sr fun Z z => ?_
 have hV : cntVs p.decls[k].vars (cntGs p.decls[k].sigs (cntFs p.decls[k].flds (cntFs p.decls[k].fms (c + 1 + p.decls[k].name.length / 50 + p.decls[k].recv.length / 50)))) = w := by
   rw [hw]
   (rw [List.drop_eq_nil_of_le (by omega)]; rfl)
 simp [row_map, tdiv50, encPg, hkt, hms, hmv]
 repeat refine sg ?_
 refine z _ ?_
 clear z Z
 refine AT_cond (g := none) rfl (fun hb85 => ?_) (fun hb85 => ?_)
 try simp [row_map, tdiv50, encPg, hkt, hms, hmv] at hb85
 refine AT_draw_q Pt.mixed (by kernel_rfl) fun Z z => ?_
 have u3 := cntG_ub q7 w
 simp [row_map, tdiv50, encPg, encD, hkt, hms, hmv, hb85]
 repeat refine sg ?_
 refine RVdn_call ((by have h := c_ref06x_countSig g rnd p.decls[k].sig q7 w (by omega); simp only [encG] at h; exact h)) ?_
 simp [row_map, tdiv50, encPg, encD, hkt, hms, hmv, hb85]
 repeat refine sg ?_
 refine RVdn_call ((by have h := c_ref05x_Count g rnd p.decls[k].body q8 (cntG p.decls[k].sig w) (by omega); simp only [encE_def] at h; exact h)) ?_
 simp [row_map, tdiv50, encPg, encD, hkt, hms, hmv, hb85]
 repeat refine sg ?_
 refine z _ ?_
 clear z Z
 try simp only [nrm, reduceIte, Nat.reduceEqDiff]
 refine hK4 _ ?_
 refine AT_region_q fun Z z => ?_
 simp [row_map, tdiv50, encPg, hkt, hms, hmv, hb85]
 repeat refine sg ?_
 refine z _ ?_
 clear z Z
 try simp only [nrm, reduceIte, Nat.reduceEqDiff]
 refine hK2 _ (by first | rfl | simp) (p.decls.length - (k+1)) (by omega) ?_
 first
| (· refine ⟨k+1, cntE p.decls[k].body (cntG p.decls[k].sig w), by omega, ?_, by omega, by simp [encPg]⟩
     rw [hc, List.drop_eq_getElem_cons hkt, cntDs_cons, if_pos (by omega), cntD, hV, if_pos (by omega)])
| (refine ⟨k+1, w, by omega, ?_, by omega, by simp [encPg]⟩
   rw [hc, List.drop_eq_getElem_cons hkt, cntDs_cons, if_pos (by omega), cntD, hV, if_neg (by omega)])
 try simp [row_map, tdiv50, encPg, hkt, hms, hmv] at hb85
 refine AT_skip ?_
 try simp only [nrm, reduceIte, Nat.reduceEqDiff]
 refine hK4 _ ?_
 refine AT_region_q fun Z z => ?_
 simp [row_map, tdiv50, encPg, hkt, hms, hmv, hb85]
 repeat refine sg ?_
 refine z _ ?_
 clear z Z
 try simp only [nrm, reduceIte, Nat.reduceEqDiff]
 refine hK2 _ (by first | rfl | simp) (p.decls.length - (k+1)) (by omega) ?_
 first
| (· refine ⟨k+1, cntE p.decls[k].body (cntG p.decls[k].sig w), by omega, ?_, by omega, by simp [encPg]⟩
     rw [hc, List.drop_eq_getElem_cons hkt, cntDs_cons, if_pos (by omega), cntD, hV, if_pos (by omega)])
| (refine ⟨k+1, w, by omega, ?_, by omega, by simp [encPg]⟩
   rw [hc, List.drop_eq_getElem_cons hkt, cntDs_cons, if_pos (by omega), cntD, hV, if_neg (by omega)])
 refine sr fun Z z => ?_
 simp [row_map, tdiv50, encPg, encD, hkt, hms]
 repeat refine sg ?_
 refine z _ ?_
 clear z Z
 refine AT_cond (b := false) (g := none) (by simp [hkt, hms]) (fun hb => ?_) (fun hb => ?_)
 cases hb
 clear hb
 refine AT_exit ?_
 try simp only [nrm, reduceIte, Nat.reduceEqDiff]
 refine hK5 _ ?_
 refine AT_seq_k fun K13 hK13 => ?_
 refine sr fun Z z => ?_
 have hG : cntGs p.decls[k].sigs (cntFs p.decls[k].flds (cntFs p.decls[k].fms (c + 1 + p.decls[k].name.length / 50 + p.decls[k].recv.length / 50))) = e := by
   rw [he]
   (rw [List.drop_eq_nil_of_le (by omega)]; rfl)
 simp [row_map, tdiv50, encPg, hkt, hms]
 refine z _ ?_
 clear z Z
 refine AT_block ?_
 refine AT_loop_q [1,3,4,5,7] [1,5] (fun j s => ∃ i w, i ≤ p.decls[k].vars.length ∧ cntVs p.decls[k].vars (cntGs p.decls[k].sigs (cntFs p.decls[k].flds (cntFs p.decls[k].fms (c + 1 + p.decls[k].name.length / 50 + p.decls[k].recv.length / 50)))) = cntVs (p.decls[k].vars.drop i) w ∧ j = p.decls[k].vars.length - i ∧ s = { n := 94, tm := [(1, .lp 1 0), (3, .v (.int .i64 (w : Nat)) none), (4, .v (.int .i64 k) none), (5, .lp 5 0), (7, .v (.int .i64 i) none)], bx := [(1, encPg p), (5, encD p.decls[k])], tb := [], sh := [], hint := [] }) (p.decls[k].vars.length) (by first | rfl | simp) ?_ ?_
 exact ⟨0, e, by omega, by rw [hG]; rfl, by omega, by simp [encD, encPg]⟩
 rintro j s ⟨i, w, hi, hw, rfl, rfl⟩ K14 hK14
 refine AT_seq_k fun K15 hK15 => ?_
 by_cases hmv : i < p.decls[k].vars.length
 refine sr fun Z z => ?_
 simp [row_map, tdiv50, encPg, encD, hkt, hms, hmv]
 repeat refine sg ?_
 refine z _ ?_
 clear z Z
 refine AT_cond (g := none) rfl (fun hb71 => ?_) (fun hb71 => ?_)
 try simp [row_map, tdiv50, encPg, hkt, hms, hmv] at hb71
 refine AT_skip ?_
 try simp only [nrm, reduceIte, Nat.reduceEqDiff]
 refine hK15 _ ?_
 refine AT_seq_k fun K16 hK16 => ?_
 refine AT_block ?_
 refine AT_region_q fun Z z => ?_
 have q6k := q6 p.decls[k].vars[i] (by simp)
 simp [row_map, tdiv50, encPg, encD, encS, hkt, hms, hmv]
 repeat refine sg ?_
 refine z _ ?_
 clear z Z
 try simp only [nrm, reduceIte, Nat.reduceEqDiff]
 refine hK16 _ ?_
 refine AT_region_q fun Z z => ?_
 simp [row_map, tdiv50, encPg, hkt, hms, hmv]
 repeat refine sg ?_
 refine z _ ?_
 clear z Z
 try simp only [nrm, reduceIte, Nat.reduceEqDiff]
 refine hK14 _ (by first | rfl | simp) (p.decls[k].vars.length - (i+1)) (by omega) ?_
 refine ⟨i+1, w + 1 + p.decls[k].vars[i].length / 50, by omega, ?_, by omega, by simp [encD, encPg]⟩
 rw [hw, List.drop_eq_getElem_cons hmv, cntVs_cons, if_pos (by omega)]
 try simp [row_map, tdiv50, encPg, hkt, hms, hmv] at hb71
 refine AT_exit ?_
 try simp only [nrm, reduceIte, Nat.reduceEqDiff]
 refine hK13 _ ?_
 refine sr fun Z z => ?_
 have hV : cntVs p.decls[k].vars (cntGs p.decls[k].sigs (cntFs p.decls[k].flds (cntFs p.decls[k].fms (c + 1 + p.decls[k].name.length / 50 + p.decls[k].recv.length / 50)))) = w := by
   rw [hw]
   (rw [List.drop_eq_getElem_cons hmv, cntVs_cons, if_neg (by omega)])
 simp [row_map, tdiv50, encPg, hkt, hms, hmv]
 repeat refine sg ?_
 refine z _ ?_
 clear z Z
 refine AT_cond (g := none) rfl (fun hb85 => ?_) (fun hb85 => ?_)
 try simp [row_map, tdiv50, encPg, hkt, hms, hmv] at hb85
 refine AT_draw_q Pt.mixed (by kernel_rfl) fun Z z => ?_
 have u3 := cntG_ub q7 w
 simp [row_map, tdiv50, encPg, encD, hkt, hms, hmv, hb85]
 repeat refine sg ?_
 refine RVdn_call ((by have h := c_ref06x_countSig g rnd p.decls[k].sig q7 w (by omega); simp only [encG] at h; exact h)) ?_
 simp [row_map, tdiv50, encPg, encD, hkt, hms, hmv, hb85]
 repeat refine sg ?_
 refine RVdn_call ((by have h := c_ref05x_Count g rnd p.decls[k].body q8 (cntG p.decls[k].sig w) (by omega); simp only [encE_def] at h; exact h)) ?_
 simp [row_map, tdiv50, encPg, encD, hkt, hms, hmv, hb85]
 repeat refine sg ?_
 refine z _ ?_
 clear z Z
 try simp only [nrm, reduceIte, Nat.reduceEqDiff]
 refine hK4 _ ?_
 refine AT_region_q fun Z z => ?_
 simp [row_map, tdiv50, encPg, hkt, hms, hmv, hb85]
 repeat refine sg ?_
 refine z _ ?_
 clear z Z
 try simp only [nrm, reduceIte, Nat.reduceEqDiff]
 refine hK2 _ (by first | rfl | simp) (p.decls.length - (k+1)) (by omega) ?_
 first
| (· refine ⟨k+1, cntE p.decls[k].body (cntG p.decls[k].sig w), by omega, ?_, by omega, by simp [encPg]⟩
     rw [hc, List.drop_eq_getElem_cons hkt, cntDs_cons, if_pos (by omega), cntD, hV, if_pos (by omega)])
| (refine ⟨k+1, w, by omega, ?_, by omega, by simp [encPg]⟩
   rw [hc, List.drop_eq_getElem_cons hkt, cntDs_cons, if_pos (by omega), cntD, hV, if_neg (by omega)])
 try simp [row_map, tdiv50, encPg, hkt, hms, hmv] at hb85
 refine AT_skip ?_
 try simp only [nrm, reduceIte, Nat.reduceEqDiff]
 refine hK4 _ ?_
 refine AT_region_q fun Z z => ?_
 simp [row_map, tdiv50, encPg, hkt, hms, hmv, hb85]
 repeat refine sg ?_
 refine z _ ?_
 clear z Z
 try simp only [nrm, reduceIte, Nat.reduceEqDiff]
 refine hK2 _ (by first | rfl | simp) (p.decls.length - (k+1)) (by omega) ?_
 first
| (· refine ⟨k+1, cntE p.decls[k].body (cntG p.decls[k].sig w), by omega, ?_, by omega, by simp [encPg]⟩
     rw [hc, List.drop_eq_getElem_cons hkt, cntDs_cons, if_pos (by omega), cntD, hV, if_pos (by omega)])
| (refine ⟨k+1, w, by omega, ?_, by omega, by simp [encPg]⟩
   rw [hc, List.drop_eq_getElem_cons hkt, cntDs_cons, if_pos (by omega), cntD, hV, if_neg (by omega)])
 refine sr fun Z z => ?_
 simp [row_map, tdiv50, encPg, encD, hkt, hms, hmv]
 repeat refine sg ?_
 refine z _ ?_
 clear z Z
 refine AT_cond (b := false) (g := none) (by simp [hkt, hms, hmv]) (fun hb => ?_) (fun hb => ?_)
 cases hb
 clear hb
 refine AT_exit ?_
 try simp only [nrm, reduceIte, Nat.reduceEqDiff]
 refine hK13 _ ?_
 refine sr fun Z z => ?_
 have hV : cntVs p.decls[k].vars (cntGs p.decls[k].sigs (cntFs p.decls[k].flds (cntFs p.decls[k].fms (c + 1 + p.decls[k].name.length / 50 + p.decls[k].recv.length / 50)))) = w := by
   rw [hw]
   (rw [List.drop_eq_nil_of_le (by omega)]; rfl)
 simp [row_map, tdiv50, encPg, hkt, hms, hmv]
 repeat refine sg ?_
 refine z _ ?_
 clear z Z
 refine AT_cond (g := none) rfl (fun hb85 => ?_) (fun hb85 => ?_)
 try simp [row_map, tdiv50, encPg, hkt, hms, hmv] at hb85
 refine AT_draw_q Pt.mixed (by kernel_rfl) fun Z z => ?_
 have u3 := cntG_ub q7 w
 simp [row_map, tdiv50, encPg, encD, hkt, hms, hmv, hb85]
 repeat refine sg ?_
 refine RVdn_call ((by have h := c_ref06x_countSig g rnd p.decls[k].sig q7 w (by omega); simp only [encG] at h; exact h)) ?_
 simp [row_map, tdiv50, encPg, encD, hkt, hms, hmv, hb85]
 repeat refine sg ?_
 refine RVdn_call ((by have h := c_ref05x_Count g rnd p.decls[k].body q8 (cntG p.decls[k].sig w) (by omega); simp only [encE_def] at h; exact h)) ?_
 simp [row_map, tdiv50, encPg, encD, hkt, hms, hmv, hb85]
 repeat refine sg ?_
 refine z _ ?_
 clear z Z
 try simp only [nrm, reduceIte, Nat.reduceEqDiff]
 refine hK4 _ ?_
 refine AT_region_q fun Z z => ?_
 simp [row_map, tdiv50, encPg, hkt, hms, hmv, hb85]
 repeat refine sg ?_
 refine z _ ?_
 clear z Z
 try simp only [nrm, reduceIte, Nat.reduceEqDiff]
 refine hK2 _ (by first | rfl | simp) (p.decls.length - (k+1)) (by omega) ?_
 first
| (· refine ⟨k+1, cntE p.decls[k].body (cntG p.decls[k].sig w), by omega, ?_, by omega, by simp [encPg]⟩
     rw [hc, List.drop_eq_getElem_cons hkt, cntDs_cons, if_pos (by omega), cntD, hV, if_pos (by omega)])
| (refine ⟨k+1, w, by omega, ?_, by omega, by simp [encPg]⟩
   rw [hc, List.drop_eq_getElem_cons hkt, cntDs_cons, if_pos (by omega), cntD, hV, if_neg (by omega)])
 try simp [row_map, tdiv50, encPg, hkt, hms, hmv] at hb85
 refine AT_skip ?_
 try simp only [nrm, reduceIte, Nat.reduceEqDiff]
 refine hK4 _ ?_
 refine AT_region_q fun Z z => ?_
 simp [row_map, tdiv50, encPg, hkt, hms, hmv, hb85]
 repeat refine sg ?_
 refine z _ ?_
 clear z Z
 try simp only [nrm, reduceIte, Nat.reduceEqDiff]
 refine hK2 _ (by first | rfl | simp) (p.decls.length - (k+1)) (by omega) ?_
 first
| (· refine ⟨k+1, cntE p.decls[k].body (cntG p.decls[k].sig w), by omega, ?_, by omega, by simp [encPg]⟩
     rw [hc, List.drop_eq_getElem_cons hkt, cntDs_cons, if_pos (by omega), cntD, hV, if_pos (by omega)])
| (refine ⟨k+1, w, by omega, ?_, by omega, by simp [encPg]⟩
   rw [hc, List.drop_eq_getElem_cons hkt, cntDs_cons, if_pos (by omega), cntD, hV, if_neg (by omega)])
 try simp [row_map, tdiv50, encPg, hkt] at hb19
 refine AT_exit ?_
 try simp only [nrm, reduceIte, Nat.reduceEqDiff]
 refine hK1 _ ?_
 refine sr fun Z z => ?_
 simp [row_map, tdiv50, encPg, hkt]
 refine z _ ?_
 clear z Z
 refine AT_ret ?_
 simp [row_map, tdiv50, encPg, Tryz.f27]
 (rw [hc, List.drop_eq_getElem_cons hkt, cntDs_cons, if_neg (by omega)])
 refine sr fun Z z => ?_
 simp [row_map, tdiv50, encPg, hkt]
 repeat refine sg ?_
 refine z _ ?_
 clear z Z
 refine AT_cond (b := false) (g := none) (by simp [hkt]) (fun hb => ?_) (fun hb => ?_)
 cases hb
 clear hb
 refine AT_exit ?_
 try simp only [nrm, reduceIte, Nat.reduceEqDiff]
 refine hK1 _ ?_
 refine sr fun Z z => ?_
 simp [row_map, tdiv50, encPg, hkt]
 refine z _ ?_
 clear z Z
 refine AT_ret ?_
 simp [row_map, tdiv50, encPg, Tryz.f27]
 (rw [hc, List.drop_eq_nil_of_le (by omega)]; rfl)

theorem c_ref06x_Few (p : Pg) (hf : fitPg p) : Valid Tryz.prog (G0 g rnd) 8 [.agg (encPg p)] (.bool (decide (cntPg p ≤ 600))) := by

 refine valid_of [] Tryz.func8 rfl (by kernel_rfl) ?_
 refine sr fun Z z => ?_
 simp [Tryz.f8]
 refine z _ ?_
 clear z Z
 refine sr fun Z z => ?_
 simp
 repeat refine sg ?_
 refine RVn_call (c_ref06x_Count g rnd p hf) ?_
 simp
 repeat refine sg ?_
 refine z _ ?_
 clear z Z
 refine AT_ret ?_
 simp [Tryz.f8]
 omega

end Go.Proofs.YtdifpfehijnmiaaGreatDoor
end

section
/- The law: declarations are compared and right as in the reference. -/
set_option linter.all false
set_option maxHeartbeats 1000000
set_option maxRecDepth 10000
namespace Go.Proofs.YtdifpfehijnmiaaGreatDoor
open Go Go.Pv
variable (g : Nat → Option (List AV)) (rnd : Bool)

theorem c_law06x_DeclParts (a b : Dc) (ha : fitD a) (hb : fitD b) (hres : g 0 = some reservedA) : Valid Tryz.prog (G0 g rnd) 3 [.agg (encD a), .agg (encD b)] (.bool true) := by

 refine valid_of [] Tryz.func3 rfl (by kernel_rfl) ?_
 refine sr fun Z z => ?_
 simp [row_map, Tryz.f3]
 refine z _ ?_
 clear z Z
 refine AT_seq_k fun K1 hK1 => ?_
 by_cases hca : cntPg ⟨[a], (.mk 0 [] (.mk [] [] 0) [] [] 0)⟩ ≤ 600
 have hwa := fewD_wt hca
 by_cases hcb : cntPg ⟨[b], (.mk 0 [] (.mk [] [] 0) [] [] 0)⟩ ≤ 600
 have hwb := fewD_wt hcb
 refine sr fun Z z => ?_
 simp [row_map, hca, hcb]
 repeat refine sg ?_
 try (
  refine RVn_call (c_law06x_awake g rnd hres) ?_
  simp [row_map, hca, hcb]
  repeat refine sg ?_)
 try (
  refine RVn_call ((by have h := c_ref06x_Few g rnd ⟨[a], ex0⟩ (fitPg1 ha); simp only [encPg, ex0, ty0, List.map_cons, List.map_nil, Ty.name, Ty.args, Ty.pos, Exp.kind, Exp.name, Exp.ty, Exp.ta, Exp.kids, Exp.pos] at h ⊢; exact h)) ?_
  simp [row_map, hca, hcb]
  repeat refine sg ?_)
 try (
  refine RVn_call ((by have h := c_ref06x_Few g rnd ⟨[b], ex0⟩ (fitPg1 hb); simp only [encPg, ex0, ty0, List.map_cons, List.map_nil, Ty.name, Ty.args, Ty.pos, Exp.kind, Exp.name, Exp.ty, Exp.ta, Exp.kids, Exp.pos] at h ⊢; exact h)) ?_
  simp [row_map, hca, hcb]
  repeat refine sg ?_)
 refine z _ ?_
 clear z Z
 refine AT_cond (b := false) (g := none) (by simp [hca, hcb]) (fun hb => ?_) (fun hb => ?_)
 cases hb
 clear hb
 refine AT_skip ?_
 try simp only [nrm, reduceIte, Nat.reduceEqDiff]
 refine hK1 _ ?_
 refine AT_seq_draw Pt.mixed (by kernel_rfl) fun Z z => ?_
 have hwg : wtG a.sig ≤ wtD a := wtD_sig a
 simp [row_map, encD, hca, hcb]
 repeat refine sg ?_
 try (
  refine RVdn_call ((by have h := c_decl_RightDecl g rnd a (by omega) hres; simp only [encD] at h; exact h)) ?_
  simp [row_map, encD, hca, hcb]
  repeat refine sg ?_)
 try (
  refine RVdn_call ((by have h := c_ref06x_RightDecl g rnd a (by omega); simp only [encD] at h; exact h)) ?_
  simp [row_map, encD, hca, hcb]
  repeat refine sg ?_)
 try (
  refine RVdn_call ((by have h := c_decl_SameDecl g rnd a b (by omega); simp only [encD] at h; exact h)) ?_
  simp [row_map, encD, hca, hcb]
  repeat refine sg ?_)
 try (
  refine RVdn_call ((by have h := c_ref06x_Decl g rnd a b (by omega); simp only [encD] at h; exact h)) ?_
  simp [row_map, encD, hca, hcb]
  repeat refine sg ?_)
 try (
  refine RVdn_call ((by have h := c_decl_SameSig g rnd a.sig b.sig (by omega); simp only [encG] at h; exact h)) ?_
  simp [row_map, encD, hca, hcb]
  repeat refine sg ?_)
 try (
  refine RVdn_call ((by have h := c_ref06x_Sig g rnd a.sig b.sig (by omega); simp only [encG] at h; exact h)) ?_
  simp [row_map, encD, hca, hcb]
  repeat refine sg ?_)
 refine z _ ?_
 clear z Z
 refine AT_ret ?_
 simp [row_map, Tryz.f3]
 skip
 refine sr fun Z z => ?_
 simp [row_map, hca, hcb]
 repeat refine sg ?_
 try (
  refine RVn_call (c_law06x_awake g rnd hres) ?_
  simp [row_map, hca, hcb]
  repeat refine sg ?_)
 try (
  refine RVn_call ((by have h := c_ref06x_Few g rnd ⟨[a], ex0⟩ (fitPg1 ha); simp only [encPg, ex0, ty0, List.map_cons, List.map_nil, Ty.name, Ty.args, Ty.pos, Exp.kind, Exp.name, Exp.ty, Exp.ta, Exp.kids, Exp.pos] at h ⊢; exact h)) ?_
  simp [row_map, hca, hcb]
  repeat refine sg ?_)
 try (
  refine RVn_call ((by have h := c_ref06x_Few g rnd ⟨[b], ex0⟩ (fitPg1 hb); simp only [encPg, ex0, ty0, List.map_cons, List.map_nil, Ty.name, Ty.args, Ty.pos, Exp.kind, Exp.name, Exp.ty, Exp.ta, Exp.kids, Exp.pos] at h ⊢; exact h)) ?_
  simp [row_map, hca, hcb]
  repeat refine sg ?_)
 refine z _ ?_
 clear z Z
 refine AT_cond (b := true) (g := none) (by simp [hca, hcb]) (fun hb => ?_) (fun hb => ?_)
 clear hb
 refine sr fun Z z => ?_
 simp [row_map, hca, hcb]
 repeat refine sg ?_
 refine RVn_call (c_law06x_awake g rnd hres) ?_
 simp [row_map, hca, hcb]
 repeat refine sg ?_
 refine z _ ?_
 clear z Z
 refine AT_ret ?_
 simp [row_map, Tryz.f3]
 skip
 cases hb
 refine sr fun Z z => ?_
 simp [row_map, hca]
 repeat refine sg ?_
 try (
  refine RVn_call (c_law06x_awake g rnd hres) ?_
  simp [row_map, hca]
  repeat refine sg ?_)
 try (
  refine RVn_call ((by have h := c_ref06x_Few g rnd ⟨[a], ex0⟩ (fitPg1 ha); simp only [encPg, ex0, ty0, List.map_cons, List.map_nil, Ty.name, Ty.args, Ty.pos, Exp.kind, Exp.name, Exp.ty, Exp.ta, Exp.kids, Exp.pos] at h ⊢; exact h)) ?_
  simp [row_map, hca]
  repeat refine sg ?_)
 try (
  refine RVn_call ((by have h := c_ref06x_Few g rnd ⟨[b], ex0⟩ (fitPg1 hb); simp only [encPg, ex0, ty0, List.map_cons, List.map_nil, Ty.name, Ty.args, Ty.pos, Exp.kind, Exp.name, Exp.ty, Exp.ta, Exp.kids, Exp.pos] at h ⊢; exact h)) ?_
  simp [row_map, hca]
  repeat refine sg ?_)
 refine z _ ?_
 clear z Z
 refine AT_cond (b := true) (g := none) (by simp [hca]) (fun hb => ?_) (fun hb => ?_)
 clear hb
 refine sr fun Z z => ?_
 simp [row_map, hca]
 repeat refine sg ?_
 refine RVn_call (c_law06x_awake g rnd hres) ?_
 simp [row_map, hca]
 repeat refine sg ?_
 refine z _ ?_
 clear z Z
 refine AT_ret ?_
 simp [row_map, Tryz.f3]
 skip
 cases hb

end Go.Proofs.YtdifpfehijnmiaaGreatDoor
end

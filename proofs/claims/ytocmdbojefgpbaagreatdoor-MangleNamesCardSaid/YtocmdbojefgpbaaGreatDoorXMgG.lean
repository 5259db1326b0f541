import Derived.Test.YtocmdbojefgpbaaGreatDoorPt
import Derived.Test.YtocmdbojefgpbaaGreatDoorPvPb
import Derived.Test.YtocmdbojefgpbaaGreatDoorPvY
import Derived.Test.YtocmdbojefgpbaaGreatDoorPvDe
import Derived.Test.YtocmdbojefgpbaaGreatDoorXNaC
import Derived.Test.YtocmdbojefgpbaaGreatDoorXExA
import Derived.Test.YtocmdbojefgpbaaGreatDoorPvKh
import Derived.Test.YtocmdbojefgpbaaGreatDoorXDcN
import Derived.Test.YtocmdbojefgpbaaGreatDoorXMgF
import Derived.Test.YtocmdbojefgpbaaGreatDoorXNaL
section
/- Contracts: counting declarations. -/
set_option linter.all false
set_option maxHeartbeats 1000000
set_option maxRecDepth 10000
namespace Go.Proofs.YtocmdbojefgpbaaGreatDoor
open Go Go.Pv
variable (g : Nat → Option (List AV)) (rnd : Bool)

theorem c_ref06x_countFormals (l : List Fm) (hf : fitFs l) (n : Nat) (hn : n ≤ 100000000000000) : Valid Tryz.prog (G0 g rnd) 82 [.slice (l.map encF), .int .i64 n] (.int .i64 (cntFs l n)) := by
 obtain ⟨hf1, hf2⟩ := hf
 refine valid_of [] Tryz.func82 rfl (by kernel_rfl) ?_
 refine sr fun Z z => ?_
 simp [row_map, tdiv50, encF, Tryz.f82]
 refine z _ ?_
 clear z Z
 refine AT_seq_k fun K1 hK1 => ?_
 refine sr fun Z z => ?_
 simp [row_map, tdiv50, encF]
 refine z _ ?_
 clear z Z
 refine AT_block ?_
 refine AT_loop_q [0,1,5] [] (fun j s => ∃ k c, k ≤ l.length ∧ cntFs l n = cntFs (l.drop k) c ∧ j = l.length - k ∧ s = { n := 33, tm := [(0, .v (.slice (l.map encF)) none), (1, .v (.int .i64 (c : Nat)) none), (5, .v (.int .i64 k) none)], bx := [], tb := [], sh := [], hint := [] }) (l.length) (by first | rfl | simp) ?_ ?_
 exact ⟨0, n, by simp⟩
 rintro j s ⟨k, c, hk, hc, rfl, rfl⟩ K2 hK2
 refine AT_seq_k fun K3 hK3 => ?_
 by_cases hkt : k < l.length
 refine sr fun Z z => ?_
 simp [row_map, tdiv50, encF, hkt]
 repeat refine sg ?_
 refine z _ ?_
 clear z Z
 refine AT_cond (g := none) rfl (fun hb13 => ?_) (fun hb13 => ?_)
 try simp [row_map, tdiv50, encF, hkt] at hb13
 refine AT_skip ?_
 try simp only [nrm, reduceIte, Nat.reduceEqDiff]
 refine hK3 _ ?_
 refine AT_seq_k fun K4 hK4 => ?_
 refine AT_block ?_
 refine AT_draw_q Pt.mixed (by kernel_rfl) fun Z z => ?_
 have hfk := hf2 l[k] (by simp)
 have hfn := hfk.1
 simp [row_map, tdiv50, encF, hkt]
 repeat refine sg ?_
 refine RVdn_call ((by have h := c_ref04x_Count g rnd l[k].ty hfk.2 (c + 1 + l[k].name.length / 50) (by omega); simp only [encTy_def] at h; exact h)) ?_
 simp [row_map, tdiv50, encF, hkt]
 repeat refine sg ?_
 refine z _ ?_
 clear z Z
 try simp only [nrm, reduceIte, Nat.reduceEqDiff]
 refine hK4 _ ?_
 refine AT_region_q fun Z z => ?_
 simp [row_map, tdiv50, encF, hkt]
 repeat refine sg ?_
 refine z _ ?_
 clear z Z
 try simp only [nrm, reduceIte, Nat.reduceEqDiff]
 refine hK2 _ (by first | rfl | simp) (l.length - (k+1)) (by omega) ?_
 refine ⟨k+1, cnt l[k].ty (c + 1 + l[k].name.length / 50), by omega, ?_, by omega, by simp⟩
 rw [hc, List.drop_eq_getElem_cons hkt, cntFs_cons, if_pos (by omega)]
 try simp [row_map, tdiv50, encF, hkt] at hb13
 refine AT_exit ?_
 try simp only [nrm, reduceIte, Nat.reduceEqDiff]
 refine hK1 _ ?_
 refine sr fun Z z => ?_
 simp [row_map, tdiv50, encF, hkt]
 refine z _ ?_
 clear z Z
 refine AT_ret ?_
 simp [row_map, tdiv50, encF, Tryz.f82]
 first
 | (rw [hc, List.drop_eq_getElem_cons hkt, cntFs_cons, if_neg (by omega)])
 | (rw [hc, List.drop_eq_nil_of_le (by omega)]; rfl)
 refine sr fun Z z => ?_
 simp [row_map, tdiv50, encF, hkt]
 repeat refine sg ?_
 refine z _ ?_
 clear z Z
 refine cF (by simp [hkt]) ?_
 refine AT_exit ?_
 try simp only [nrm, reduceIte, Nat.reduceEqDiff]
 refine hK1 _ ?_
 refine sr fun Z z => ?_
 simp [row_map, tdiv50, encF, hkt]
 refine z _ ?_
 clear z Z
 refine AT_ret ?_
 simp [row_map, tdiv50, encF, Tryz.f82]
 first
 | (rw [hc, List.drop_eq_getElem_cons hkt, cntFs_cons, if_neg (by omega)])
 | (rw [hc, List.drop_eq_nil_of_le (by omega)]; rfl)

theorem c_ref06x_countParams (l : List Fm) (hf : fitFs l) (n : Nat) (hn : n ≤ 100000000000000) : Valid Tryz.prog (G0 g rnd) 81 [.slice (l.map encF), .int .i64 n] (.int .i64 (cntFs l n)) := by
 obtain ⟨hf1, hf2⟩ := hf
 refine valid_of [] Tryz.func81 rfl (by kernel_rfl) ?_
 refine sr fun Z z => ?_
 simp [row_map, tdiv50, encF, Tryz.f81]
 refine z _ ?_
 clear z Z
 refine AT_seq_k fun K1 hK1 => ?_
 refine sr fun Z z => ?_
 simp [row_map, tdiv50, encF]
 refine z _ ?_
 clear z Z
 refine AT_block ?_
 refine AT_loop_q [0,1,5] [] (fun j s => ∃ k c, k ≤ l.length ∧ cntFs l n = cntFs (l.drop k) c ∧ j = l.length - k ∧ s = { n := 33, tm := [(0, .v (.slice (l.map encF)) none), (1, .v (.int .i64 (c : Nat)) none), (5, .v (.int .i64 k) none)], bx := [], tb := [], sh := [], hint := [] }) (l.length) (by first | rfl | simp) ?_ ?_
 exact ⟨0, n, by simp⟩
 rintro j s ⟨k, c, hk, hc, rfl, rfl⟩ K2 hK2
 refine AT_seq_k fun K3 hK3 => ?_
 by_cases hkt : k < l.length
 refine sr fun Z z => ?_
 simp [row_map, tdiv50, encF, hkt]
 repeat refine sg ?_
 refine z _ ?_
 clear z Z
 refine AT_cond (g := none) rfl (fun hb13 => ?_) (fun hb13 => ?_)
 try simp [row_map, tdiv50, encF, hkt] at hb13
 refine AT_skip ?_
 try simp only [nrm, reduceIte, Nat.reduceEqDiff]
 refine hK3 _ ?_
 refine AT_seq_k fun K4 hK4 => ?_
 refine AT_block ?_
 refine AT_draw_q Pt.mixed (by kernel_rfl) fun Z z => ?_
 have hfk := hf2 l[k] (by simp)
 have hfn := hfk.1
 simp [row_map, tdiv50, encF, hkt]
 repeat refine sg ?_
 refine RVdn_call ((by have h := c_ref04x_Count g rnd l[k].ty hfk.2 (c + 1 + l[k].name.length / 50) (by omega); simp only [encTy_def] at h; exact h)) ?_
 simp [row_map, tdiv50, encF, hkt]
 repeat refine sg ?_
 refine z _ ?_
 clear z Z
 try simp only [nrm, reduceIte, Nat.reduceEqDiff]
 refine hK4 _ ?_
 refine AT_region_q fun Z z => ?_
 simp [row_map, tdiv50, encF, hkt]
 repeat refine sg ?_
 refine z _ ?_
 clear z Z
 try simp only [nrm, reduceIte, Nat.reduceEqDiff]
 refine hK2 _ (by first | rfl | simp) (l.length - (k+1)) (by omega) ?_
 refine ⟨k+1, cnt l[k].ty (c + 1 + l[k].name.length / 50), by omega, ?_, by omega, by simp⟩
 rw [hc, List.drop_eq_getElem_cons hkt, cntFs_cons, if_pos (by omega)]
 try simp [row_map, tdiv50, encF, hkt] at hb13
 refine AT_exit ?_
 try simp only [nrm, reduceIte, Nat.reduceEqDiff]
 refine hK1 _ ?_
 refine sr fun Z z => ?_
 simp [row_map, tdiv50, encF, hkt]
 refine z _ ?_
 clear z Z
 refine AT_ret ?_
 simp [row_map, tdiv50, encF, Tryz.f81]
 first
 | (rw [hc, List.drop_eq_getElem_cons hkt, cntFs_cons, if_neg (by omega)])
 | (rw [hc, List.drop_eq_nil_of_le (by omega)]; rfl)
 refine sr fun Z z => ?_
 simp [row_map, tdiv50, encF, hkt]
 repeat refine sg ?_
 refine z _ ?_
 clear z Z
 refine cF (by simp [hkt]) ?_
 refine AT_exit ?_
 try simp only [nrm, reduceIte, Nat.reduceEqDiff]
 refine hK1 _ ?_
 refine sr fun Z z => ?_
 simp [row_map, tdiv50, encF, hkt]
 refine z _ ?_
 clear z Z
 refine AT_ret ?_
 simp [row_map, tdiv50, encF, Tryz.f81]
 first
 | (rw [hc, List.drop_eq_getElem_cons hkt, cntFs_cons, if_neg (by omega)])
 | (rw [hc, List.drop_eq_nil_of_le (by omega)]; rfl)

theorem c_ref06x_countSig (s : Sg) (hf : fitG s) (n : Nat) (hn : n ≤ 10000000000000) : Valid Tryz.prog (G0 g rnd) 83 [.agg (encG s), .int .i64 n] (.int .i64 (cntG s n)) := by
 obtain ⟨hf1, hf2, hf3, hf4⟩ := hf
 have e1 := cntFs_ub hf2.2 (n + s.name.length / 50)
 have e2 := cntFs_ub hf3.2 (cntFs s.fms (n + s.name.length / 50))
 refine valid_of [] Tryz.func83 rfl (by kernel_rfl) ?_
 refine sr fun Z z => ?_
 simp [tdiv50, encG, Tryz.f83]
 refine z _ ?_
 clear z Z
 refine AT_seq_draw Pt.mixed (by kernel_rfl) fun Z z => ?_
 simp [tdiv50, encG]
 repeat refine sg ?_
 refine RVdn_call (c_ref06x_countFormals g rnd s.fms hf2 (n + s.name.length / 50) (by omega)) ?_
 simp [tdiv50, encG]
 repeat refine sg ?_
 refine RVdn_call (c_ref06x_countParams g rnd s.pms hf3 (cntFs s.fms (n + s.name.length / 50)) (by omega)) ?_
 simp [tdiv50, encG]
 repeat refine sg ?_
 refine RVdn_call ((by have h := c_ref04x_Count g rnd s.res hf4 (cntFs s.pms (cntFs s.fms (n + s.name.length / 50))) (by omega); simp only [encTy_def] at h; exact h)) ?_
 simp [tdiv50, encG]
 repeat refine sg ?_
 refine z _ ?_
 clear z Z
 refine AT_ret ?_
 simp [tdiv50, encG, Tryz.f83]
 rw [cntG]

theorem c_ref06x_Count (p : Pg) (hf : fitPg p) : Valid Tryz.prog (G0 g rnd) 61 [.agg (encPg p)] (.int .i64 (cntPg p)) := by
 obtain ⟨⟨hf1, hf2⟩, hf3⟩ := hf
 refine valid_of [] Tryz.func61 rfl (by kernel_rfl) ?_
 refine sr fun Z z => ?_
 simp [row_map, tdiv50, encPg, Tryz.f61]
 refine z _ ?_
 clear z Z
 refine sr fun Z z => ?_
 simp [row_map, tdiv50, encPg]
 repeat refine sg ?_
 refine RVn_call ((by have h := c_ref05x_Count g rnd p.main hf3 0 (by omega); simp only [encE_def] at h; exact h)) ?_
 simp [row_map, tdiv50, encPg]
 repeat refine sg ?_
 refine z _ ?_
 clear z Z
 refine AT_seq_k fun K1 hK1 => ?_
 refine sr fun Z z => ?_
 simp [row_map, tdiv50, encPg]
 refine z _ ?_
 clear z Z
 refine AT_block ?_
 refine AT_loop_q [1,3,4] [1] (fun j s => ∃ k c, k ≤ p.decls.length ∧ cntPg p = cntDs (p.decls.drop k) c ∧ j = p.decls.length - k ∧ s = { n := 94, tm := [(1, .lp 1 0), (3, .v (.int .i64 (c : Nat)) none), (4, .v (.int .i64 k) none)], bx := [(1, encPg p)], tb := [], sh := [], hint := [] }) (p.decls.length) (by first | rfl | simp) ?_ ?_
 exact ⟨0, cntE p.main 0, by simp [encPg, cntPg]⟩
 rintro j s ⟨k, c, hk, hc, rfl, rfl⟩ K2 hK2
 refine AT_seq_k fun K3 hK3 => ?_
 by_cases hkt : k < p.decls.length
 refine sr fun Z z => ?_
 simp [row_map, tdiv50, encPg, hkt]
 repeat refine sg ?_
 refine z _ ?_
 clear z Z
 refine AT_cond (g := none) rfl (fun hb19 => ?_) (fun hb19 => ?_)
 try simp [row_map, tdiv50, encPg, hkt] at hb19
 refine AT_skip ?_
 try simp only [nrm, reduceIte, Nat.reduceEqDiff]
 refine hK3 _ ?_
 refine AT_seq_k fun K4 hK4 => ?_
 refine AT_block ?_
 refine sr fun Z z => ?_
 obtain ⟨q1, ⟨q2a, q2⟩, ⟨q3a, q3⟩, ⟨q4a, q4⟩, q5, ⟨q6a, q6⟩, q7, q8⟩ := hf2 p.decls[k] (by simp)
 have u1 := cntFs_ub q2 (c + 1 + p.decls[k].name.length / 50 + p.decls[k].recv.length / 50)
 have u2 := cntFs_ub q3 (cntFs p.decls[k].fms (c + 1 + p.decls[k].name.length / 50 + p.decls[k].recv.length / 50))
 simp [row_map, tdiv50, encPg, encD, hkt]
 repeat refine sg ?_
 refine z _ ?_
 clear z Z
 refine AT_seq_draw Pt.mixed (by kernel_rfl) fun Z z => ?_
 simp [row_map, tdiv50, encPg, encD, hkt]
 repeat refine sg ?_
 refine RVdn_call (c_ref06x_countFormals g rnd p.decls[k].fms ⟨q2a, q2⟩ (c + 1 + p.decls[k].name.length / 50 + p.decls[k].recv.length / 50) (by omega)) ?_
 simp [row_map, tdiv50, encPg, encD, hkt]
 repeat refine sg ?_
 refine RVdn_call (c_ref06x_countParams g rnd p.decls[k].flds ⟨q3a, q3⟩ (cntFs p.decls[k].fms (c + 1 + p.decls[k].name.length / 50 + p.decls[k].recv.length / 50)) (by omega)) ?_
 simp [row_map, tdiv50, encPg, encD, hkt]
 repeat refine sg ?_
 refine z _ ?_
 clear z Z
 refine AT_seq_k fun K5 hK5 => ?_
 refine sr fun Z z => ?_
 simp [row_map, tdiv50, encPg, hkt]
 refine z _ ?_
 clear z Z
 refine AT_block ?_
 refine AT_loop_q [1,3,4,5,6] [1,5] (fun j s => ∃ m e, m ≤ p.decls[k].sigs.length ∧ cntGs p.decls[k].sigs (cntFs p.decls[k].flds (cntFs p.decls[k].fms (c + 1 + p.decls[k].name.length / 50 + p.decls[k].recv.length / 50))) = cntGs (p.decls[k].sigs.drop m) e ∧ j = p.decls[k].sigs.length - m ∧ s = { n := 94, tm := [(1, .lp 1 0), (3, .v (.int .i64 (e : Nat)) none), (4, .v (.int .i64 k) none), (5, .lp 5 0), (6, .v (.int .i64 m) none)], bx := [(1, encPg p), (5, encD p.decls[k])], tb := [], sh := [], hint := [] }) (p.decls[k].sigs.length) (by first | rfl | simp) ?_ ?_
 exact ⟨0, cntFs p.decls[k].flds (cntFs p.decls[k].fms (c + 1 + p.decls[k].name.length / 50 + p.decls[k].recv.length / 50)), by simp [encD, encPg]⟩
 rintro j s ⟨m, e, hm, he, rfl, rfl⟩ K6 hK6
 refine AT_seq_k fun K7 hK7 => ?_
 by_cases hms : m < p.decls[k].sigs.length
 refine sr fun Z z => ?_
 simp [row_map, tdiv50, encPg, encD, hkt, hms]
 repeat refine sg ?_
 refine z _ ?_
 clear z Z
 refine AT_cond (g := none) rfl (fun hb53 => ?_) (fun hb53 => ?_)
 try simp [row_map, tdiv50, encPg, hkt, hms] at hb53
 refine AT_skip ?_
 try simp only [nrm, reduceIte, Nat.reduceEqDiff]
 refine hK7 _ ?_
 refine AT_seq_k fun K8 hK8 => ?_
 refine AT_block ?_
 refine AT_region_q fun Z z => ?_
 simp [row_map, tdiv50, encPg, encD, encG, hkt, hms]
 repeat refine sg ?_
 refine RVn_call ((by have h := c_ref06x_countSig g rnd p.decls[k].sigs[m] (q4 _ (by simp)) e (by omega); simp only [encG] at h; exact h)) ?_
 simp [row_map, tdiv50, encPg, encD, encG, hkt, hms]
 repeat refine sg ?_
 refine z _ ?_
 clear z Z
 try simp only [nrm, reduceIte, Nat.reduceEqDiff]
 refine hK8 _ ?_
 refine AT_region_q fun Z z => ?_
 simp [row_map, tdiv50, encPg, hkt, hms]
 repeat refine sg ?_
 refine z _ ?_
 clear z Z
 try simp only [nrm, reduceIte, Nat.reduceEqDiff]
 refine hK6 _ (by first | rfl | simp) (p.decls[k].sigs.length - (m+1)) (by omega) ?_
 refine ⟨m+1, cntG p.decls[k].sigs[m] e, by omega, ?_, by omega, by simp [encD, encPg]⟩
 rw [he, List.drop_eq_getElem_cons hms, cntGs_cons, if_pos (by omega)]
 try simp [row_map, tdiv50, encPg, hkt, hms] at hb53
 refine AT_exit ?_
 try simp only [nrm, reduceIte, Nat.reduceEqDiff]
 refine hK5 _ ?_
 refine AT_seq_k fun K9 hK9 => ?_
 refine sr fun Z z => ?_
 have hG : cntGs p.decls[k].sigs (cntFs p.decls[k].flds (cntFs p.decls[k].fms (c + 1 + p.decls[k].name.length / 50 + p.decls[k].recv.length / 50))) = e := by
   rw [he]
   first
   | (rw [List.drop_eq_getElem_cons hms, cntGs_cons, if_neg (by omega)])
   | (rw [List.drop_eq_nil_of_le (by omega)]; rfl)
 simp [row_map, tdiv50, encPg, hkt, hms]
 refine z _ ?_
 clear z Z
 refine AT_block ?_
 refine AT_loop_q [1,3,4,5,7] [1,5] (fun j s => ∃ i w, i ≤ p.decls[k].vars.length ∧ cntVs p.decls[k].vars (cntGs p.decls[k].sigs (cntFs p.decls[k].flds (cntFs p.decls[k].fms (c + 1 + p.decls[k].name.length / 50 + p.decls[k].recv.length / 50)))) = cntVs (p.decls[k].vars.drop i) w ∧ j = p.decls[k].vars.length - i ∧ s = { n := 94, tm := [(1, .lp 1 0), (3, .v (.int .i64 (w : Nat)) none), (4, .v (.int .i64 k) none), (5, .lp 5 0), (7, .v (.int .i64 i) none)], bx := [(1, encPg p), (5, encD p.decls[k])], tb := [], sh := [], hint := [] }) (p.decls[k].vars.length) (by first | rfl | simp) ?_ ?_
 exact ⟨0, e, by omega, by rw [hG]; rfl, by omega, by simp [encD, encPg]⟩
 rintro j s ⟨i, w, hi, hw, rfl, rfl⟩ K10 hK10
 refine AT_seq_k fun K11 hK11 => ?_
 by_cases hmv : i < p.decls[k].vars.length
 refine sr fun Z z => ?_
 simp [row_map, tdiv50, encPg, encD, hkt, hms, hmv]
 repeat refine sg ?_
 refine z _ ?_
 clear z Z
 refine AT_cond (g := none) rfl (fun hb71 => ?_) (fun hb71 => ?_)
 try simp [row_map, tdiv50, encPg, hkt, hms, hmv] at hb71
 refine AT_skip ?_
 try simp only [nrm, reduceIte, Nat.reduceEqDiff]
 refine hK11 _ ?_
 refine AT_seq_k fun K12 hK12 => ?_
 refine AT_block ?_
 refine AT_region_q fun Z z => ?_
 have q6k := q6 p.decls[k].vars[i] (by simp)
 simp [row_map, tdiv50, encPg, encD, encS, hkt, hms, hmv]
 repeat refine sg ?_
 refine z _ ?_
 clear z Z
 try simp only [nrm, reduceIte, Nat.reduceEqDiff]
 refine hK12 _ ?_
 refine AT_region_q fun Z z => ?_
 simp [row_map, tdiv50, encPg, hkt, hms, hmv]
 repeat refine sg ?_
 refine z _ ?_
 clear z Z
 try simp only [nrm, reduceIte, Nat.reduceEqDiff]
 refine hK10 _ (by first | rfl | simp) (p.decls[k].vars.length - (i+1)) (by omega) ?_
 refine ⟨i+1, w + 1 + p.decls[k].vars[i].length / 50, by omega, ?_, by omega, by simp [encD, encPg]⟩
 rw [hw, List.drop_eq_getElem_cons hmv, cntVs_cons, if_pos (by omega)]
 try simp [row_map, tdiv50, encPg, hkt, hms, hmv] at hb71
 refine AT_exit ?_
 try simp only [nrm, reduceIte, Nat.reduceEqDiff]
 refine hK9 _ ?_
 refine sr fun Z z => ?_
 have hV : cntVs p.decls[k].vars (cntGs p.decls[k].sigs (cntFs p.decls[k].flds (cntFs p.decls[k].fms (c + 1 + p.decls[k].name.length / 50 + p.decls[k].recv.length / 50)))) = w := by
   rw [hw]
   first
   | (rw [List.drop_eq_getElem_cons hmv, cntVs_cons, if_neg (by omega)])
   | (rw [List.drop_eq_nil_of_le (by omega)]; rfl)
 simp [row_map, tdiv50, encPg, hkt, hms, hmv]
 repeat refine sg ?_
 refine z _ ?_
 clear z Z
 refine AT_cond (g := none) rfl (fun hb85 => ?_) (fun hb85 => ?_)
 try simp [row_map, tdiv50, encPg, hkt, hms, hmv] at hb85
 refine AT_draw_q Pt.mixed (by kernel_rfl) fun Z z => ?_
 have u3 := cntG_ub q7 w
 simp [row_map, tdiv50, encPg, encD, hkt, hms, hmv, hb85]
 repeat refine sg ?_
 refine RVdn_call ((by have h := c_ref06x_countSig g rnd p.decls[k].sig q7 w (by omega); simp only [encG] at h; exact h)) ?_
 simp [row_map, tdiv50, encPg, encD, hkt, hms, hmv, hb85]
 repeat refine sg ?_
 refine RVdn_call ((by have h := c_ref05x_Count g rnd p.decls[k].body q8 (cntG p.decls[k].sig w) (by omega); simp only [encE_def] at h; exact h)) ?_
 simp [row_map, tdiv50, encPg, encD, hkt, hms, hmv, hb85]
 repeat refine sg ?_
 refine z _ ?_
 clear z Z
 try simp only [nrm, reduceIte, Nat.reduceEqDiff]
 refine hK4 _ ?_
 refine AT_region_q fun Z z => ?_
 simp [row_map, tdiv50, encPg, hkt, hms, hmv, hb85]
 repeat refine sg ?_
 refine z _ ?_
 clear z Z
 try simp only [nrm, reduceIte, Nat.reduceEqDiff]
 refine hK2 _ (by first | rfl | simp) (p.decls.length - (k+1)) (by omega) ?_
 first
 | (· refine ⟨k+1, cntE p.decls[k].body (cntG p.decls[k].sig w), by omega, ?_, by omega, by simp [encPg]⟩
      rw [hc, List.drop_eq_getElem_cons hkt, cntDs_cons, if_pos (by omega), cntD, hV, if_pos (by omega)])
 | (refine ⟨k+1, w, by omega, ?_, by omega, by simp [encPg]⟩
    rw [hc, List.drop_eq_getElem_cons hkt, cntDs_cons, if_pos (by omega), cntD, hV, if_neg (by omega)])
 try simp [row_map, tdiv50, encPg, hkt, hms, hmv] at hb85
 refine AT_skip ?_
 try simp only [nrm, reduceIte, Nat.reduceEqDiff]
 refine hK4 _ ?_
 refine AT_region_q fun Z z => ?_
 simp [row_map, tdiv50, encPg, hkt, hms, hmv, hb85]
 repeat refine sg ?_
 refine z _ ?_
 clear z Z
 try simp only [nrm, reduceIte, Nat.reduceEqDiff]
 refine hK2 _ (by first | rfl | simp) (p.decls.length - (k+1)) (by omega) ?_
 first
 | (· refine ⟨k+1, cntE p.decls[k].body (cntG p.decls[k].sig w), by omega, ?_, by omega, by simp [encPg]⟩
      rw [hc, List.drop_eq_getElem_cons hkt, cntDs_cons, if_pos (by omega), cntD, hV, if_pos (by omega)])
 | (refine ⟨k+1, w, by omega, ?_, by omega, by simp [encPg]⟩
    rw [hc, List.drop_eq_getElem_cons hkt, cntDs_cons, if_pos (by omega), cntD, hV, if_neg (by omega)])
 refine sr fun Z z => ?_
 simp [row_map, tdiv50, encPg, encD, hkt, hms, hmv]
 repeat refine sg ?_
 refine z _ ?_
 clear z Z
 refine cF (by simp [hkt, hms, hmv]) ?_
 refine AT_exit ?_
 try simp only [nrm, reduceIte, Nat.reduceEqDiff]
 refine hK9 _ ?_
 refine sr fun Z z => ?_
 have hV : cntVs p.decls[k].vars (cntGs p.decls[k].sigs (cntFs p.decls[k].flds (cntFs p.decls[k].fms (c + 1 + p.decls[k].name.length / 50 + p.decls[k].recv.length / 50)))) = w := by
   rw [hw]
   first
   | (rw [List.drop_eq_getElem_cons hmv, cntVs_cons, if_neg (by omega)])
   | (rw [List.drop_eq_nil_of_le (by omega)]; rfl)
 simp [row_map, tdiv50, encPg, hkt, hms, hmv]
 repeat refine sg ?_
 refine z _ ?_
 clear z Z
 refine AT_cond (g := none) rfl (fun hb85 => ?_) (fun hb85 => ?_)
 try simp [row_map, tdiv50, encPg, hkt, hms, hmv] at hb85
 refine AT_draw_q Pt.mixed (by kernel_rfl) fun Z z => ?_
 have u3 := cntG_ub q7 w
 simp [row_map, tdiv50, encPg, encD, hkt, hms, hmv, hb85]
 repeat refine sg ?_
 refine RVdn_call ((by have h := c_ref06x_countSig g rnd p.decls[k].sig q7 w (by omega); simp only [encG] at h; exact h)) ?_
 simp [row_map, tdiv50, encPg, encD, hkt, hms, hmv, hb85]
 repeat refine sg ?_
 refine RVdn_call ((by have h := c_ref05x_Count g rnd p.decls[k].body q8 (cntG p.decls[k].sig w) (by omega); simp only [encE_def] at h; exact h)) ?_
 simp [row_map, tdiv50, encPg, encD, hkt, hms, hmv, hb85]
 repeat refine sg ?_
 refine z _ ?_
 clear z Z
 try simp only [nrm, reduceIte, Nat.reduceEqDiff]
 refine hK4 _ ?_
 refine AT_region_q fun Z z => ?_
 simp [row_map, tdiv50, encPg, hkt, hms, hmv, hb85]
 repeat refine sg ?_
 refine z _ ?_
 clear z Z
 try simp only [nrm, reduceIte, Nat.reduceEqDiff]
 refine hK2 _ (by first | rfl | simp) (p.decls.length - (k+1)) (by omega) ?_
 first
 | (· refine ⟨k+1, cntE p.decls[k].body (cntG p.decls[k].sig w), by omega, ?_, by omega, by simp [encPg]⟩
      rw [hc, List.drop_eq_getElem_cons hkt, cntDs_cons, if_pos (by omega), cntD, hV, if_pos (by omega)])
 | (refine ⟨k+1, w, by omega, ?_, by omega, by simp [encPg]⟩
    rw [hc, List.drop_eq_getElem_cons hkt, cntDs_cons, if_pos (by omega), cntD, hV, if_neg (by omega)])
 try simp [row_map, tdiv50, encPg, hkt, hms, hmv] at hb85
 refine AT_skip ?_
 try simp only [nrm, reduceIte, Nat.reduceEqDiff]
 refine hK4 _ ?_
 refine AT_region_q fun Z z => ?_
 simp [row_map, tdiv50, encPg, hkt, hms, hmv, hb85]
 repeat refine sg ?_
 refine z _ ?_
 clear z Z
 try simp only [nrm, reduceIte, Nat.reduceEqDiff]
 refine hK2 _ (by first | rfl | simp) (p.decls.length - (k+1)) (by omega) ?_
 first
 | (· refine ⟨k+1, cntE p.decls[k].body (cntG p.decls[k].sig w), by omega, ?_, by omega, by simp [encPg]⟩
      rw [hc, List.drop_eq_getElem_cons hkt, cntDs_cons, if_pos (by omega), cntD, hV, if_pos (by omega)])
 | (refine ⟨k+1, w, by omega, ?_, by omega, by simp [encPg]⟩
    rw [hc, List.drop_eq_getElem_cons hkt, cntDs_cons, if_pos (by omega), cntD, hV, if_neg (by omega)])
 refine sr fun Z z => ?_
 simp [row_map, tdiv50, encPg, encD, hkt, hms]
 repeat refine sg ?_
 refine z _ ?_
 clear z Z
 refine cF (by simp [hkt, hms]) ?_
 refine AT_exit ?_
 try simp only [nrm, reduceIte, Nat.reduceEqDiff]
 refine hK5 _ ?_
 refine AT_seq_k fun K13 hK13 => ?_
 refine sr fun Z z => ?_
 have hG : cntGs p.decls[k].sigs (cntFs p.decls[k].flds (cntFs p.decls[k].fms (c + 1 + p.decls[k].name.length / 50 + p.decls[k].recv.length / 50))) = e := by
   rw [he]
   first
   | (rw [List.drop_eq_getElem_cons hms, cntGs_cons, if_neg (by omega)])
   | (rw [List.drop_eq_nil_of_le (by omega)]; rfl)
 simp [row_map, tdiv50, encPg, hkt, hms]
 refine z _ ?_
 clear z Z
 refine AT_block ?_
 refine AT_loop_q [1,3,4,5,7] [1,5] (fun j s => ∃ i w, i ≤ p.decls[k].vars.length ∧ cntVs p.decls[k].vars (cntGs p.decls[k].sigs (cntFs p.decls[k].flds (cntFs p.decls[k].fms (c + 1 + p.decls[k].name.length / 50 + p.decls[k].recv.length / 50)))) = cntVs (p.decls[k].vars.drop i) w ∧ j = p.decls[k].vars.length - i ∧ s = { n := 94, tm := [(1, .lp 1 0), (3, .v (.int .i64 (w : Nat)) none), (4, .v (.int .i64 k) none), (5, .lp 5 0), (7, .v (.int .i64 i) none)], bx := [(1, encPg p), (5, encD p.decls[k])], tb := [], sh := [], hint := [] }) (p.decls[k].vars.length) (by first | rfl | simp) ?_ ?_
 exact ⟨0, e, by omega, by rw [hG]; rfl, by omega, by simp [encD, encPg]⟩
 rintro j s ⟨i, w, hi, hw, rfl, rfl⟩ K14 hK14
 refine AT_seq_k fun K15 hK15 => ?_
 by_cases hmv : i < p.decls[k].vars.length
 refine sr fun Z z => ?_
 simp [row_map, tdiv50, encPg, encD, hkt, hms, hmv]
 repeat refine sg ?_
 refine z _ ?_
 clear z Z
 refine AT_cond (g := none) rfl (fun hb71 => ?_) (fun hb71 => ?_)
 try simp [row_map, tdiv50, encPg, hkt, hms, hmv] at hb71
 refine AT_skip ?_
 try simp only [nrm, reduceIte, Nat.reduceEqDiff]
 refine hK15 _ ?_
 refine AT_seq_k fun K16 hK16 => ?_
 refine AT_block ?_
 refine AT_region_q fun Z z => ?_
 have q6k := q6 p.decls[k].vars[i] (by simp)
 simp [row_map, tdiv50, encPg, encD, encS, hkt, hms, hmv]
 repeat refine sg ?_
 refine z _ ?_
 clear z Z
 try simp only [nrm, reduceIte, Nat.reduceEqDiff]
 refine hK16 _ ?_
 refine AT_region_q fun Z z => ?_
 simp [row_map, tdiv50, encPg, hkt, hms, hmv]
 repeat refine sg ?_
 refine z _ ?_
 clear z Z
 try simp only [nrm, reduceIte, Nat.reduceEqDiff]
 refine hK14 _ (by first | rfl | simp) (p.decls[k].vars.length - (i+1)) (by omega) ?_
 refine ⟨i+1, w + 1 + p.decls[k].vars[i].length / 50, by omega, ?_, by omega, by simp [encD, encPg]⟩
 rw [hw, List.drop_eq_getElem_cons hmv, cntVs_cons, if_pos (by omega)]
 try simp [row_map, tdiv50, encPg, hkt, hms, hmv] at hb71
 refine AT_exit ?_
 try simp only [nrm, reduceIte, Nat.reduceEqDiff]
 refine hK13 _ ?_
 refine sr fun Z z => ?_
 have hV : cntVs p.decls[k].vars (cntGs p.decls[k].sigs (cntFs p.decls[k].flds (cntFs p.decls[k].fms (c + 1 + p.decls[k].name.length / 50 + p.decls[k].recv.length / 50)))) = w := by
   rw [hw]
   first
   | (rw [List.drop_eq_getElem_cons hmv, cntVs_cons, if_neg (by omega)])
   | (rw [List.drop_eq_nil_of_le (by omega)]; rfl)
 simp [row_map, tdiv50, encPg, hkt, hms, hmv]
 repeat refine sg ?_
 refine z _ ?_
 clear z Z
 refine AT_cond (g := none) rfl (fun hb85 => ?_) (fun hb85 => ?_)
 try simp [row_map, tdiv50, encPg, hkt, hms, hmv] at hb85
 refine AT_draw_q Pt.mixed (by kernel_rfl) fun Z z => ?_
 have u3 := cntG_ub q7 w
 simp [row_map, tdiv50, encPg, encD, hkt, hms, hmv, hb85]
 repeat refine sg ?_
 refine RVdn_call ((by have h := c_ref06x_countSig g rnd p.decls[k].sig q7 w (by omega); simp only [encG] at h; exact h)) ?_
 simp [row_map, tdiv50, encPg, encD, hkt, hms, hmv, hb85]
 repeat refine sg ?_
 refine RVdn_call ((by have h := c_ref05x_Count g rnd p.decls[k].body q8 (cntG p.decls[k].sig w) (by omega); simp only [encE_def] at h; exact h)) ?_
 simp [row_map, tdiv50, encPg, encD, hkt, hms, hmv, hb85]
 repeat refine sg ?_
 refine z _ ?_
 clear z Z
 try simp only [nrm, reduceIte, Nat.reduceEqDiff]
 refine hK4 _ ?_
 refine AT_region_q fun Z z => ?_
 simp [row_map, tdiv50, encPg, hkt, hms, hmv, hb85]
 repeat refine sg ?_
 refine z _ ?_
 clear z Z
 try simp only [nrm, reduceIte, Nat.reduceEqDiff]
 refine hK2 _ (by first | rfl | simp) (p.decls.length - (k+1)) (by omega) ?_
 first
 | (· refine ⟨k+1, cntE p.decls[k].body (cntG p.decls[k].sig w), by omega, ?_, by omega, by simp [encPg]⟩
      rw [hc, List.drop_eq_getElem_cons hkt, cntDs_cons, if_pos (by omega), cntD, hV, if_pos (by omega)])
 | (refine ⟨k+1, w, by omega, ?_, by omega, by simp [encPg]⟩
    rw [hc, List.drop_eq_getElem_cons hkt, cntDs_cons, if_pos (by omega), cntD, hV, if_neg (by omega)])
 try simp [row_map, tdiv50, encPg, hkt, hms, hmv] at hb85
 refine AT_skip ?_
 try simp only [nrm, reduceIte, Nat.reduceEqDiff]
 refine hK4 _ ?_
 refine AT_region_q fun Z z => ?_
 simp [row_map, tdiv50, encPg, hkt, hms, hmv, hb85]
 repeat refine sg ?_
 refine z _ ?_
 clear z Z
 try simp only [nrm, reduceIte, Nat.reduceEqDiff]
 refine hK2 _ (by first | rfl | simp) (p.decls.length - (k+1)) (by omega) ?_
 first
 | (· refine ⟨k+1, cntE p.decls[k].body (cntG p.decls[k].sig w), by omega, ?_, by omega, by simp [encPg]⟩
      rw [hc, List.drop_eq_getElem_cons hkt, cntDs_cons, if_pos (by omega), cntD, hV, if_pos (by omega)])
 | (refine ⟨k+1, w, by omega, ?_, by omega, by simp [encPg]⟩
    rw [hc, List.drop_eq_getElem_cons hkt, cntDs_cons, if_pos (by omega), cntD, hV, if_neg (by omega)])
 refine sr fun Z z => ?_
 simp [row_map, tdiv50, encPg, encD, hkt, hms, hmv]
 repeat refine sg ?_
 refine z _ ?_
 clear z Z
 refine cF (by simp [hkt, hms, hmv]) ?_
 refine AT_exit ?_
 try simp only [nrm, reduceIte, Nat.reduceEqDiff]
 refine hK13 _ ?_
 refine sr fun Z z => ?_
 have hV : cntVs p.decls[k].vars (cntGs p.decls[k].sigs (cntFs p.decls[k].flds (cntFs p.decls[k].fms (c + 1 + p.decls[k].name.length / 50 + p.decls[k].recv.length / 50)))) = w := by
   rw [hw]
   first
   | (rw [List.drop_eq_getElem_cons hmv, cntVs_cons, if_neg (by omega)])
   | (rw [List.drop_eq_nil_of_le (by omega)]; rfl)
 simp [row_map, tdiv50, encPg, hkt, hms, hmv]
 repeat refine sg ?_
 refine z _ ?_
 clear z Z
 refine AT_cond (g := none) rfl (fun hb85 => ?_) (fun hb85 => ?_)
 try simp [row_map, tdiv50, encPg, hkt, hms, hmv] at hb85
 refine AT_draw_q Pt.mixed (by kernel_rfl) fun Z z => ?_
 have u3 := cntG_ub q7 w
 simp [row_map, tdiv50, encPg, encD, hkt, hms, hmv, hb85]
 repeat refine sg ?_
 refine RVdn_call ((by have h := c_ref06x_countSig g rnd p.decls[k].sig q7 w (by omega); simp only [encG] at h; exact h)) ?_
 simp [row_map, tdiv50, encPg, encD, hkt, hms, hmv, hb85]
 repeat refine sg ?_
 refine RVdn_call ((by have h := c_ref05x_Count g rnd p.decls[k].body q8 (cntG p.decls[k].sig w) (by omega); simp only [encE_def] at h; exact h)) ?_
 simp [row_map, tdiv50, encPg, encD, hkt, hms, hmv, hb85]
 repeat refine sg ?_
 refine z _ ?_
 clear z Z
 try simp only [nrm, reduceIte, Nat.reduceEqDiff]
 refine hK4 _ ?_
 refine AT_region_q fun Z z => ?_
 simp [row_map, tdiv50, encPg, hkt, hms, hmv, hb85]
 repeat refine sg ?_
 refine z _ ?_
 clear z Z
 try simp only [nrm, reduceIte, Nat.reduceEqDiff]
 refine hK2 _ (by first | rfl | simp) (p.decls.length - (k+1)) (by omega) ?_
 first
 | (· refine ⟨k+1, cntE p.decls[k].body (cntG p.decls[k].sig w), by omega, ?_, by omega, by simp [encPg]⟩
      rw [hc, List.drop_eq_getElem_cons hkt, cntDs_cons, if_pos (by omega), cntD, hV, if_pos (by omega)])
 | (refine ⟨k+1, w, by omega, ?_, by omega, by simp [encPg]⟩
    rw [hc, List.drop_eq_getElem_cons hkt, cntDs_cons, if_pos (by omega), cntD, hV, if_neg (by omega)])
 try simp [row_map, tdiv50, encPg, hkt, hms, hmv] at hb85
 refine AT_skip ?_
 try simp only [nrm, reduceIte, Nat.reduceEqDiff]
 refine hK4 _ ?_
 refine AT_region_q fun Z z => ?_
 simp [row_map, tdiv50, encPg, hkt, hms, hmv, hb85]
 repeat refine sg ?_
 refine z _ ?_
 clear z Z
 try simp only [nrm, reduceIte, Nat.reduceEqDiff]
 refine hK2 _ (by first | rfl | simp) (p.decls.length - (k+1)) (by omega) ?_
 first
 | (· refine ⟨k+1, cntE p.decls[k].body (cntG p.decls[k].sig w), by omega, ?_, by omega, by simp [encPg]⟩
      rw [hc, List.drop_eq_getElem_cons hkt, cntDs_cons, if_pos (by omega), cntD, hV, if_pos (by omega)])
 | (refine ⟨k+1, w, by omega, ?_, by omega, by simp [encPg]⟩
    rw [hc, List.drop_eq_getElem_cons hkt, cntDs_cons, if_pos (by omega), cntD, hV, if_neg (by omega)])
 try simp [row_map, tdiv50, encPg, hkt] at hb19
 refine AT_exit ?_
 try simp only [nrm, reduceIte, Nat.reduceEqDiff]
 refine hK1 _ ?_
 refine sr fun Z z => ?_
 simp [row_map, tdiv50, encPg, hkt]
 refine z _ ?_
 clear z Z
 refine AT_ret ?_
 simp [row_map, tdiv50, encPg, Tryz.f61]
 first
 | (rw [hc, List.drop_eq_getElem_cons hkt, cntDs_cons, if_neg (by omega)])
 | (rw [hc, List.drop_eq_nil_of_le (by omega)]; rfl)
 refine sr fun Z z => ?_
 simp [row_map, tdiv50, encPg, hkt]
 repeat refine sg ?_
 refine z _ ?_
 clear z Z
 refine cF (by simp [hkt]) ?_
 refine AT_exit ?_
 try simp only [nrm, reduceIte, Nat.reduceEqDiff]
 refine hK1 _ ?_
 refine sr fun Z z => ?_
 simp [row_map, tdiv50, encPg, hkt]
 refine z _ ?_
 clear z Z
 refine AT_ret ?_
 simp [row_map, tdiv50, encPg, Tryz.f61]
 first
 | (rw [hc, List.drop_eq_getElem_cons hkt, cntDs_cons, if_neg (by omega)])
 | (rw [hc, List.drop_eq_nil_of_le (by omega)]; rfl)

theorem c_ref06x_Few (p : Pg) (hf : fitPg p) : Valid Tryz.prog (G0 g rnd) 40 [.agg (encPg p)] (.bool (decide (cntPg p ≤ 600))) := by

 refine valid_of [] Tryz.func40 rfl (by kernel_rfl) ?_
 refine sr fun Z z => ?_
 simp [Tryz.f40]
 refine z _ ?_
 clear z Z
 refine sr fun Z z => ?_
 simp
 repeat refine sg ?_
 refine RVn_call (c_ref06x_Count g rnd p hf) ?_
 simp
 repeat refine sg ?_
 refine z _ ?_
 clear z Z
 refine AT_ret ?_
 simp [Tryz.f40]
 omega

end Go.Proofs.YtocmdbojefgpbaaGreatDoor
end

section
/- Dummy names. -/
set_option linter.all false
set_option maxHeartbeats 1000000
set_option maxRecDepth 10000
namespace Go.Proofs.YtocmdbojefgpbaaGreatDoor
open Go Go.Pv
variable (g : Nat → Option (List AV)) (rnd : Bool)

theorem c_mangle_Dummy (s : Sg) (hw : wtG s ≤ 60000) (hcw : wtG (canonG s) ≤ 60000) (hml : ∃ m, g 4 = some [.int .i64 m]) (htab : g 3 = some pow10A) (hers : ∃ x, g 1 = some [.iface 159 x]) (herr : ∃ x, g 2 = some [.iface 159 x]) (hp : GlPlain (GT g)) : Valid Tryz.prog (G0 g rnd) 19 [.agg (encG s)] (.str (dumT (canonG s))) := by
 obtain ⟨c, hc⟩ : ∃ c, canonG s = c := ⟨_, rfl⟩
 rw [hc] at hcw ⊢
 have hw2 : c.name.length + 1 + wtFs c.fms + wtFs c.pms + wt c.res ≤ 60000 := hcw
 have hl1 := wtFs_len c.fms
 have hl2 := wtFs_len c.pms
 have hnm : c.name = s.name := by rw [← hc]; rfl
 rw [hnm] at hw2
 have hel := escS_len s.name
 have hpt := dumT_parts c
 rw [hnm] at hpt
 rw [hpt]
 have hi0 := fun k => itK_len 66 c.fms k
 have hi1 := itT_len 66 c.fms
 have hi2 := fun k => itK_len 80 c.pms k
 have hmr := mgT_len c.res
 refine valid_of [] Tryz.func19 rfl (by kernel_rfl) ?_
 refine sr fun Z z => ?_
 simp [row_map, encG, encF, Tryz.f19]
 refine z _ ?_
 clear z Z
 refine sr fun Z z => ?_
 simp [row_map, encG, encF]
 repeat refine sg ?_
 refine RVn_call ((by have h := c_bind_Canon_v g rnd s (by omega) htab hp; rw [hc] at h; exact h)) ?_
 simp [row_map, encG, encF]
 repeat refine sg ?_
 refine z _ ?_
 clear z Z
 refine sr fun Z z => ?_
 simp [row_map, encG, encF]
 repeat refine sg ?_
 refine RVn_call (c_mangle_escape g rnd s.name (by omega) hml) ?_
 simp [row_map, encG, encF]
 repeat refine sg ?_
 refine z _ ?_
 clear z Z
 refine AT_seq_k fun K1 hK1 => ?_
 refine sr fun Z z => ?_
 simp [row_map, encG, encF]
 repeat refine sg ?_
 refine z _ ?_
 clear z Z
 refine AT_block ?_
 refine AT_loop_q [3,4,16,17,18] [3] (fun j st => ∃ k, k ≤ c.fms.length ∧ j = c.fms.length - k ∧ st = { n := 49, tm := [(3, .lp 3 0), (4, .v (.str (escS s.name ++ (95 :: 83 :: itT ((c.fms.map fun f => (f.ty, 66)).take k)))) none), (16, .v (.slice (c.fms.map encF)) none), (17, .v (.int .i64 c.fms.length) none), (18, .v (.int .i64 k) none)], bx := [(3, encG c)], tb := [], sh := [], hint := [] }) (c.fms.length) (by first | rfl | simp) ?_ ?_
 exact ⟨0, by simp [encG, itT]⟩
 rintro j st ⟨k, hk, rfl, rfl⟩ K2 hK2
 refine sr fun Z z => ?_
 simp [row_map, encG, encF]
 repeat refine sg ?_
 refine z _ ?_
 clear z Z
 refine AT_seq_k fun K3 hK3 => ?_
 refine AT_cond (g := none) rfl (fun hb19 => ?_) (fun hb19 => ?_)
 try simp [row_map, encG, encF] at hb19
 refine AT_skip ?_
 try simp only [nrm, reduceIte, Nat.reduceEqDiff]
 refine hK3 _ ?_
 refine AT_seq_k fun K4 hK4 => ?_
 refine AT_block ?_
 refine sr fun Z z => ?_
 simp [row_map, encG, encF, hb19]
 repeat refine sg ?_
 refine z _ ?_
 clear z Z
 refine AT_region_q fun Z z => ?_
 have hm9 := wtFs_mem (l := c.fms) (f := c.fms[k]) (by simp)
 have hm8 : wtF c.fms[k] = c.fms[k].name.length + 1 + wt c.fms[k].ty := rfl
 have hm7 := mgT_len c.fms[k].ty
 have hi9 := hi0 k
 simp [row_map, encG, encF, hb19]
 repeat refine sg ?_
 refine RVn_call ((by have h := c_mangle_Type g rnd hml htab hers herr c.fms[k].ty (by omega); simp only [encTy_def] at h; exact h)) ?_
 simp [row_map, encG, encF, hb19]
 repeat refine sg ?_
 refine z _ ?_
 clear z Z
 try simp only [nrm, reduceIte, Nat.reduceEqDiff]
 refine hK4 _ ?_
 refine AT_region_q fun Z z => ?_
 simp [row_map, encG, encF, hb19]
 repeat refine sg ?_
 refine z _ ?_
 clear z Z
 try simp only [nrm, reduceIte, Nat.reduceEqDiff]
 refine hK2 _ (by first | rfl | simp) (c.fms.length - (k+1)) (by omega) ?_
 have hk9 : k < c.fms.length := by omega
 have hs2 := itM 66 c.fms k hk9
 exact ⟨k+1, by omega, by omega, by simp [hs2, encG]⟩
 try simp [row_map, encG, encF] at hb19
 refine AT_exit ?_
 try simp only [nrm, reduceIte, Nat.reduceEqDiff]
 refine hK1 _ ?_
 refine AT_seq_k fun K5 hK5 => ?_
 refine sr fun Z z => ?_
 simp [row_map, encG, encF, hb19]
 repeat refine sg ?_
 refine z _ ?_
 clear z Z
 refine AT_block ?_
 refine AT_loop_q [3,4,30,31,32] [3] (fun j st => ∃ k, k ≤ c.pms.length ∧ j = c.pms.length - k ∧ st = { n := 49, tm := [(3, .lp 3 0), (4, .v (.str (escS s.name ++ (95 :: 83 :: (itT (c.fms.map fun f => (f.ty, 66)) ++ itT ((c.pms.map fun f => (f.ty, 80)).take k))))) none), (30, .v (.slice (c.pms.map encF)) none), (31, .v (.int .i64 c.pms.length) none), (32, .v (.int .i64 k) none)], bx := [(3, encG c)], tb := [], sh := [], hint := [] }) (c.pms.length) (by first | rfl | simp) ?_ ?_
 have hk9 : k = c.fms.length := by omega
 subst hk9
 have htk0 : List.take c.fms.length (c.fms.map fun f => (f.ty, (66 : UInt8))) = c.fms.map fun f => (f.ty, 66) := List.take_of_length_le (by simp)
 exact ⟨0, by simp [encG, itT, htk0]⟩
 rintro j st ⟨k, hk, rfl, rfl⟩ K6 hK6
 refine sr fun Z z => ?_
 simp [row_map, encG, encF, hb19]
 repeat refine sg ?_
 refine z _ ?_
 clear z Z
 refine AT_seq_k fun K7 hK7 => ?_
 refine AT_cond (g := none) rfl (fun hb33 => ?_) (fun hb33 => ?_)
 try simp [row_map, encG, encF, hb19] at hb33
 refine AT_skip ?_
 try simp only [nrm, reduceIte, Nat.reduceEqDiff]
 refine hK7 _ ?_
 refine AT_seq_k fun K8 hK8 => ?_
 refine AT_block ?_
 refine sr fun Z z => ?_
 simp [row_map, encG, encF, hb19, hb33]
 repeat refine sg ?_
 refine z _ ?_
 clear z Z
 refine AT_region_q fun Z z => ?_
 have hm9 := wtFs_mem (l := c.pms) (f := c.pms[k]) (by simp)
 have hm8 : wtF c.pms[k] = c.pms[k].name.length + 1 + wt c.pms[k].ty := rfl
 have hm7 := mgT_len c.pms[k].ty
 have hi9 := hi2 k
 simp [row_map, encG, encF, hb19, hb33]
 repeat refine sg ?_
 refine RVn_call ((by have h := c_mangle_Type g rnd hml htab hers herr c.pms[k].ty (by omega); simp only [encTy_def] at h; exact h)) ?_
 simp [row_map, encG, encF, hb19, hb33]
 repeat refine sg ?_
 refine z _ ?_
 clear z Z
 try simp only [nrm, reduceIte, Nat.reduceEqDiff]
 refine hK8 _ ?_
 refine AT_region_q fun Z z => ?_
 simp [row_map, encG, encF, hb19, hb33]
 repeat refine sg ?_
 refine z _ ?_
 clear z Z
 try simp only [nrm, reduceIte, Nat.reduceEqDiff]
 refine hK6 _ (by first | rfl | simp) (c.pms.length - (k+1)) (by omega) ?_
 have hk9 : k < c.pms.length := by omega
 have hs2 := itM 80 c.pms k hk9
 exact ⟨k+1, by omega, by omega, by simp [hs2, encG]⟩
 try simp [row_map, encG, encF, hb19] at hb33
 refine AT_exit ?_
 try simp only [nrm, reduceIte, Nat.reduceEqDiff]
 refine hK5 _ ?_
 refine sr fun Z z => ?_
 have hk9 : k = c.pms.length := by omega
 subst hk9
 have htk : List.take c.pms.length (c.pms.map fun f => (f.ty, (80 : UInt8))) = c.pms.map fun f => (f.ty, 80) := List.take_of_length_le (by simp)
 have hi9 := hi2 c.pms.length
 simp [row_map, encG, encF, hb19, hb33]
 repeat refine sg ?_
 refine RVn_call ((by have h := c_mangle_Type g rnd hml htab hers herr c.res (by omega); simp only [encTy_def] at h; exact h)) ?_
 simp [row_map, encG, encF, hb19, hb33]
 repeat refine sg ?_
 refine z _ ?_
 clear z Z
 refine AT_ret ?_
 simp [row_map, encG, encF, Tryz.f19]
 simp [htk]

theorem c_ref20x_RightSig (s : Sg) (hw : wtG s ≤ 60000) (hcw : wtG (canonG s) ≤ 60000) (hp : GlPlain (GT g)) : Valid Tryz.prog (G0 g rnd) 18 [.agg (encG s)] (.bool (r20G (canonG s))) := by
 obtain ⟨c, hc⟩ : ∃ c, canonG s = c := ⟨_, rfl⟩
 rw [hc] at hcw ⊢
 have hw2 : c.name.length + 1 + wtFs c.fms + wtFs c.pms + wt c.res ≤ 60000 := hcw
 have hl1 := wtFs_len c.fms
 have hl2 := wtFs_len c.pms
 have hnm : c.name = s.name := by rw [← hc]; rfl
 rw [hnm] at hw2
 have hpt : r20G c = (c.fms.all (fun f => r20 f.ty) && c.pms.all (fun f => r20 f.ty) && r20 c.res && isName s.name) := by rw [← hnm]; rfl
 refine valid_of [] Tryz.func18 rfl (by kernel_rfl) ?_
 refine sr fun Z z => ?_
 simp [row_map, encG, encF, Tryz.f18]
 refine z _ ?_
 clear z Z
 refine sr fun Z z => ?_
 simp [row_map, encG, encF]
 repeat refine sg ?_
 refine RVn_call ((by have h := c_ref10x_Canon_v g rnd s (by omega) hp; rw [hc] at h; exact h)) ?_
 simp [row_map, encG, encF]
 repeat refine sg ?_
 refine z _ ?_
 clear z Z
 refine AT_seq_k fun K1 hK1 => ?_
 refine sr fun Z z => ?_
 simp [row_map, encG, encF]
 refine z _ ?_
 clear z Z
 refine AT_block ?_
 refine AT_loop_q [1,3,4] [1,3] (fun j st => ∃ k, k ≤ c.fms.length ∧ c.fms.all (fun f => r20 f.ty) = (c.fms.drop k).all (fun f => r20 f.ty) ∧ j = c.fms.length - k ∧ st = { n := 46, tm := [(1, .lp 1 0), (3, .lp 3 0), (4, .v (.int .i64 k) none)], bx := [(1, encG s), (3, encG c)], tb := [], sh := [], hint := [] }) (c.fms.length) (by first | rfl | simp) ?_ ?_
 exact ⟨0, by simp [encG]⟩
 rintro j st ⟨k, hk, hc4, rfl, rfl⟩ K2 hK2
 refine AT_seq_k fun K3 hK3 => ?_
 refine sr fun Z z => ?_
 simp [row_map, encG, encF]
 repeat refine sg ?_
 refine z _ ?_
 clear z Z
 refine AT_cond (g := none) rfl (fun hb12 => ?_) (fun hb12 => ?_)
 try simp [row_map, encG, encF] at hb12
 refine AT_skip ?_
 try simp only [nrm, reduceIte, Nat.reduceEqDiff]
 refine hK3 _ ?_
 refine AT_seq_k fun K4 hK4 => ?_
 refine AT_block ?_
 have hkq : k < c.fms.length := by omega
 have hda := List.drop_eq_getElem_cons hkq
 have hm9 := wtFs_mem (l := c.fms) (f := c.fms[k]) (by simp)
 have hm8 : wtF c.fms[k] = c.fms[k].name.length + 1 + wt c.fms[k].ty := rfl
 obtain ⟨b9, hr9⟩ : ∃ b, r20 c.fms[k].ty = b := ⟨_, rfl⟩
 cases b9
 refine sr fun Z z => ?_
 simp [row_map, encG, encF, hb12, hr9]
 repeat refine sg ?_
 refine RVn_call ((by have h := c_ref20x_Right g rnd c.fms[k].ty (by omega); simp only [encTy_def] at h; exact h)) ?_
 simp [row_map, encG, encF, hb12, hr9]
 repeat refine sg ?_
 refine z _ ?_
 clear z Z
 refine cT (by simp [hb12, hr9]) ?_
 refine sr fun Z z => ?_
 simp [row_map, encG, encF, hb12, hr9]
 refine z _ ?_
 clear z Z
 refine AT_ret ?_
 simp [row_map, encG, encF, Tryz.f18]
 first
 | (· rw [hpt, hc4, hda, List.all_cons, hr9]; simp)
 | (· rw [hpt, hc5, hda, List.all_cons, hr9]; simp)
 | (· rw [hpt, hc4, hc5, List.drop_eq_nil_of_le (by omega), List.drop_eq_nil_of_le (by omega), hrr]; simp)
 refine sr fun Z z => ?_
 simp [row_map, encG, encF, hb12, hr9]
 repeat refine sg ?_
 refine RVn_call ((by have h := c_ref20x_Right g rnd c.fms[k].ty (by omega); simp only [encTy_def] at h; exact h)) ?_
 simp [row_map, encG, encF, hb12, hr9]
 repeat refine sg ?_
 refine z _ ?_
 clear z Z
 refine cF (by simp [hb12, hr9]) ?_
 refine AT_skip ?_
 try simp only [nrm, reduceIte, Nat.reduceEqDiff]
 refine hK4 _ ?_
 refine AT_region_q fun Z z => ?_
 simp [row_map, encG, encF, hb12, hr9]
 repeat refine sg ?_
 refine z _ ?_
 clear z Z
 try simp only [nrm, reduceIte, Nat.reduceEqDiff]
 refine hK2 _ (by first | rfl | simp) (c.fms.length - (k+1)) (by omega) ?_
 refine ⟨k+1, by omega, ?_, by omega, by simp [encG]⟩
 rw [hc4, hda, List.all_cons, hr9, Bool.true_and]
 try simp [row_map, encG, encF] at hb12
 refine AT_exit ?_
 try simp only [nrm, reduceIte, Nat.reduceEqDiff]
 refine hK1 _ ?_
 refine AT_seq_k fun K5 hK5 => ?_
 refine sr fun Z z => ?_
 simp [row_map, encG, encF, hb12]
 refine z _ ?_
 clear z Z
 refine AT_block ?_
 refine AT_loop_q [1,3,5] [1,3] (fun j st => ∃ k, k ≤ c.pms.length ∧ c.pms.all (fun f => r20 f.ty) = (c.pms.drop k).all (fun f => r20 f.ty) ∧ j = c.pms.length - k ∧ st = { n := 46, tm := [(1, .lp 1 0), (3, .lp 3 0), (5, .v (.int .i64 k) none)], bx := [(1, encG s), (3, encG c)], tb := [], sh := [], hint := [] }) (c.pms.length) (by first | rfl | simp) ?_ ?_
 exact ⟨0, by simp [encG]⟩
 rintro j st ⟨k, hk, hc5, rfl, rfl⟩ K6 hK6
 refine AT_seq_k fun K7 hK7 => ?_
 refine sr fun Z z => ?_
 simp [row_map, encG, encF, hb12]
 repeat refine sg ?_
 refine z _ ?_
 clear z Z
 refine AT_cond (g := none) rfl (fun hb27 => ?_) (fun hb27 => ?_)
 try simp [row_map, encG, encF, hb12] at hb27
 refine AT_skip ?_
 try simp only [nrm, reduceIte, Nat.reduceEqDiff]
 refine hK7 _ ?_
 refine AT_seq_k fun K8 hK8 => ?_
 refine AT_block ?_
 have hkq : k < c.pms.length := by omega
 have hda := List.drop_eq_getElem_cons hkq
 have hm9 := wtFs_mem (l := c.pms) (f := c.pms[k]) (by simp)
 have hm8 : wtF c.pms[k] = c.pms[k].name.length + 1 + wt c.pms[k].ty := rfl
 obtain ⟨b9, hr9⟩ : ∃ b, r20 c.pms[k].ty = b := ⟨_, rfl⟩
 cases b9
 refine sr fun Z z => ?_
 simp [row_map, encG, encF, hb12, hb27, hr9]
 repeat refine sg ?_
 refine RVn_call ((by have h := c_ref20x_Right g rnd c.pms[k].ty (by omega); simp only [encTy_def] at h; exact h)) ?_
 simp [row_map, encG, encF, hb12, hb27, hr9]
 repeat refine sg ?_
 refine z _ ?_
 clear z Z
 refine cT (by simp [hb12, hb27, hr9]) ?_
 refine sr fun Z z => ?_
 simp [row_map, encG, encF, hb12, hb27, hr9]
 refine z _ ?_
 clear z Z
 refine AT_ret ?_
 simp [row_map, encG, encF, Tryz.f18]
 first
 | (· rw [hpt, hc4, hda, List.all_cons, hr9]; simp)
 | (· rw [hpt, hc5, hda, List.all_cons, hr9]; simp)
 | (· rw [hpt, hc4, hc5, List.drop_eq_nil_of_le (by omega), List.drop_eq_nil_of_le (by omega), hrr]; simp)
 refine sr fun Z z => ?_
 simp [row_map, encG, encF, hb12, hb27, hr9]
 repeat refine sg ?_
 refine RVn_call ((by have h := c_ref20x_Right g rnd c.pms[k].ty (by omega); simp only [encTy_def] at h; exact h)) ?_
 simp [row_map, encG, encF, hb12, hb27, hr9]
 repeat refine sg ?_
 refine z _ ?_
 clear z Z
 refine cF (by simp [hb12, hb27, hr9]) ?_
 refine AT_skip ?_
 try simp only [nrm, reduceIte, Nat.reduceEqDiff]
 refine hK8 _ ?_
 refine AT_region_q fun Z z => ?_
 simp [row_map, encG, encF, hb12, hb27, hr9]
 repeat refine sg ?_
 refine z _ ?_
 clear z Z
 try simp only [nrm, reduceIte, Nat.reduceEqDiff]
 refine hK6 _ (by first | rfl | simp) (c.pms.length - (k+1)) (by omega) ?_
 refine ⟨k+1, by omega, ?_, by omega, by simp [encG]⟩
 rw [hc5, hda, List.all_cons, hr9, Bool.true_and]
 try simp [row_map, encG, encF, hb12] at hb27
 refine AT_exit ?_
 try simp only [nrm, reduceIte, Nat.reduceEqDiff]
 refine hK5 _ ?_
 cases hrr : r20 c.res
 refine sr fun Z z => ?_
 simp [row_map, encG, encF, hb12, hb27, hrr]
 repeat refine sg ?_
 try (
  refine RVn_call ((by have h := c_ref20x_Right g rnd c.res (by omega); simp only [encTy_def] at h; exact h)) ?_
  simp [row_map, encG, encF, hb12, hb27, hrr]
  repeat refine sg ?_)
 try (
  refine RVn_call (c_ref01x_Is g rnd s.name (by omega)) ?_
  simp [row_map, encG, encF, hb12, hb27, hrr]
  repeat refine sg ?_)
 refine z _ ?_
 clear z Z
 refine AT_ret ?_
 simp [row_map, encG, encF, Tryz.f18]
 first
 | (· rw [hpt, hc4, hda, List.all_cons, hr9]; simp)
 | (· rw [hpt, hc5, hda, List.all_cons, hr9]; simp)
 | (· rw [hpt, hc4, hc5, List.drop_eq_nil_of_le (by omega), List.drop_eq_nil_of_le (by omega), hrr]; simp)
 refine sr fun Z z => ?_
 simp [row_map, encG, encF, hb12, hb27, hrr]
 repeat refine sg ?_
 try (
  refine RVn_call ((by have h := c_ref20x_Right g rnd c.res (by omega); simp only [encTy_def] at h; exact h)) ?_
  simp [row_map, encG, encF, hb12, hb27, hrr]
  repeat refine sg ?_)
 try (
  refine RVn_call (c_ref01x_Is g rnd s.name (by omega)) ?_
  simp [row_map, encG, encF, hb12, hb27, hrr]
  repeat refine sg ?_)
 refine z _ ?_
 clear z Z
 refine AT_ret ?_
 simp [row_map, encG, encF, Tryz.f18]
 first
 | (· rw [hpt, hc4, hda, List.all_cons, hr9]; simp)
 | (· rw [hpt, hc5, hda, List.all_cons, hr9]; simp)
 | (· rw [hpt, hc4, hc5, List.drop_eq_nil_of_le (by omega), List.drop_eq_nil_of_le (by omega), hrr]; simp)

theorem c_ref10x_Few (s : Sg) (hf : fitG s) : Valid Tryz.prog (G0 g rnd) 16 [.agg (encG s)] (.bool (decide (cntPg ⟨[dcS s], ex0⟩ ≤ 600))) := by

 refine valid_of [] Tryz.func16 rfl (by kernel_rfl) ?_
 refine sr fun Z z => ?_
 simp [row_map, encG, Tryz.f16]
 refine z _ ?_
 clear z Z
 refine sr fun Z z => ?_
 simp [row_map, encG]
 repeat refine sg ?_
 refine RVn_call ((by have h := c_ref06x_Few g rnd ⟨[dcS s], ex0⟩ (fitPg1 (fitS hf)); simp only [encPg, dcS, encD, ex0, ty0, List.map_cons, List.map_nil, Ty.name, Ty.args, Ty.pos, Exp.kind, Exp.name, Exp.ty, Exp.ta, Exp.kids, Exp.pos] at h ⊢; exact h)) ?_
 simp [row_map, encG]
 repeat refine sg ?_
 refine z _ ?_
 clear z Z
 refine AT_ret ?_
 simp [row_map, encG, Tryz.f16]
 rfl

end Go.Proofs.YtocmdbojefgpbaaGreatDoor
end

section
/- Names of instances: what every law of this package asks first. -/
set_option linter.all false
set_option maxHeartbeats 1000000
set_option maxRecDepth 10000
namespace Go.Proofs.YtocmdbojefgpbaaGreatDoor
open Go Go.Pv
variable (g : Nat → Option (List AV)) (rnd : Bool)

def aw9 : Ty := .mk [77, 97, 112] [.mk [97, 95, 98] [] 0, .mk [76, 105, 115, 116] [.mk [73, 110, 116] [] 0] 0] 0
def ae9 : Exp := .mk 2 [109] ty0 [.mk [84] [] 0] [.mk 3 [] aw9 [] [] 0] 0
theorem c_law20x_awake (hml : ∃ m, g 4 = some [.int .i64 m]) (htab : g 3 = some pow10A) (hers : ∃ x, g 1 = some [.iface 159 x]) (herr : ∃ x, g 2 = some [.iface 159 x]) (hres : g 0 = some reservedA) : Valid Tryz.prog (G0 g false) 7 [] (.bool true) := by

 refine valid_of [] Tryz.func7 rfl (by kernel_rfl) ?_
 refine sr fun Z z => ?_
 simp [Tryz.f7]
 refine z _ ?_
 clear z Z
 refine sr fun Z z => ?_
 simp
 repeat refine sg ?_
 refine z _ ?_
 clear z Z
 refine sr fun Z z => ?_
 simp
 repeat refine sg ?_
 refine RVn_call ((by have h := (by have h := c_mangle_Parse g (mgT aw9) (by decide) htab hers herr hres; rw [parse_back (by decide)] at h; exact h : Valid Tryz.prog (G0 g false) 11 [.str (mgT aw9)] (.tup [.agg (encTy (z0 aw9)), .bool true])); exact h : Valid Tryz.prog (G0 g false) 11 [.str [77, 97, 112, 95, 76, 97, 95, 95, 98, 95, 67, 76, 105, 115, 116, 95, 76, 73, 110, 116, 95, 82, 95, 82]] (.tup [.agg [.str [77, 97, 112], .slice [[.str [97, 95, 98], .slice [], .int .i64 0], [.str [76, 105, 115, 116], .slice [[.str [73, 110, 116], .slice [], .int .i64 0]], .int .i64 0]], .int .i64 0], .bool true]))) ?_
 simp
 repeat refine sg ?_
 refine z _ ?_
 clear z Z
 refine sr fun Z z => ?_
 simp
 repeat refine sg ?_
 refine RVn_call ((by have h := c_mangle_Expr g false hml htab hers herr ae9 (by decide); exact h : Valid Tryz.prog (G0 g false) 28 [.agg [.int .i64 2, .str [109], .str [], .slice [], .int .i64 0, .slice [[.str [84], .slice [], .int .i64 0]], .slice [[.int .i64 3, .str [], .str [77, 97, 112], .slice [[.str [97, 95, 98], .slice [], .int .i64 0], [.str [76, 105, 115, 116], .slice [[.str [73, 110, 116], .slice [], .int .i64 0]], .int .i64 0]], .int .i64 0, .slice [], .slice [], .int .i64 0]], .int .i64 0]] (.agg [.int .i64 2, .str [109, 95, 76, 84, 95, 82], .str [], .slice [], .int .i64 0, .slice [], .slice [[.int .i64 3, .str [], .str [77, 97, 112, 95, 76, 97, 95, 95, 98, 95, 67, 76, 105, 115, 116, 95, 76, 73, 110, 116, 95, 82, 95, 82], .slice [], .int .i64 0, .slice [], .slice [], .int .i64 0]], .int .i64 0]))) ?_
 simp
 repeat refine sg ?_
 refine z _ ?_
 clear z Z
 refine sr fun Z z => ?_
 simp
 repeat refine sg ?_
 refine RVn_call ((by have h := c_mangle_Type g false hml htab hers herr aw9 (by decide); exact h : Valid Tryz.prog (G0 g false) 10 [.agg [.str [77, 97, 112], .slice [[.str [97, 95, 98], .slice [], .int .i64 0], [.str [76, 105, 115, 116], .slice [[.str [73, 110, 116], .slice [], .int .i64 0]], .int .i64 0]], .int .i64 0]] (.str [77, 97, 112, 95, 76, 97, 95, 95, 98, 95, 67, 76, 105, 115, 116, 95, 76, 73, 110, 116, 95, 82, 95, 82]))) ?_
 simp
 repeat refine sg ?_
 refine RVn_call ((by have h := c_ref04x_Same g false aw9 aw9 (by decide); exact h : Valid Tryz.prog (G0 g false) 14 [.agg [.str [77, 97, 112], .slice [[.str [97, 95, 98], .slice [], .int .i64 0], [.str [76, 105, 115, 116], .slice [[.str [73, 110, 116], .slice [], .int .i64 0]], .int .i64 0]], .int .i64 0], .agg [.str [77, 97, 112], .slice [[.str [97, 95, 98], .slice [], .int .i64 0], [.str [76, 105, 115, 116], .slice [[.str [73, 110, 116], .slice [], .int .i64 0]], .int .i64 0]], .int .i64 0]] (.bool true))) ?_
 simp
 repeat refine sg ?_
 refine RVn_call ((by have h := c_mangle_Method g false [109] [] (by decide) (by decide) hml htab hers herr; exact h : Valid Tryz.prog (G0 g false) 20 [.str [109], .slice []] (.str [109]))) ?_
 simp
 repeat refine sg ?_
 refine RVn_call ((by have h := c_mangle_Dummy_z g false [109] (.mk [84] [] 0) 0 (by decide) (by decide) hml htab hers herr; exact h : Valid Tryz.prog (G0 g false) 19 [.agg [.str [109], .slice [], .slice [], .str [84], .slice [], .int .i64 0, .int .i64 0]] (.str [109, 95, 83, 84, 95, 69]))) ?_
 simp
 repeat refine sg ?_
 refine RVn_call ((by have h := c_mangle_Top g false; exact h : Valid Tryz.prog (G0 g false) 25 [] (.str [84, 111, 112, 95, 84]))) ?_
 simp
 repeat refine sg ?_
 refine RVn_call ((by have h := c_mangle_Plain g false aw9 (by decide) hml htab hers herr; exact h : Valid Tryz.prog (G0 g false) 12 [.agg [.str [77, 97, 112], .slice [[.str [97, 95, 98], .slice [], .int .i64 0], [.str [76, 105, 115, 116], .slice [[.str [73, 110, 116], .slice [], .int .i64 0]], .int .i64 0]], .int .i64 0]] (.agg [.str [77, 97, 112, 95, 76, 97, 95, 95, 98, 95, 67, 76, 105, 115, 116, 95, 76, 73, 110, 116, 95, 82, 95, 82], .slice [], .int .i64 0]))) ?_
 simp
 repeat refine sg ?_
 refine z _ ?_
 clear z Z
 refine AT_ret ?_
 simp [Tryz.f7]

end Go.Proofs.YtocmdbojefgpbaaGreatDoor
end

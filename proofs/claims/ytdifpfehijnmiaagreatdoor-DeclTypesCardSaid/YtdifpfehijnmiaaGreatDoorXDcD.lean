import Derived.Test.YtdifpfehijnmiaaGreatDoorPt
import Derived.Test.YtdifpfehijnmiaaGreatDoorPvXa
import Derived.Test.YtdifpfehijnmiaaGreatDoorPvY
import Derived.Test.YtdifpfehijnmiaaGreatDoorXExE
import Derived.Test.YtdifpfehijnmiaaGreatDoorXTyQ
import Derived.Test.YtdifpfehijnmiaaGreatDoorXNaB
import Derived.Test.YtdifpfehijnmiaaGreatDoorXDcB
section
/- Contracts: right expressions. -/
set_option linter.all false
set_option maxHeartbeats 1000000
set_option maxRecDepth 10000
namespace Go.Proofs.YtdifpfehijnmiaaGreatDoor
open Go Go.Pv
variable (g : Nat → Option (List AV)) (rnd : Bool)

theorem c_ref05x_Right (e : Exp) : wtE e ≤ 1000000000 → Valid Tryz.prog (G0 g rnd) 41 [.agg (encE e)] (.bool (rightE e)) := by
 induction e using Exp.ind with
 | h kd n t ta l p ih =>
 intro hw
 have hw2 : n.length + 1 + wt t + wts ta + wtEs l ≤ 1000000000 := by simpa [wtE_mk] using hw
 have hln := wtEs_len l
 have hla := wts_len ta
 obtain ⟨tn, tas, tp⟩ := t
 refine valid_of [] Tryz.func41 rfl (by kernel_rfl) ?_
 refine sr fun Z z => ?_
 simp [row_map, Tryz.f41]
 refine z _ ?_
 clear z Z
 refine AT_seq_k fun K1 hK1 => ?_
 refine sr fun Z z => ?_
 simp [row_map]
 refine z _ ?_
 clear z Z
 refine AT_block ?_
 refine AT_loop_q [1,3] [1] (fun j s => ∃ k, k ≤ l.length ∧ rightEs l = rightEs (l.drop k) ∧ j = l.length - k ∧ s = { n := 108, tm := [(1, .lp 1 0), (3, .v (.int .i64 k) none)], bx := [(1, encE (.mk kd n (.mk tn tas tp) ta l p))], tb := [], sh := [], hint := [] }) (l.length) (by first | rfl | simp) ?_ ?_
 exact ⟨0, by simp⟩
 rintro j s ⟨k, hk, hc, rfl, rfl⟩ K2 hK2
 refine AT_seq_k fun K3 hK3 => ?_
 refine sr fun Z z => ?_
 simp [row_map]
 refine z _ ?_
 clear z Z
 refine AT_cond (g := none) rfl (fun hb10 => ?_) (fun hb10 => ?_)
 simp [row_map] at hb10
 refine AT_skip ?_
 simp only [nrm, reduceIte, Nat.reduceEqDiff]
 refine hK3 _ ?_
 refine AT_seq_k fun K4 hK4 => ?_
 refine AT_block ?_
 refine sr fun Z z => ?_
 have hm := wtEs_mem (l := l) (e := l[k]) (by simp)
 have hda := List.drop_eq_getElem_cons hb10
 simp [row_map, hb10]
 refine RVn_call (ih l[k] (by simp) (by omega)) ?_
 simp [row_map, hb10]
 refine z _ ?_
 clear z Z
 refine AT_cond (g := none) rfl (fun hb19 => ?_) (fun hb19 => ?_)
 simp [row_map, hb10] at hb19
 refine sr fun Z z => ?_
 simp [row_map, hb10, hb19]
 refine z _ ?_
 clear z Z
 refine AT_ret ?_
 simp [row_map, Tryz.f41]
 (rw [rightE_ok, hc, hda, rightEs_cons, hb19]; rfl)
 simp [row_map, hb10] at hb19
 refine AT_skip ?_
 refine hK4 _ ?_
 refine AT_region_q fun Z z => ?_
 simp [row_map, hb10, hb19]
 repeat refine sg ?_
 refine z _ ?_
 clear z Z
 simp only [nrm, reduceIte, Nat.reduceEqDiff]
 refine hK2 _ (by first | rfl | simp) (l.length - (k+1)) (by omega) ?_
 refine ⟨k+1, by omega, ?_, by omega, by simp⟩
 rw [hc, hda, rightEs_cons, hb19]; rfl
 simp [row_map] at hb10
 refine AT_exit ?_
 simp only [nrm, reduceIte, Nat.reduceEqDiff]
 refine hK1 _ ?_
 refine AT_seq_k fun K5 hK5 => ?_
 refine sr fun Z z => ?_
 simp [row_map, hb10]
 refine z _ ?_
 clear z Z
 refine AT_block ?_
 have hL : rightEs l = true := by rw [hc, List.drop_eq_nil_of_le hb10]; simp [rightEs]
 refine AT_loop_q [1,4] [1] (fun j s => ∃ k, k ≤ ta.length ∧ okT kd ta = okT kd (ta.drop k) ∧ j = ta.length - k ∧ s = { n := 108, tm := [(1, .lp 1 0), (4, .v (.int .i64 k) none)], bx := [(1, encE (.mk kd n (.mk tn tas tp) ta l p))], tb := [], sh := [], hint := [] }) (ta.length) (by first | rfl | simp) ?_ ?_
 exact ⟨0, by simp⟩
 rintro j s ⟨k, hk2, hc2, rfl, rfl⟩ K6 hK6
 refine AT_seq_k fun K7 hK7 => ?_
 refine sr fun Z z => ?_
 simp [row_map, hb10]
 refine z _ ?_
 clear z Z
 refine AT_cond (g := none) rfl (fun hb24 => ?_) (fun hb24 => ?_)
 simp [row_map, hb10] at hb24
 refine AT_skip ?_
 simp only [nrm, reduceIte, Nat.reduceEqDiff]
 refine hK7 _ ?_
 refine AT_seq_k fun K8 hK8 => ?_
 refine AT_block ?_
 cases h2 : (kd != 2)
 have h2b : (kd == 2) = true := by simpa using h2
 cases hrk : rightT ta[k]
 refine sr fun Z z => ?_
 have hdb := List.drop_eq_getElem_cons hb24
 have hm2 := wts_mem (l := ta) (t := ta[k]) (by simp)
 simp [row_map, hb10, hb24, h2, hrk]
 refine RVn_call (c_ref04x_Right g rnd ta[k] (by omega)) ?_
 simp [row_map, hb10, hb24, h2, hrk]
 repeat refine sg ?_
 refine z _ ?_
 clear z Z
 refine AT_cond (b := true) (g := none) (by simp [hb10, hb24, h2, hrk]) (fun hb => ?_) (fun hb => ?_)
 clear hb
 refine sr fun Z z => ?_
 simp [row_map, hb10, hb24, h2, hrk]
 refine z _ ?_
 clear z Z
 refine AT_ret ?_
 simp [row_map, Tryz.f41]
 (rw [rightE_ok, hL, hc2, hdb, okT_cons, h2b, hrk]; rfl)
 cases hb
 refine sr fun Z z => ?_
 have hdb := List.drop_eq_getElem_cons hb24
 have hm2 := wts_mem (l := ta) (t := ta[k]) (by simp)
 simp [row_map, hb10, hb24, h2, hrk]
 refine RVn_call (c_ref04x_Right g rnd ta[k] (by omega)) ?_
 simp [row_map, hb10, hb24, h2, hrk]
 repeat refine sg ?_
 refine z _ ?_
 clear z Z
 refine AT_cond (b := false) (g := none) (by simp [hb10, hb24, h2, hrk]) (fun hb => ?_) (fun hb => ?_)
 cases hb
 clear hb
 refine AT_skip ?_
 refine hK8 _ ?_
 refine AT_region_q fun Z z => ?_
 simp [row_map, hb10, hb24, h2, hrk]
 repeat refine sg ?_
 refine z _ ?_
 clear z Z
 simp only [nrm, reduceIte, Nat.reduceEqDiff]
 refine hK6 _ (by first | rfl | simp) (ta.length - (k+1)) (by omega) ?_
 refine ⟨k+1, by omega, ?_, by omega, by simp⟩
 rw [hc2, hdb, okT_cons, h2b, hrk]; rfl
 have h2b : (kd == 2) = false := by simpa using h2
 refine sr fun Z z => ?_
 have hdb := List.drop_eq_getElem_cons hb24
 have hm2 := wts_mem (l := ta) (t := ta[k]) (by simp)
 simp [row_map, hb10, hb24, h2]
 refine z _ ?_
 clear z Z
 refine AT_cond (b := true) (g := none) (by simp [hb10, hb24, h2]) (fun hb => ?_) (fun hb => ?_)
 clear hb
 refine sr fun Z z => ?_
 simp [row_map, hb10, hb24, h2]
 refine z _ ?_
 clear z Z
 refine AT_ret ?_
 simp [row_map, Tryz.f41]
 (rw [rightE_ok, hL, hc2, hdb, okT_cons, h2b]; rfl)
 cases hb
 simp [row_map, hb10] at hb24
 refine AT_exit ?_
 simp only [nrm, reduceIte, Nat.reduceEqDiff]
 refine hK5 _ ?_
 rcases kd_cases kd with hk | hk | hk | hk | hk | ⟨e1, e2, e3, e4, e5⟩
 have e1 : (kd == 1) = true := by rw [hk]; rfl
 have e2 : (kd == 2) = false := by rw [hk]; rfl
 have e3 : (kd == 3) = false := by rw [hk]; rfl
 have e4 : (kd == 4) = false := by rw [hk]; rfl
 have e5 : (kd == 5) = false := by rw [hk]; rfl
 cases hr : (rightT (.mk tn tas tp))
 cases ht : tn.isEmpty
 refine sr fun Z z => ?_
 have hT : okT kd ta = true := by rw [hc2, List.drop_eq_nil_of_le hb24]; rfl
 simp [row_map, hb10, hb24, e1, e2, e3, e4, e5, hr, ht]
 refine z _ ?_
 clear z Z
 refine AT_seq_k fun K9 hK9 => ?_
 refine sr fun Z z => ?_
 simp [row_map, hb10, hb24, e1, e2, e3, e4, e5, hr, ht]
 refine RVn_call (c_ref04x_Right g rnd (.mk tn tas tp) (by omega)) ?_
 simp [row_map, hb10, hb24, e1, e2, e3, e4, e5, hr, ht]
 refine z _ ?_
 clear z Z
 refine AT_cond (b := true) (g := none) (by simp [hb10, hb24, e1, e2, e3, e4, e5, hr, ht]) (fun hb => ?_) (fun hb => ?_)
 clear hb
 refine sr fun Z z => ?_
 simp [row_map, hb10, hb24, e1, e2, e3, e4, e5, hr, ht]
 refine z _ ?_
 clear z Z
 refine AT_ret ?_
 simp [row_map, Tryz.f41]
 (· rw [rightE_ok, hL, hT]; simp [bodyE, kidsE, typedE, e1, e2, e3, e4, e5, hr, ht])
 cases hb
 cases ha : tas.isEmpty
 have ha0 : 0 < tas.length := by cases tas with | nil => cases ha | cons x r => simp
 refine sr fun Z z => ?_
 have hT : okT kd ta = true := by rw [hc2, List.drop_eq_nil_of_le hb24]; rfl
 simp [row_map, hb10, hb24, e1, e2, e3, e4, e5, hr, ht, ha0]
 refine z _ ?_
 clear z Z
 refine AT_seq_k fun K10 hK10 => ?_
 refine sr fun Z z => ?_
 simp [row_map, hb10, hb24, e1, e2, e3, e4, e5, hr, ht, ha0]
 refine RVn_call (c_ref04x_Right g rnd (.mk tn tas tp) (by omega)) ?_
 simp [row_map, hb10, hb24, e1, e2, e3, e4, e5, hr, ht, ha0]
 refine z _ ?_
 clear z Z
 refine AT_cond (b := true) (g := none) (by simp [hb10, hb24, e1, e2, e3, e4, e5, hr, ht, ha0]) (fun hb => ?_) (fun hb => ?_)
 clear hb
 refine sr fun Z z => ?_
 simp [row_map, hb10, hb24, e1, e2, e3, e4, e5, hr, ht, ha0]
 refine z _ ?_
 clear z Z
 refine AT_ret ?_
 simp [row_map, Tryz.f41]
 (· rw [rightE_ok, hL, hT]; simp [bodyE, kidsE, typedE, e1, e2, e3, e4, e5, hr, ht, ha])
 cases hb
 have ha0 : ¬ 0 < tas.length := by rw [List.isEmpty_iff.1 ha]; decide
 cases hin : (isName n)
 refine sr fun Z z => ?_
 have hT : okT kd ta = true := by rw [hc2, List.drop_eq_nil_of_le hb24]; rfl
 simp [row_map, hb10, hb24, e1, e2, e3, e4, e5, hr, ht, ha0, hin]
 refine z _ ?_
 clear z Z
 refine AT_seq_k fun K11 hK11 => ?_
 refine sr fun Z z => ?_
 simp [row_map, hb10, hb24, e1, e2, e3, e4, e5, hr, ht, ha0, hin]
 refine RVn_call (c_ref04x_Right g rnd (.mk tn tas tp) (by omega)) ?_
 simp [row_map, hb10, hb24, e1, e2, e3, e4, e5, hr, ht, ha0, hin]
 refine z _ ?_
 clear z Z
 refine AT_cond (b := false) (g := none) (by simp [hb10, hb24, e1, e2, e3, e4, e5, hr, ht, ha0, hin]) (fun hb => ?_) (fun hb => ?_)
 cases hb
 clear hb
 refine AT_skip ?_
 simp only [nrm, reduceIte, Nat.reduceEqDiff]
 refine hK11 _ ?_
 refine AT_seq_k fun K12 hK12 => ?_
 refine sr fun Z z => ?_
 simp [row_map, hb10, hb24, e1, e2, e3, e4, e5, hr, ht, ha0, hin]
 refine RVn_call (c_ref01x_Is g rnd n (by omega)) ?_
 simp [row_map, hb10, hb24, e1, e2, e3, e4, e5, hr, ht, ha0, hin]
 repeat refine sg ?_
 refine z _ ?_
 clear z Z
 refine AT_cond (b := true) (g := none) (by simp [hb10, hb24, e1, e2, e3, e4, e5, hr, ht, ha0, hin]) (fun hb => ?_) (fun hb => ?_)
 clear hb
 refine sr fun Z z => ?_
 simp [row_map, hb10, hb24, e1, e2, e3, e4, e5, hr, ht, ha0, hin]
 refine z _ ?_
 clear z Z
 refine AT_ret ?_
 simp [row_map, Tryz.f41]
 (· rw [rightE_ok, hL, hT]; simp [bodyE, kidsE, typedE, e1, e2, e3, e4, e5, hr, ht, ha, hin])
 cases hb
 refine sr fun Z z => ?_
 have hT : okT kd ta = true := by rw [hc2, List.drop_eq_nil_of_le hb24]; rfl
 simp [row_map, hb10, hb24, e1, e2, e3, e4, e5, hr, ht, ha0, hin]
 refine z _ ?_
 clear z Z
 refine AT_seq_k fun K13 hK13 => ?_
 refine sr fun Z z => ?_
 simp [row_map, hb10, hb24, e1, e2, e3, e4, e5, hr, ht, ha0, hin]
 refine RVn_call (c_ref04x_Right g rnd (.mk tn tas tp) (by omega)) ?_
 simp [row_map, hb10, hb24, e1, e2, e3, e4, e5, hr, ht, ha0, hin]
 refine z _ ?_
 clear z Z
 refine AT_cond (b := false) (g := none) (by simp [hb10, hb24, e1, e2, e3, e4, e5, hr, ht, ha0, hin]) (fun hb => ?_) (fun hb => ?_)
 cases hb
 clear hb
 refine AT_skip ?_
 simp only [nrm, reduceIte, Nat.reduceEqDiff]
 refine hK13 _ ?_
 refine AT_seq_k fun K14 hK14 => ?_
 refine sr fun Z z => ?_
 simp [row_map, hb10, hb24, e1, e2, e3, e4, e5, hr, ht, ha0, hin]
 refine RVn_call (c_ref01x_Is g rnd n (by omega)) ?_
 simp [row_map, hb10, hb24, e1, e2, e3, e4, e5, hr, ht, ha0, hin]
 repeat refine sg ?_
 refine z _ ?_
 clear z Z
 refine AT_cond (b := false) (g := none) (by simp [hb10, hb24, e1, e2, e3, e4, e5, hr, ht, ha0, hin]) (fun hb => ?_) (fun hb => ?_)
 cases hb
 clear hb
 refine AT_skip ?_
 simp only [nrm, reduceIte, Nat.reduceEqDiff]
 refine hK14 _ ?_
 refine AT_seq_k fun K15 hK15 => ?_
 refine sr fun Z z => ?_
 simp [row_map, hb10, hb24, e1, e2, e3, e4, e5, hr, ht, ha0, hin]
 refine z _ ?_
 clear z Z
 refine AT_block ?_
 refine sr fun Z z => ?_
 simp [row_map, hb10, hb24, e1, e2, e3, e4, e5, hr, ht, ha0, hin]
 refine z _ ?_
 clear z Z
 refine AT_cond (b := true) (g := none) (by simp [hb10, hb24, e1, e2, e3, e4, e5, hr, ht, ha0, hin]) (fun hb => ?_) (fun hb => ?_)
 clear hb
 refine sr fun Z z => ?_
 simp [row_map, hb10, hb24, e1, e2, e3, e4, e5, hr, ht, ha0, hin]
 refine z _ ?_
 clear z Z
 refine AT_ret ?_
 simp [row_map, Tryz.f41]
 (· rw [rightE_ok, hL, hT]; simp [bodyE, kidsE, typedE, e1, e2, e3, e4, e5, hr, ht, ha, hin, len_eq0, len_ge1, len_eq1])
 cases hb
 refine sr fun Z z => ?_
 have hT : okT kd ta = true := by rw [hc2, List.drop_eq_nil_of_le hb24]; rfl
 simp [row_map, hb10, hb24, e1, e2, e3, e4, e5, hr]
 refine z _ ?_
 clear z Z
 refine AT_seq_k fun K16 hK16 => ?_
 refine sr fun Z z => ?_
 simp [row_map, hb10, hb24, e1, e2, e3, e4, e5, hr]
 refine RVn_call (c_ref04x_Right g rnd (.mk tn tas tp) (by omega)) ?_
 simp [row_map, hb10, hb24, e1, e2, e3, e4, e5, hr]
 refine z _ ?_
 clear z Z
 refine AT_cond (b := true) (g := none) (by simp [hb10, hb24, e1, e2, e3, e4, e5, hr]) (fun hb => ?_) (fun hb => ?_)
 clear hb
 refine sr fun Z z => ?_
 simp [row_map, hb10, hb24, e1, e2, e3, e4, e5, hr]
 refine z _ ?_
 clear z Z
 refine AT_ret ?_
 simp [row_map, Tryz.f41]
 (· rw [rightE_ok, hL, hT]; simp [bodyE, kidsE, typedE, e1, e2, e3, e4, e5, rightT_ne hr])
 cases hb
 have e1 : (kd == 1) = false := by rw [hk]; rfl
 have e2 : (kd == 2) = true := by rw [hk]; rfl
 have e3 : (kd == 3) = false := by rw [hk]; rfl
 have e4 : (kd == 4) = false := by rw [hk]; rfl
 have e5 : (kd == 5) = false := by rw [hk]; rfl
 cases hr : (rightT (.mk tn tas tp))
 cases ht : tn.isEmpty
 refine sr fun Z z => ?_
 have hT : okT kd ta = true := by rw [hc2, List.drop_eq_nil_of_le hb24]; rfl
 simp [row_map, hb10, hb24, e1, e2, e3, e4, e5, hr, ht]
 refine z _ ?_
 clear z Z
 refine AT_seq_k fun K17 hK17 => ?_
 refine sr fun Z z => ?_
 simp [row_map, hb10, hb24, e1, e2, e3, e4, e5, hr, ht]
 refine RVn_call (c_ref04x_Right g rnd (.mk tn tas tp) (by omega)) ?_
 simp [row_map, hb10, hb24, e1, e2, e3, e4, e5, hr, ht]
 refine z _ ?_
 clear z Z
 refine AT_cond (b := true) (g := none) (by simp [hb10, hb24, e1, e2, e3, e4, e5, hr, ht]) (fun hb => ?_) (fun hb => ?_)
 clear hb
 refine sr fun Z z => ?_
 simp [row_map, hb10, hb24, e1, e2, e3, e4, e5, hr, ht]
 refine z _ ?_
 clear z Z
 refine AT_ret ?_
 simp [row_map, Tryz.f41]
 (· rw [rightE_ok, hL, hT]; simp [bodyE, kidsE, typedE, e1, e2, e3, e4, e5, hr, ht])
 cases hb
 cases ha : tas.isEmpty
 have ha0 : 0 < tas.length := by cases tas with | nil => cases ha | cons x r => simp
 refine sr fun Z z => ?_
 have hT : okT kd ta = true := by rw [hc2, List.drop_eq_nil_of_le hb24]; rfl
 simp [row_map, hb10, hb24, e1, e2, e3, e4, e5, hr, ht, ha0]
 refine z _ ?_
 clear z Z
 refine AT_seq_k fun K18 hK18 => ?_
 refine sr fun Z z => ?_
 simp [row_map, hb10, hb24, e1, e2, e3, e4, e5, hr, ht, ha0]
 refine RVn_call (c_ref04x_Right g rnd (.mk tn tas tp) (by omega)) ?_
 simp [row_map, hb10, hb24, e1, e2, e3, e4, e5, hr, ht, ha0]
 refine z _ ?_
 clear z Z
 refine AT_cond (b := true) (g := none) (by simp [hb10, hb24, e1, e2, e3, e4, e5, hr, ht, ha0]) (fun hb => ?_) (fun hb => ?_)
 clear hb
 refine sr fun Z z => ?_
 simp [row_map, hb10, hb24, e1, e2, e3, e4, e5, hr, ht, ha0]
 refine z _ ?_
 clear z Z
 refine AT_ret ?_
 simp [row_map, Tryz.f41]
 (· rw [rightE_ok, hL, hT]; simp [bodyE, kidsE, typedE, e1, e2, e3, e4, e5, hr, ht, ha])
 cases hb
 have ha0 : ¬ 0 < tas.length := by rw [List.isEmpty_iff.1 ha]; decide
 cases hin : (isName n)
 refine sr fun Z z => ?_
 have hT : okT kd ta = true := by rw [hc2, List.drop_eq_nil_of_le hb24]; rfl
 simp [row_map, hb10, hb24, e1, e2, e3, e4, e5, hr, ht, ha0, hin]
 refine z _ ?_
 clear z Z
 refine AT_seq_k fun K19 hK19 => ?_
 refine sr fun Z z => ?_
 simp [row_map, hb10, hb24, e1, e2, e3, e4, e5, hr, ht, ha0, hin]
 refine RVn_call (c_ref04x_Right g rnd (.mk tn tas tp) (by omega)) ?_
 simp [row_map, hb10, hb24, e1, e2, e3, e4, e5, hr, ht, ha0, hin]
 refine z _ ?_
 clear z Z
 refine AT_cond (b := false) (g := none) (by simp [hb10, hb24, e1, e2, e3, e4, e5, hr, ht, ha0, hin]) (fun hb => ?_) (fun hb => ?_)
 cases hb
 clear hb
 refine AT_skip ?_
 simp only [nrm, reduceIte, Nat.reduceEqDiff]
 refine hK19 _ ?_
 refine AT_seq_k fun K20 hK20 => ?_
 refine sr fun Z z => ?_
 simp [row_map, hb10, hb24, e1, e2, e3, e4, e5, hr, ht, ha0, hin]
 refine RVn_call (c_ref01x_Is g rnd n (by omega)) ?_
 simp [row_map, hb10, hb24, e1, e2, e3, e4, e5, hr, ht, ha0, hin]
 repeat refine sg ?_
 refine z _ ?_
 clear z Z
 refine AT_cond (b := true) (g := none) (by simp [hb10, hb24, e1, e2, e3, e4, e5, hr, ht, ha0, hin]) (fun hb => ?_) (fun hb => ?_)
 clear hb
 refine sr fun Z z => ?_
 simp [row_map, hb10, hb24, e1, e2, e3, e4, e5, hr, ht, ha0, hin]
 refine z _ ?_
 clear z Z
 refine AT_ret ?_
 simp [row_map, Tryz.f41]
 (· rw [rightE_ok, hL, hT]; simp [bodyE, kidsE, typedE, e1, e2, e3, e4, e5, hr, ht, ha, hin])
 cases hb
 refine sr fun Z z => ?_
 have hT : okT kd ta = true := by rw [hc2, List.drop_eq_nil_of_le hb24]; rfl
 simp [row_map, hb10, hb24, e1, e2, e3, e4, e5, hr, ht, ha0, hin]
 refine z _ ?_
 clear z Z
 refine AT_seq_k fun K21 hK21 => ?_
 refine sr fun Z z => ?_
 simp [row_map, hb10, hb24, e1, e2, e3, e4, e5, hr, ht, ha0, hin]
 refine RVn_call (c_ref04x_Right g rnd (.mk tn tas tp) (by omega)) ?_
 simp [row_map, hb10, hb24, e1, e2, e3, e4, e5, hr, ht, ha0, hin]
 refine z _ ?_
 clear z Z
 refine AT_cond (b := false) (g := none) (by simp [hb10, hb24, e1, e2, e3, e4, e5, hr, ht, ha0, hin]) (fun hb => ?_) (fun hb => ?_)
 cases hb
 clear hb
 refine AT_skip ?_
 simp only [nrm, reduceIte, Nat.reduceEqDiff]
 refine hK21 _ ?_
 refine AT_seq_k fun K22 hK22 => ?_
 refine sr fun Z z => ?_
 simp [row_map, hb10, hb24, e1, e2, e3, e4, e5, hr, ht, ha0, hin]
 refine RVn_call (c_ref01x_Is g rnd n (by omega)) ?_
 simp [row_map, hb10, hb24, e1, e2, e3, e4, e5, hr, ht, ha0, hin]
 repeat refine sg ?_
 refine z _ ?_
 clear z Z
 refine AT_cond (b := false) (g := none) (by simp [hb10, hb24, e1, e2, e3, e4, e5, hr, ht, ha0, hin]) (fun hb => ?_) (fun hb => ?_)
 cases hb
 clear hb
 refine AT_skip ?_
 simp only [nrm, reduceIte, Nat.reduceEqDiff]
 refine hK22 _ ?_
 refine AT_seq_k fun K23 hK23 => ?_
 refine sr fun Z z => ?_
 simp [row_map, hb10, hb24, e1, e2, e3, e4, e5, hr, ht, ha0, hin]
 refine z _ ?_
 clear z Z
 refine AT_block ?_
 refine sr fun Z z => ?_
 simp [row_map, hb10, hb24, e1, e2, e3, e4, e5, hr, ht, ha0, hin]
 refine z _ ?_
 clear z Z
 refine AT_cond (b := false) (g := none) (by simp [hb10, hb24, e1, e2, e3, e4, e5, hr, ht, ha0, hin]) (fun hb => ?_) (fun hb => ?_)
 cases hb
 clear hb
 refine sr fun Z z => ?_
 simp [row_map, hb10, hb24, e1, e2, e3, e4, e5, hr, ht, ha0, hin]
 refine z _ ?_
 clear z Z
 refine AT_cond (b := true) (g := none) (by simp [hb10, hb24, e1, e2, e3, e4, e5, hr, ht, ha0, hin]) (fun hb => ?_) (fun hb => ?_)
 clear hb
 refine sr fun Z z => ?_
 simp [row_map, hb10, hb24, e1, e2, e3, e4, e5, hr, ht, ha0, hin]
 refine z _ ?_
 clear z Z
 refine AT_ret ?_
 simp [row_map, Tryz.f41]
 (· rw [rightE_ok, hL, hT]; simp [bodyE, kidsE, typedE, e1, e2, e3, e4, e5, hr, ht, ha, hin, len_eq0, len_ge1, len_eq1])
 cases hb
 refine sr fun Z z => ?_
 have hT : okT kd ta = true := by rw [hc2, List.drop_eq_nil_of_le hb24]; rfl
 simp [row_map, hb10, hb24, e1, e2, e3, e4, e5, hr]
 refine z _ ?_
 clear z Z
 refine AT_seq_k fun K24 hK24 => ?_
 refine sr fun Z z => ?_
 simp [row_map, hb10, hb24, e1, e2, e3, e4, e5, hr]
 refine RVn_call (c_ref04x_Right g rnd (.mk tn tas tp) (by omega)) ?_
 simp [row_map, hb10, hb24, e1, e2, e3, e4, e5, hr]
 refine z _ ?_
 clear z Z
 refine AT_cond (b := true) (g := none) (by simp [hb10, hb24, e1, e2, e3, e4, e5, hr]) (fun hb => ?_) (fun hb => ?_)
 clear hb
 refine sr fun Z z => ?_
 simp [row_map, hb10, hb24, e1, e2, e3, e4, e5, hr]
 refine z _ ?_
 clear z Z
 refine AT_ret ?_
 simp [row_map, Tryz.f41]
 (· rw [rightE_ok, hL, hT]; simp [bodyE, kidsE, typedE, e1, e2, e3, e4, e5, rightT_ne hr])
 cases hb
 have e1 : (kd == 1) = false := by rw [hk]; rfl
 have e2 : (kd == 2) = false := by rw [hk]; rfl
 have e3 : (kd == 3) = true := by rw [hk]; rfl
 have e4 : (kd == 4) = false := by rw [hk]; rfl
 have e5 : (kd == 5) = false := by rw [hk]; rfl
 cases hr : (rightT (.mk tn tas tp))
 refine sr fun Z z => ?_
 have hT : okT kd ta = true := by rw [hc2, List.drop_eq_nil_of_le hb24]; rfl
 simp [row_map, hb10, hb24, e1, e2, e3, e4, e5, hr]
 refine z _ ?_
 clear z Z
 refine AT_seq_k fun K25 hK25 => ?_
 refine sr fun Z z => ?_
 simp [row_map, hb10, hb24, e1, e2, e3, e4, e5, hr]
 refine RVn_call (c_ref04x_Right g rnd (.mk tn tas tp) (by omega)) ?_
 simp [row_map, hb10, hb24, e1, e2, e3, e4, e5, hr]
 refine z _ ?_
 clear z Z
 refine AT_cond (b := true) (g := none) (by simp [hb10, hb24, e1, e2, e3, e4, e5, hr]) (fun hb => ?_) (fun hb => ?_)
 clear hb
 refine sr fun Z z => ?_
 simp [row_map, hb10, hb24, e1, e2, e3, e4, e5, hr]
 refine z _ ?_
 clear z Z
 refine AT_ret ?_
 simp [row_map, Tryz.f41]
 (· rw [rightE_ok, hL, hT]; simp [bodyE, kidsE, typedE, e1, e2, e3, e4, e5, hr])
 cases hb
 cases hn : (n.isEmpty)
 have hn0 : ¬ n = [] := by rw [← List.isEmpty_iff, hn]; decide
 refine sr fun Z z => ?_
 have hT : okT kd ta = true := by rw [hc2, List.drop_eq_nil_of_le hb24]; rfl
 simp [row_map, hb10, hb24, e1, e2, e3, e4, e5, hr, hn]
 refine z _ ?_
 clear z Z
 refine AT_seq_k fun K26 hK26 => ?_
 refine sr fun Z z => ?_
 simp [row_map, hb10, hb24, e1, e2, e3, e4, e5, hr, hn]
 refine RVn_call (c_ref04x_Right g rnd (.mk tn tas tp) (by omega)) ?_
 simp [row_map, hb10, hb24, e1, e2, e3, e4, e5, hr, hn]
 refine z _ ?_
 clear z Z
 refine AT_cond (b := false) (g := none) (by simp [hb10, hb24, e1, e2, e3, e4, e5, hr, hn]) (fun hb => ?_) (fun hb => ?_)
 cases hb
 clear hb
 refine AT_skip ?_
 simp only [nrm, reduceIte, Nat.reduceEqDiff]
 refine hK26 _ ?_
 refine AT_seq_k fun K27 hK27 => ?_
 refine sr fun Z z => ?_
 simp [row_map, hb10, hb24, e1, e2, e3, e4, e5, hr, hn]
 refine z _ ?_
 clear z Z
 refine AT_cond (b := true) (g := none) (by simp [hb10, hb24, e1, e2, e3, e4, e5, hr, hn]) (fun hb => ?_) (fun hb => ?_)
 clear hb
 refine sr fun Z z => ?_
 simp [row_map, hb10, hb24, e1, e2, e3, e4, e5, hr, hn]
 refine z _ ?_
 clear z Z
 refine AT_ret ?_
 simp [row_map, Tryz.f41]
 (· rw [rightE_ok, hL, hT]; simp [bodyE, kidsE, typedE, e1, e2, e3, e4, e5, hr, hn])
 cases hb
 have hn0 : n = [] := List.isEmpty_iff.1 hn
 refine sr fun Z z => ?_
 have hT : okT kd ta = true := by rw [hc2, List.drop_eq_nil_of_le hb24]; rfl
 simp [row_map, hb10, hb24, e1, e2, e3, e4, e5, hr, hn]
 refine z _ ?_
 clear z Z
 refine AT_seq_k fun K28 hK28 => ?_
 refine sr fun Z z => ?_
 simp [row_map, hb10, hb24, e1, e2, e3, e4, e5, hr, hn]
 refine RVn_call (c_ref04x_Right g rnd (.mk tn tas tp) (by omega)) ?_
 simp [row_map, hb10, hb24, e1, e2, e3, e4, e5, hr, hn]
 refine z _ ?_
 clear z Z
 refine AT_cond (b := false) (g := none) (by simp [hb10, hb24, e1, e2, e3, e4, e5, hr, hn]) (fun hb => ?_) (fun hb => ?_)
 cases hb
 clear hb
 refine AT_skip ?_
 simp only [nrm, reduceIte, Nat.reduceEqDiff]
 refine hK28 _ ?_
 refine AT_seq_k fun K29 hK29 => ?_
 refine sr fun Z z => ?_
 simp [row_map, hb10, hb24, e1, e2, e3, e4, e5, hr, hn]
 refine z _ ?_
 clear z Z
 refine AT_cond (b := false) (g := none) (by simp [hb10, hb24, e1, e2, e3, e4, e5, hr, hn]) (fun hb => ?_) (fun hb => ?_)
 cases hb
 clear hb
 refine AT_skip ?_
 simp only [nrm, reduceIte, Nat.reduceEqDiff]
 refine hK29 _ ?_
 refine AT_seq_k fun K30 hK30 => ?_
 refine sr fun Z z => ?_
 simp [row_map, hb10, hb24, e1, e2, e3, e4, e5, hr, hn]
 refine z _ ?_
 clear z Z
 refine AT_block ?_
 refine sr fun Z z => ?_
 simp [row_map, hb10, hb24, e1, e2, e3, e4, e5, hr, hn]
 refine z _ ?_
 clear z Z
 refine AT_cond (b := false) (g := none) (by simp [hb10, hb24, e1, e2, e3, e4, e5, hr, hn]) (fun hb => ?_) (fun hb => ?_)
 cases hb
 clear hb
 refine sr fun Z z => ?_
 simp [row_map, hb10, hb24, e1, e2, e3, e4, e5, hr, hn]
 refine z _ ?_
 clear z Z
 refine AT_cond (b := false) (g := none) (by simp [hb10, hb24, e1, e2, e3, e4, e5, hr, hn]) (fun hb => ?_) (fun hb => ?_)
 cases hb
 clear hb
 refine sr fun Z z => ?_
 simp [row_map, hb10, hb24, e1, e2, e3, e4, e5, hr, hn]
 refine z _ ?_
 clear z Z
 refine AT_cond (b := true) (g := none) (by simp [hb10, hb24, e1, e2, e3, e4, e5, hr, hn]) (fun hb => ?_) (fun hb => ?_)
 clear hb
 refine sr fun Z z => ?_
 simp [row_map, hb10, hb24, e1, e2, e3, e4, e5, hr, hn]
 refine z _ ?_
 clear z Z
 refine AT_ret ?_
 simp [row_map, Tryz.f41]
 (· rw [rightE_ok, hL, hT]; simp [bodyE, kidsE, typedE, e1, e2, e3, e4, e5, hr, hn])
 cases hb
 have e1 : (kd == 1) = false := by rw [hk]; rfl
 have e2 : (kd == 2) = false := by rw [hk]; rfl
 have e3 : (kd == 3) = false := by rw [hk]; rfl
 have e4 : (kd == 4) = true := by rw [hk]; rfl
 have e5 : (kd == 5) = false := by rw [hk]; rfl
 cases hr : (rightT (.mk tn tas tp))
 cases ht : tn.isEmpty
 refine sr fun Z z => ?_
 have hT : okT kd ta = true := by rw [hc2, List.drop_eq_nil_of_le hb24]; rfl
 simp [row_map, hb10, hb24, e1, e2, e3, e4, e5, hr, ht]
 refine z _ ?_
 clear z Z
 refine AT_seq_k fun K31 hK31 => ?_
 refine sr fun Z z => ?_
 simp [row_map, hb10, hb24, e1, e2, e3, e4, e5, hr, ht]
 refine RVn_call (c_ref04x_Right g rnd (.mk tn tas tp) (by omega)) ?_
 simp [row_map, hb10, hb24, e1, e2, e3, e4, e5, hr, ht]
 refine z _ ?_
 clear z Z
 refine AT_cond (b := true) (g := none) (by simp [hb10, hb24, e1, e2, e3, e4, e5, hr, ht]) (fun hb => ?_) (fun hb => ?_)
 clear hb
 refine sr fun Z z => ?_
 simp [row_map, hb10, hb24, e1, e2, e3, e4, e5, hr, ht]
 refine z _ ?_
 clear z Z
 refine AT_ret ?_
 simp [row_map, Tryz.f41]
 (· rw [rightE_ok, hL, hT]; simp [bodyE, kidsE, typedE, e1, e2, e3, e4, e5, hr, ht])
 cases hb
 cases ha : tas.isEmpty
 have ha0 : 0 < tas.length := by cases tas with | nil => cases ha | cons x r => simp
 refine sr fun Z z => ?_
 have hT : okT kd ta = true := by rw [hc2, List.drop_eq_nil_of_le hb24]; rfl
 simp [row_map, hb10, hb24, e1, e2, e3, e4, e5, hr, ht, ha0]
 refine z _ ?_
 clear z Z
 refine AT_seq_k fun K32 hK32 => ?_
 refine sr fun Z z => ?_
 simp [row_map, hb10, hb24, e1, e2, e3, e4, e5, hr, ht, ha0]
 refine RVn_call (c_ref04x_Right g rnd (.mk tn tas tp) (by omega)) ?_
 simp [row_map, hb10, hb24, e1, e2, e3, e4, e5, hr, ht, ha0]
 refine z _ ?_
 clear z Z
 refine AT_cond (b := true) (g := none) (by simp [hb10, hb24, e1, e2, e3, e4, e5, hr, ht, ha0]) (fun hb => ?_) (fun hb => ?_)
 clear hb
 refine sr fun Z z => ?_
 simp [row_map, hb10, hb24, e1, e2, e3, e4, e5, hr, ht, ha0]
 refine z _ ?_
 clear z Z
 refine AT_ret ?_
 simp [row_map, Tryz.f41]
 (· rw [rightE_ok, hL, hT]; simp [bodyE, kidsE, typedE, e1, e2, e3, e4, e5, hr, ht, ha])
 cases hb
 have ha0 : ¬ 0 < tas.length := by rw [List.isEmpty_iff.1 ha]; decide
 cases hin : (isName n)
 refine sr fun Z z => ?_
 have hT : okT kd ta = true := by rw [hc2, List.drop_eq_nil_of_le hb24]; rfl
 simp [row_map, hb10, hb24, e1, e2, e3, e4, e5, hr, ht, ha0, hin]
 refine z _ ?_
 clear z Z
 refine AT_seq_k fun K33 hK33 => ?_
 refine sr fun Z z => ?_
 simp [row_map, hb10, hb24, e1, e2, e3, e4, e5, hr, ht, ha0, hin]
 refine RVn_call (c_ref04x_Right g rnd (.mk tn tas tp) (by omega)) ?_
 simp [row_map, hb10, hb24, e1, e2, e3, e4, e5, hr, ht, ha0, hin]
 refine z _ ?_
 clear z Z
 refine AT_cond (b := false) (g := none) (by simp [hb10, hb24, e1, e2, e3, e4, e5, hr, ht, ha0, hin]) (fun hb => ?_) (fun hb => ?_)
 cases hb
 clear hb
 refine AT_skip ?_
 simp only [nrm, reduceIte, Nat.reduceEqDiff]
 refine hK33 _ ?_
 refine AT_seq_k fun K34 hK34 => ?_
 refine sr fun Z z => ?_
 simp [row_map, hb10, hb24, e1, e2, e3, e4, e5, hr, ht, ha0, hin]
 refine RVn_call (c_ref01x_Is g rnd n (by omega)) ?_
 simp [row_map, hb10, hb24, e1, e2, e3, e4, e5, hr, ht, ha0, hin]
 repeat refine sg ?_
 refine z _ ?_
 clear z Z
 refine AT_cond (b := true) (g := none) (by simp [hb10, hb24, e1, e2, e3, e4, e5, hr, ht, ha0, hin]) (fun hb => ?_) (fun hb => ?_)
 clear hb
 refine sr fun Z z => ?_
 simp [row_map, hb10, hb24, e1, e2, e3, e4, e5, hr, ht, ha0, hin]
 refine z _ ?_
 clear z Z
 refine AT_ret ?_
 simp [row_map, Tryz.f41]
 (· rw [rightE_ok, hL, hT]; simp [bodyE, kidsE, typedE, e1, e2, e3, e4, e5, hr, ht, ha, hin])
 cases hb
 refine sr fun Z z => ?_
 have hT : okT kd ta = true := by rw [hc2, List.drop_eq_nil_of_le hb24]; rfl
 simp [row_map, hb10, hb24, e1, e2, e3, e4, e5, hr, ht, ha0, hin]
 refine z _ ?_
 clear z Z
 refine AT_seq_k fun K35 hK35 => ?_
 refine sr fun Z z => ?_
 simp [row_map, hb10, hb24, e1, e2, e3, e4, e5, hr, ht, ha0, hin]
 refine RVn_call (c_ref04x_Right g rnd (.mk tn tas tp) (by omega)) ?_
 simp [row_map, hb10, hb24, e1, e2, e3, e4, e5, hr, ht, ha0, hin]
 refine z _ ?_
 clear z Z
 refine AT_cond (b := false) (g := none) (by simp [hb10, hb24, e1, e2, e3, e4, e5, hr, ht, ha0, hin]) (fun hb => ?_) (fun hb => ?_)
 cases hb
 clear hb
 refine AT_skip ?_
 simp only [nrm, reduceIte, Nat.reduceEqDiff]
 refine hK35 _ ?_
 refine AT_seq_k fun K36 hK36 => ?_
 refine sr fun Z z => ?_
 simp [row_map, hb10, hb24, e1, e2, e3, e4, e5, hr, ht, ha0, hin]
 refine RVn_call (c_ref01x_Is g rnd n (by omega)) ?_
 simp [row_map, hb10, hb24, e1, e2, e3, e4, e5, hr, ht, ha0, hin]
 repeat refine sg ?_
 refine z _ ?_
 clear z Z
 refine AT_cond (b := false) (g := none) (by simp [hb10, hb24, e1, e2, e3, e4, e5, hr, ht, ha0, hin]) (fun hb => ?_) (fun hb => ?_)
 cases hb
 clear hb
 refine AT_skip ?_
 simp only [nrm, reduceIte, Nat.reduceEqDiff]
 refine hK36 _ ?_
 refine AT_seq_k fun K37 hK37 => ?_
 refine sr fun Z z => ?_
 simp [row_map, hb10, hb24, e1, e2, e3, e4, e5, hr, ht, ha0, hin]
 refine z _ ?_
 clear z Z
 refine AT_block ?_
 refine sr fun Z z => ?_
 simp [row_map, hb10, hb24, e1, e2, e3, e4, e5, hr, ht, ha0, hin]
 refine z _ ?_
 clear z Z
 refine AT_cond (b := false) (g := none) (by simp [hb10, hb24, e1, e2, e3, e4, e5, hr, ht, ha0, hin]) (fun hb => ?_) (fun hb => ?_)
 cases hb
 clear hb
 refine sr fun Z z => ?_
 simp [row_map, hb10, hb24, e1, e2, e3, e4, e5, hr, ht, ha0, hin]
 refine z _ ?_
 clear z Z
 refine AT_cond (b := false) (g := none) (by simp [hb10, hb24, e1, e2, e3, e4, e5, hr, ht, ha0, hin]) (fun hb => ?_) (fun hb => ?_)
 cases hb
 clear hb
 refine sr fun Z z => ?_
 simp [row_map, hb10, hb24, e1, e2, e3, e4, e5, hr, ht, ha0, hin]
 refine z _ ?_
 clear z Z
 refine AT_cond (b := false) (g := none) (by simp [hb10, hb24, e1, e2, e3, e4, e5, hr, ht, ha0, hin]) (fun hb => ?_) (fun hb => ?_)
 cases hb
 clear hb
 refine AT_seq_k fun K38 hK38 => ?_
 refine sr fun Z z => ?_
 simp [row_map, hb10, hb24, e1, e2, e3, e4, e5, hr, ht, ha0, hin]
 refine z _ ?_
 clear z Z
 refine AT_cond (b := true) (g := none) (by simp [hb10, hb24, e1, e2, e3, e4, e5, hr, ht, ha0, hin]) (fun hb => ?_) (fun hb => ?_)
 clear hb
 refine AT_skip ?_
 simp only [nrm, reduceIte, Nat.reduceEqDiff]
 refine hK38 _ ?_
 refine AT_cond (b := true) (g := none) (by simp [hb10, hb24, e1, e2, e3, e4, e5, hr, ht, ha0, hin]) (fun hb => ?_) (fun hb => ?_)
 clear hb
 refine sr fun Z z => ?_
 simp [row_map, hb10, hb24, e1, e2, e3, e4, e5, hr, ht, ha0, hin]
 refine z _ ?_
 clear z Z
 refine AT_ret ?_
 simp [row_map, Tryz.f41]
 (· rw [rightE_ok, hL, hT]; simp [bodyE, kidsE, typedE, e1, e2, e3, e4, e5, hr, ht, ha, hin, len_eq0, len_ge1, len_eq1])
 cases hb
 cases hb
 refine sr fun Z z => ?_
 have hT : okT kd ta = true := by rw [hc2, List.drop_eq_nil_of_le hb24]; rfl
 simp [row_map, hb10, hb24, e1, e2, e3, e4, e5, hr]
 refine z _ ?_
 clear z Z
 refine AT_seq_k fun K39 hK39 => ?_
 refine sr fun Z z => ?_
 simp [row_map, hb10, hb24, e1, e2, e3, e4, e5, hr]
 refine RVn_call (c_ref04x_Right g rnd (.mk tn tas tp) (by omega)) ?_
 simp [row_map, hb10, hb24, e1, e2, e3, e4, e5, hr]
 refine z _ ?_
 clear z Z
 refine AT_cond (b := true) (g := none) (by simp [hb10, hb24, e1, e2, e3, e4, e5, hr]) (fun hb => ?_) (fun hb => ?_)
 clear hb
 refine sr fun Z z => ?_
 simp [row_map, hb10, hb24, e1, e2, e3, e4, e5, hr]
 refine z _ ?_
 clear z Z
 refine AT_ret ?_
 simp [row_map, Tryz.f41]
 (· rw [rightE_ok, hL, hT]; simp [bodyE, kidsE, typedE, e1, e2, e3, e4, e5, rightT_ne hr])
 cases hb
 have e1 : (kd == 1) = false := by rw [hk]; rfl
 have e2 : (kd == 2) = false := by rw [hk]; rfl
 have e3 : (kd == 3) = false := by rw [hk]; rfl
 have e4 : (kd == 4) = false := by rw [hk]; rfl
 have e5 : (kd == 5) = true := by rw [hk]; rfl
 cases hr : (rightT (.mk tn tas tp))
 refine sr fun Z z => ?_
 have hT : okT kd ta = true := by rw [hc2, List.drop_eq_nil_of_le hb24]; rfl
 simp [row_map, hb10, hb24, e1, e2, e3, e4, e5, hr]
 refine z _ ?_
 clear z Z
 refine AT_seq_k fun K40 hK40 => ?_
 refine sr fun Z z => ?_
 simp [row_map, hb10, hb24, e1, e2, e3, e4, e5, hr]
 refine RVn_call (c_ref04x_Right g rnd (.mk tn tas tp) (by omega)) ?_
 simp [row_map, hb10, hb24, e1, e2, e3, e4, e5, hr]
 refine z _ ?_
 clear z Z
 refine AT_cond (b := true) (g := none) (by simp [hb10, hb24, e1, e2, e3, e4, e5, hr]) (fun hb => ?_) (fun hb => ?_)
 clear hb
 refine sr fun Z z => ?_
 simp [row_map, hb10, hb24, e1, e2, e3, e4, e5, hr]
 refine z _ ?_
 clear z Z
 refine AT_ret ?_
 simp [row_map, Tryz.f41]
 (· rw [rightE_ok, hL, hT]; simp [bodyE, kidsE, typedE, e1, e2, e3, e4, e5, hr])
 cases hb
 cases hn : (n.isEmpty)
 have hn0 : ¬ n = [] := by rw [← List.isEmpty_iff, hn]; decide
 refine sr fun Z z => ?_
 have hT : okT kd ta = true := by rw [hc2, List.drop_eq_nil_of_le hb24]; rfl
 simp [row_map, hb10, hb24, e1, e2, e3, e4, e5, hr, hn]
 refine z _ ?_
 clear z Z
 refine AT_seq_k fun K41 hK41 => ?_
 refine sr fun Z z => ?_
 simp [row_map, hb10, hb24, e1, e2, e3, e4, e5, hr, hn]
 refine RVn_call (c_ref04x_Right g rnd (.mk tn tas tp) (by omega)) ?_
 simp [row_map, hb10, hb24, e1, e2, e3, e4, e5, hr, hn]
 refine z _ ?_
 clear z Z
 refine AT_cond (b := false) (g := none) (by simp [hb10, hb24, e1, e2, e3, e4, e5, hr, hn]) (fun hb => ?_) (fun hb => ?_)
 cases hb
 clear hb
 refine AT_skip ?_
 simp only [nrm, reduceIte, Nat.reduceEqDiff]
 refine hK41 _ ?_
 refine AT_seq_k fun K42 hK42 => ?_
 refine sr fun Z z => ?_
 simp [row_map, hb10, hb24, e1, e2, e3, e4, e5, hr, hn]
 refine z _ ?_
 clear z Z
 refine AT_cond (b := true) (g := none) (by simp [hb10, hb24, e1, e2, e3, e4, e5, hr, hn]) (fun hb => ?_) (fun hb => ?_)
 clear hb
 refine sr fun Z z => ?_
 simp [row_map, hb10, hb24, e1, e2, e3, e4, e5, hr, hn]
 refine z _ ?_
 clear z Z
 refine AT_ret ?_
 simp [row_map, Tryz.f41]
 (· rw [rightE_ok, hL, hT]; simp [bodyE, kidsE, typedE, e1, e2, e3, e4, e5, hr, hn])
 cases hb
 have hn0 : n = [] := List.isEmpty_iff.1 hn
 refine sr fun Z z => ?_
 have hT : okT kd ta = true := by rw [hc2, List.drop_eq_nil_of_le hb24]; rfl
 simp [row_map, hb10, hb24, e1, e2, e3, e4, e5, hr, hn]
 refine z _ ?_
 clear z Z
 refine AT_seq_k fun K43 hK43 => ?_
 refine sr fun Z z => ?_
 simp [row_map, hb10, hb24, e1, e2, e3, e4, e5, hr, hn]
 refine RVn_call (c_ref04x_Right g rnd (.mk tn tas tp) (by omega)) ?_
 simp [row_map, hb10, hb24, e1, e2, e3, e4, e5, hr, hn]
 refine z _ ?_
 clear z Z
 refine AT_cond (b := false) (g := none) (by simp [hb10, hb24, e1, e2, e3, e4, e5, hr, hn]) (fun hb => ?_) (fun hb => ?_)
 cases hb
 clear hb
 refine AT_skip ?_
 simp only [nrm, reduceIte, Nat.reduceEqDiff]
 refine hK43 _ ?_
 refine AT_seq_k fun K44 hK44 => ?_
 refine sr fun Z z => ?_
 simp [row_map, hb10, hb24, e1, e2, e3, e4, e5, hr, hn]
 refine z _ ?_
 clear z Z
 refine AT_cond (b := false) (g := none) (by simp [hb10, hb24, e1, e2, e3, e4, e5, hr, hn]) (fun hb => ?_) (fun hb => ?_)
 cases hb
 clear hb
 refine AT_skip ?_
 simp only [nrm, reduceIte, Nat.reduceEqDiff]
 refine hK44 _ ?_
 refine AT_seq_k fun K45 hK45 => ?_
 refine sr fun Z z => ?_
 simp [row_map, hb10, hb24, e1, e2, e3, e4, e5, hr, hn]
 refine z _ ?_
 clear z Z
 refine AT_block ?_
 refine sr fun Z z => ?_
 simp [row_map, hb10, hb24, e1, e2, e3, e4, e5, hr, hn]
 refine z _ ?_
 clear z Z
 refine AT_cond (b := false) (g := none) (by simp [hb10, hb24, e1, e2, e3, e4, e5, hr, hn]) (fun hb => ?_) (fun hb => ?_)
 cases hb
 clear hb
 refine sr fun Z z => ?_
 simp [row_map, hb10, hb24, e1, e2, e3, e4, e5, hr, hn]
 refine z _ ?_
 clear z Z
 refine AT_cond (b := false) (g := none) (by simp [hb10, hb24, e1, e2, e3, e4, e5, hr, hn]) (fun hb => ?_) (fun hb => ?_)
 cases hb
 clear hb
 refine sr fun Z z => ?_
 simp [row_map, hb10, hb24, e1, e2, e3, e4, e5, hr, hn]
 refine z _ ?_
 clear z Z
 refine AT_cond (b := false) (g := none) (by simp [hb10, hb24, e1, e2, e3, e4, e5, hr, hn]) (fun hb => ?_) (fun hb => ?_)
 cases hb
 clear hb
 refine AT_seq_k fun K46 hK46 => ?_
 refine sr fun Z z => ?_
 simp [row_map, hb10, hb24, e1, e2, e3, e4, e5, hr, hn]
 refine z _ ?_
 clear z Z
 refine AT_cond (b := false) (g := none) (by simp [hb10, hb24, e1, e2, e3, e4, e5, hr, hn]) (fun hb => ?_) (fun hb => ?_)
 cases hb
 clear hb
 refine AT_region_q fun Z z => ?_
 simp [row_map, hb10, hb24, e1, e2, e3, e4, e5, hr, hn]
 refine z _ ?_
 clear z Z
 simp only [nrm, reduceIte, Nat.reduceEqDiff]
 refine hK46 _ ?_
 refine AT_cond (b := true) (g := none) (by simp [hb10, hb24, e1, e2, e3, e4, e5, hr, hn]) (fun hb => ?_) (fun hb => ?_)
 clear hb
 refine sr fun Z z => ?_
 simp [row_map, hb10, hb24, e1, e2, e3, e4, e5, hr, hn]
 refine z _ ?_
 clear z Z
 refine AT_ret ?_
 simp [row_map, Tryz.f41]
 (· rw [rightE_ok, hL, hT]; simp [bodyE, kidsE, typedE, e1, e2, e3, e4, e5, hr, hn, len_eq0, len_ge1, len_eq1])
 cases hb
 cases hr : (rightT (.mk tn tas tp))
 cases ht : tn.isEmpty
 refine sr fun Z z => ?_
 have hT : okT kd ta = true := by rw [hc2, List.drop_eq_nil_of_le hb24]; rfl
 simp [row_map, hb10, hb24, e1, e2, e3, e4, e5, hr, ht]
 refine z _ ?_
 clear z Z
 refine AT_seq_k fun K47 hK47 => ?_
 refine sr fun Z z => ?_
 simp [row_map, hb10, hb24, e1, e2, e3, e4, e5, hr, ht]
 refine RVn_call (c_ref04x_Right g rnd (.mk tn tas tp) (by omega)) ?_
 simp [row_map, hb10, hb24, e1, e2, e3, e4, e5, hr, ht]
 refine z _ ?_
 clear z Z
 refine AT_cond (b := true) (g := none) (by simp [hb10, hb24, e1, e2, e3, e4, e5, hr, ht]) (fun hb => ?_) (fun hb => ?_)
 clear hb
 refine sr fun Z z => ?_
 simp [row_map, hb10, hb24, e1, e2, e3, e4, e5, hr, ht]
 refine z _ ?_
 clear z Z
 refine AT_ret ?_
 simp [row_map, Tryz.f41]
 (· rw [rightE_ok, hL, hT]; simp [bodyE, kidsE, typedE, e1, e2, e3, e4, e5, hr])
 cases hb
 cases ha : tas.isEmpty
 have ha0 : 0 < tas.length := by cases tas with | nil => cases ha | cons x r => simp
 refine sr fun Z z => ?_
 have hT : okT kd ta = true := by rw [hc2, List.drop_eq_nil_of_le hb24]; rfl
 simp [row_map, hb10, hb24, e1, e2, e3, e4, e5, hr, ht, ha0]
 refine z _ ?_
 clear z Z
 refine AT_seq_k fun K48 hK48 => ?_
 refine sr fun Z z => ?_
 simp [row_map, hb10, hb24, e1, e2, e3, e4, e5, hr, ht, ha0]
 refine RVn_call (c_ref04x_Right g rnd (.mk tn tas tp) (by omega)) ?_
 simp [row_map, hb10, hb24, e1, e2, e3, e4, e5, hr, ht, ha0]
 refine z _ ?_
 clear z Z
 refine AT_cond (b := true) (g := none) (by simp [hb10, hb24, e1, e2, e3, e4, e5, hr, ht, ha0]) (fun hb => ?_) (fun hb => ?_)
 clear hb
 refine sr fun Z z => ?_
 simp [row_map, hb10, hb24, e1, e2, e3, e4, e5, hr, ht, ha0]
 refine z _ ?_
 clear z Z
 refine AT_ret ?_
 simp [row_map, Tryz.f41]
 (· rw [rightE_ok, hL, hT]; simp [bodyE, kidsE, typedE, e1, e2, e3, e4, e5, hr])
 cases hb
 have ha0 : ¬ 0 < tas.length := by rw [List.isEmpty_iff.1 ha]; decide
 cases hin : (isName n)
 refine sr fun Z z => ?_
 have hT : okT kd ta = true := by rw [hc2, List.drop_eq_nil_of_le hb24]; rfl
 simp [row_map, hb10, hb24, e1, e2, e3, e4, e5, hr, ht, ha0, hin]
 refine z _ ?_
 clear z Z
 refine AT_seq_k fun K49 hK49 => ?_
 refine sr fun Z z => ?_
 simp [row_map, hb10, hb24, e1, e2, e3, e4, e5, hr, ht, ha0, hin]
 refine RVn_call (c_ref04x_Right g rnd (.mk tn tas tp) (by omega)) ?_
 simp [row_map, hb10, hb24, e1, e2, e3, e4, e5, hr, ht, ha0, hin]
 refine z _ ?_
 clear z Z
 refine AT_cond (b := false) (g := none) (by simp [hb10, hb24, e1, e2, e3, e4, e5, hr, ht, ha0, hin]) (fun hb => ?_) (fun hb => ?_)
 cases hb
 clear hb
 refine AT_skip ?_
 simp only [nrm, reduceIte, Nat.reduceEqDiff]
 refine hK49 _ ?_
 refine AT_seq_k fun K50 hK50 => ?_
 refine sr fun Z z => ?_
 simp [row_map, hb10, hb24, e1, e2, e3, e4, e5, hr, ht, ha0, hin]
 refine RVn_call (c_ref01x_Is g rnd n (by omega)) ?_
 simp [row_map, hb10, hb24, e1, e2, e3, e4, e5, hr, ht, ha0, hin]
 repeat refine sg ?_
 refine z _ ?_
 clear z Z
 refine AT_cond (b := true) (g := none) (by simp [hb10, hb24, e1, e2, e3, e4, e5, hr, ht, ha0, hin]) (fun hb => ?_) (fun hb => ?_)
 clear hb
 refine sr fun Z z => ?_
 simp [row_map, hb10, hb24, e1, e2, e3, e4, e5, hr, ht, ha0, hin]
 refine z _ ?_
 clear z Z
 refine AT_ret ?_
 simp [row_map, Tryz.f41]
 (· rw [rightE_ok, hL, hT]; simp [bodyE, kidsE, typedE, e1, e2, e3, e4, e5, hr])
 cases hb
 refine sr fun Z z => ?_
 have hT : okT kd ta = true := by rw [hc2, List.drop_eq_nil_of_le hb24]; rfl
 simp [row_map, hb10, hb24, e1, e2, e3, e4, e5, hr, ht, ha0, hin]
 refine z _ ?_
 clear z Z
 refine AT_seq_k fun K51 hK51 => ?_
 refine sr fun Z z => ?_
 simp [row_map, hb10, hb24, e1, e2, e3, e4, e5, hr, ht, ha0, hin]
 refine RVn_call (c_ref04x_Right g rnd (.mk tn tas tp) (by omega)) ?_
 simp [row_map, hb10, hb24, e1, e2, e3, e4, e5, hr, ht, ha0, hin]
 refine z _ ?_
 clear z Z
 refine AT_cond (b := false) (g := none) (by simp [hb10, hb24, e1, e2, e3, e4, e5, hr, ht, ha0, hin]) (fun hb => ?_) (fun hb => ?_)
 cases hb
 clear hb
 refine AT_skip ?_
 simp only [nrm, reduceIte, Nat.reduceEqDiff]
 refine hK51 _ ?_
 refine AT_seq_k fun K52 hK52 => ?_
 refine sr fun Z z => ?_
 simp [row_map, hb10, hb24, e1, e2, e3, e4, e5, hr, ht, ha0, hin]
 refine RVn_call (c_ref01x_Is g rnd n (by omega)) ?_
 simp [row_map, hb10, hb24, e1, e2, e3, e4, e5, hr, ht, ha0, hin]
 repeat refine sg ?_
 refine z _ ?_
 clear z Z
 refine AT_cond (b := false) (g := none) (by simp [hb10, hb24, e1, e2, e3, e4, e5, hr, ht, ha0, hin]) (fun hb => ?_) (fun hb => ?_)
 cases hb
 clear hb
 refine AT_skip ?_
 simp only [nrm, reduceIte, Nat.reduceEqDiff]
 refine hK52 _ ?_
 refine AT_seq_k fun K53 hK53 => ?_
 refine sr fun Z z => ?_
 simp [row_map, hb10, hb24, e1, e2, e3, e4, e5, hr, ht, ha0, hin]
 refine z _ ?_
 clear z Z
 refine AT_block ?_
 refine sr fun Z z => ?_
 simp [row_map, hb10, hb24, e1, e2, e3, e4, e5, hr, ht, ha0, hin]
 refine z _ ?_
 clear z Z
 refine AT_cond (b := false) (g := none) (by simp [hb10, hb24, e1, e2, e3, e4, e5, hr, ht, ha0, hin]) (fun hb => ?_) (fun hb => ?_)
 cases hb
 clear hb
 refine sr fun Z z => ?_
 simp [row_map, hb10, hb24, e1, e2, e3, e4, e5, hr, ht, ha0, hin]
 refine z _ ?_
 clear z Z
 refine AT_cond (b := false) (g := none) (by simp [hb10, hb24, e1, e2, e3, e4, e5, hr, ht, ha0, hin]) (fun hb => ?_) (fun hb => ?_)
 cases hb
 clear hb
 refine sr fun Z z => ?_
 simp [row_map, hb10, hb24, e1, e2, e3, e4, e5, hr, ht, ha0, hin]
 refine z _ ?_
 clear z Z
 refine AT_cond (b := false) (g := none) (by simp [hb10, hb24, e1, e2, e3, e4, e5, hr, ht, ha0, hin]) (fun hb => ?_) (fun hb => ?_)
 cases hb
 clear hb
 refine AT_seq_k fun K54 hK54 => ?_
 refine sr fun Z z => ?_
 simp [row_map, hb10, hb24, e1, e2, e3, e4, e5, hr, ht, ha0, hin]
 refine z _ ?_
 clear z Z
 refine AT_cond (b := false) (g := none) (by simp [hb10, hb24, e1, e2, e3, e4, e5, hr, ht, ha0, hin]) (fun hb => ?_) (fun hb => ?_)
 cases hb
 clear hb
 refine AT_region_q fun Z z => ?_
 simp [row_map, hb10, hb24, e1, e2, e3, e4, e5, hr, ht, ha0, hin]
 refine z _ ?_
 clear z Z
 simp only [nrm, reduceIte, Nat.reduceEqDiff]
 refine hK54 _ ?_
 refine AT_cond (b := false) (g := none) (by simp [hb10, hb24, e1, e2, e3, e4, e5, hr, ht, ha0, hin]) (fun hb => ?_) (fun hb => ?_)
 cases hb
 clear hb
 refine AT_skip ?_
 refine hK53 _ ?_
 refine sr fun Z z => ?_
 simp [row_map, hb10, hb24, e1, e2, e3, e4, e5, hr, ht, ha0, hin]
 refine z _ ?_
 clear z Z
 refine AT_ret ?_
 simp [row_map, Tryz.f41]
 (· rw [rightE_ok, hL, hT]; simp [bodyE, kidsE, typedE, e1, e2, e3, e4, e5, hr])
 refine sr fun Z z => ?_
 have hT : okT kd ta = true := by rw [hc2, List.drop_eq_nil_of_le hb24]; rfl
 simp [row_map, hb10, hb24, e1, e2, e3, e4, e5, hr]
 refine z _ ?_
 clear z Z
 refine AT_seq_k fun K55 hK55 => ?_
 refine sr fun Z z => ?_
 simp [row_map, hb10, hb24, e1, e2, e3, e4, e5, hr]
 refine RVn_call (c_ref04x_Right g rnd (.mk tn tas tp) (by omega)) ?_
 simp [row_map, hb10, hb24, e1, e2, e3, e4, e5, hr]
 refine z _ ?_
 clear z Z
 refine AT_cond (b := true) (g := none) (by simp [hb10, hb24, e1, e2, e3, e4, e5, hr]) (fun hb => ?_) (fun hb => ?_)
 clear hb
 refine sr fun Z z => ?_
 simp [row_map, hb10, hb24, e1, e2, e3, e4, e5, hr]
 refine z _ ?_
 clear z Z
 refine AT_ret ?_
 simp [row_map, Tryz.f41]
 (· rw [rightE_ok, hL, hT]; simp [bodyE, kidsE, typedE, e1, e2, e3, e4, e5, hr])
 cases hb

end Go.Proofs.YtdifpfehijnmiaaGreatDoor
end

section
/- Contracts: right declarations. -/
set_option linter.all false
set_option maxHeartbeats 1000000
set_option maxRecDepth 10000
namespace Go.Proofs.YtdifpfehijnmiaaGreatDoor
open Go Go.Pv
variable (g : Nat → Option (List AV)) (rnd : Bool)

theorem c_decl_rightFormal (a : Fm) (hw : wtF a ≤ 1000000000) (hres : g 0 = some reservedA) : Valid Tryz.prog (G0 g rnd) 33 [.agg (encF a)] (.bool (rightF a)) := by
 have hw2 : a.name.length + 1 + wt a.ty ≤ 1000000000 := hw
 refine valid_of [] Tryz.func33 rfl (by kernel_rfl) ?_
 refine sr fun Z z => ?_
 simp [encF, Tryz.f33]
 refine z _ ?_
 clear z Z
 cases h1 : isName a.name
 refine sr fun Z z => ?_
 simp [encF, h1]
 refine RVn_call (c_name_Is g rnd a.name (by omega) hres) ?_
 simp [encF, h1]
 repeat refine sg ?_
 refine z _ ?_
 clear z Z
 refine AT_ret ?_
 simp [encF, Tryz.f33]
 simp [rightF, h1]
 refine sr fun Z z => ?_
 simp [encF, h1]
 refine RVn_call (c_name_Is g rnd a.name (by omega) hres) ?_
 simp [encF, h1]
 repeat refine sg ?_
 refine RVn_call ((by have h := c_types_Right g rnd a.ty (by omega) hres; simp only [encTy_def] at h; exact h)) ?_
 simp [encF, h1]
 repeat refine sg ?_
 refine z _ ?_
 clear z Z
 refine AT_ret ?_
 simp [encF, Tryz.f33]
 simp [rightF, h1]

theorem c_decl_rightParam (a : Fm) (hw : wtF a ≤ 1000000000) (hres : g 0 = some reservedA) : Valid Tryz.prog (G0 g rnd) 35 [.agg (encF a)] (.bool (rightF a)) := by
 have hw2 : a.name.length + 1 + wt a.ty ≤ 1000000000 := hw
 refine valid_of [] Tryz.func35 rfl (by kernel_rfl) ?_
 refine sr fun Z z => ?_
 simp [encF, Tryz.f35]
 refine z _ ?_
 clear z Z
 cases h1 : isName a.name
 refine sr fun Z z => ?_
 simp [encF, h1]
 refine RVn_call (c_name_Is g rnd a.name (by omega) hres) ?_
 simp [encF, h1]
 repeat refine sg ?_
 refine z _ ?_
 clear z Z
 refine AT_ret ?_
 simp [encF, Tryz.f35]
 simp [rightF, h1]
 refine sr fun Z z => ?_
 simp [encF, h1]
 refine RVn_call (c_name_Is g rnd a.name (by omega) hres) ?_
 simp [encF, h1]
 repeat refine sg ?_
 refine RVn_call ((by have h := c_types_Right g rnd a.ty (by omega) hres; simp only [encTy_def] at h; exact h)) ?_
 simp [encF, h1]
 repeat refine sg ?_
 refine z _ ?_
 clear z Z
 refine AT_ret ?_
 simp [encF, Tryz.f35]
 simp [rightF, h1]

theorem c_decl_rightSig (a : Sg) (hw : wtG a ≤ 1000000000) (hres : g 0 = some reservedA) : Valid Tryz.prog (G0 g rnd) 30 [.agg (encG a)] (.bool (rightG a)) := by
 have hw2 : a.name.length + 1 + wtFs a.fms + wtFs a.pms + wt a.res ≤ 1000000000 := hw
 refine valid_of [] Tryz.func30 rfl (by kernel_rfl) ?_
 refine sr fun Z z => ?_
 simp [encG, Tryz.f30]
 refine z _ ?_
 clear z Z
 cases h1 : (isName a.name)
 refine sr fun Z z => ?_
 simp [encG, h1]
 refine RVn_call (c_name_Is g rnd a.name (by omega) hres) ?_
 simp [encG, h1]
 repeat refine sg ?_
 refine z _ ?_
 clear z Z
 refine AT_ret ?_
 simp [encG, Tryz.f30]
 (· simp [rightG, h1])
 cases h2 : (a.fms.all rightF)
 refine sr fun Z z => ?_
 simp [encG, h1, h2]
 refine RVn_call (c_name_Is g rnd a.name (by omega) hres) ?_
 simp [encG, h1, h2]
 repeat refine sg ?_
 refine RVn_call (c_decl_every_api_Formal g rnd 33 [] rightF a.fms (by have := wtFs_len a.fms; omega) (fun x hx => c_decl_rightFormal g rnd x (by have := wtFs_mem hx; omega) hres)) ?_
 simp [encG, h1, h2]
 repeat refine sg ?_
 refine z _ ?_
 clear z Z
 refine AT_ret ?_
 simp [encG, Tryz.f30]
 (· simp [rightG, h1, h2])
 cases h3 : (a.pms.all rightF)
 refine sr fun Z z => ?_
 simp [encG, h1, h2, h3]
 refine RVn_call (c_name_Is g rnd a.name (by omega) hres) ?_
 simp [encG, h1, h2, h3]
 repeat refine sg ?_
 refine RVn_call (c_decl_every_api_Formal g rnd 33 [] rightF a.fms (by have := wtFs_len a.fms; omega) (fun x hx => c_decl_rightFormal g rnd x (by have := wtFs_mem hx; omega) hres)) ?_
 simp [encG, h1, h2, h3]
 repeat refine sg ?_
 refine RVn_call (c_decl_every_api_Param g rnd 35 [] rightF a.pms (by have := wtFs_len a.pms; omega) (fun x hx => c_decl_rightParam g rnd x (by have := wtFs_mem hx; omega) hres)) ?_
 simp [encG, h1, h2, h3]
 repeat refine sg ?_
 refine z _ ?_
 clear z Z
 refine AT_ret ?_
 simp [encG, Tryz.f30]
 (· simp [rightG, h1, h2, h3])
 refine sr fun Z z => ?_
 simp [encG, h1, h2, h3]
 refine RVn_call (c_name_Is g rnd a.name (by omega) hres) ?_
 simp [encG, h1, h2, h3]
 repeat refine sg ?_
 refine RVn_call (c_decl_every_api_Formal g rnd 33 [] rightF a.fms (by have := wtFs_len a.fms; omega) (fun x hx => c_decl_rightFormal g rnd x (by have := wtFs_mem hx; omega) hres)) ?_
 simp [encG, h1, h2, h3]
 repeat refine sg ?_
 refine RVn_call (c_decl_every_api_Param g rnd 35 [] rightF a.pms (by have := wtFs_len a.pms; omega) (fun x hx => c_decl_rightParam g rnd x (by have := wtFs_mem hx; omega) hres)) ?_
 simp [encG, h1, h2, h3]
 repeat refine sg ?_
 refine RVn_call ((by have h := c_types_Right g rnd a.res (by omega) hres; simp only [encTy_def] at h; exact h)) ?_
 simp [encG, h1, h2, h3]
 repeat refine sg ?_
 refine z _ ?_
 clear z Z
 refine AT_ret ?_
 simp [encG, Tryz.f30]
 (· simp [rightG, h1, h2, h3])

end Go.Proofs.YtdifpfehijnmiaaGreatDoor
end

section
/- Contracts: right declarations, every string. -/
set_option linter.all false
set_option maxHeartbeats 1000000
set_option maxRecDepth 10000
namespace Go.Proofs.YtdifpfehijnmiaaGreatDoor
open Go Go.Pv
variable (g : Nat → Option (List AV)) (rnd : Bool)

theorem c_slices_IndexFunc_string_string_q (fid : Nat) (caps : List AV) (q : Str → Bool) (l : List Str) (hl : l.length ≤ 1099511627776) (hq : ∀ x ∈ l, Valid Tryz.prog (G0 g rnd) fid ([.str x] ++ caps) (.bool (q x))) : Valid Tryz.prog (G0 g rnd) 123 [.slice (l.map encS), .func fid caps] (.int .i64 (idxQ q l 0)) := by

 refine valid_of [] Tryz.func123 rfl (by kernel_rfl) ?_
 refine sr fun Z z => ?_
 simp [row_map, encS, Tryz.f123]
 refine z _ ?_
 clear z Z
 refine AT_seq_k fun K1 hK1 => ?_
 refine sr fun Z z => ?_
 simp [row_map, encS]
 refine z _ ?_
 clear z Z
 refine AT_block ?_
 refine AT_loop_q [0,1,7,8] [] (fun j s => ∃ k, k ≤ l.length ∧ idxQ q l 0 = idxQ q (l.drop k) k ∧ j = l.length - k ∧ s = { n := 19, tm := [(0, .v (.slice (l.map encS)) none), (1, .v (.func fid caps) none), (7, .v (.int .i64 l.length) none), (8, .v (.int .i64 k) none)], bx := [], tb := [], sh := [], hint := [] }) (l.length) (by first | rfl | simp) ?_ ?_
 exact ⟨0, by simp⟩
 rintro j s ⟨k, hk, hc, rfl, rfl⟩ K2 hK2
 refine sr fun Z z => ?_
 simp [row_map, encS]
 refine z _ ?_
 clear z Z
 refine AT_seq_k fun K3 hK3 => ?_
 refine AT_cond (g := none) rfl (fun hb9 => ?_) (fun hb9 => ?_)
 simp [row_map, encS] at hb9
 refine AT_skip ?_
 simp only [nrm, reduceIte, Nat.reduceEqDiff]
 refine hK3 _ ?_
 refine AT_seq_k fun K4 hK4 => ?_
 refine AT_block ?_
 refine sr fun Z z => ?_
 simp [row_map, encS, hb9]
 refine z _ ?_
 clear z Z
 refine sr fun Z z => ?_
 have hk9 : k < l.length := by omega
 have hda := List.drop_eq_getElem_cons hk9
 simp [row_map, encS, hb9]
 refine RVn_call (hq l[k] (by simp)) ?_
 simp [row_map, encS, hb9]
 refine z _ ?_
 clear z Z
 refine AT_cond (g := none) rfl (fun hb16 => ?_) (fun hb16 => ?_)
 refine sr fun Z z => ?_
 simp [row_map, encS, hb9, hb16]
 refine z _ ?_
 clear z Z
 refine AT_ret ?_
 simp [row_map, encS, Tryz.f123]
 (· rw [hc, hda, idxQ, if_pos hb16])
 refine AT_skip ?_
 refine hK4 _ ?_
 refine AT_region_q fun Z z => ?_
 simp [row_map, encS, hb9, hb16]
 repeat refine sg ?_
 refine z _ ?_
 clear z Z
 simp only [nrm, reduceIte, Nat.reduceEqDiff]
 refine hK2 _ (by first | rfl | simp) (l.length - (k+1)) (by omega) ?_
 refine ⟨k+1, by omega, ?_, by omega, by simp⟩
 rw [hc, hda, idxQ, if_neg (by simp [hb16])]
 simp [row_map, encS] at hb9
 refine AT_exit ?_
 simp only [nrm, reduceIte, Nat.reduceEqDiff]
 refine hK1 _ ?_
 refine sr fun Z z => ?_
 simp [row_map, encS, hb9]
 refine z _ ?_
 clear z Z
 refine AT_ret ?_
 simp [row_map, encS, Tryz.f123]
 (rw [hc, List.drop_eq_nil_of_le (by omega)]; rfl)

theorem c_slices_ContainsFunc_string_string_q (fid : Nat) (caps : List AV) (q : Str → Bool) (l : List Str) (hl : l.length ≤ 1099511627776) (hq : ∀ x ∈ l, Valid Tryz.prog (G0 g rnd) fid ([.str x] ++ caps) (.bool (q x))) : Valid Tryz.prog (G0 g rnd) 86 [.slice (l.map encS), .func fid caps] (.bool (l.any q)) := by

 refine valid_of [] Tryz.func86 rfl (by kernel_rfl) ?_
 refine sr fun Z z => ?_
 simp [Tryz.f86]
 refine z _ ?_
 clear z Z
 refine sr fun Z z => ?_
 simp
 refine RVn_call (c_slices_IndexFunc_string_string_q g rnd fid caps q l hl hq) ?_
 simp
 refine z _ ?_
 clear z Z
 refine AT_ret ?_
 simp [Tryz.f86]
 exact idxQ_any q l 0

theorem c_decl_every_string_1 (fid : Nat) (caps : List AV) (v : Bool) (x : Str) (hx : Valid Tryz.prog (G0 g rnd) fid ([.str x] ++ caps) (.bool v)) : Valid Tryz.prog (G0 g rnd) 87 [.str x, .ro [.func fid caps]] (.bool (!v)) := by

 refine valid_of [] Tryz.func87 rfl (by kernel_rfl) ?_
 refine sr fun Z z => ?_
 simp [Tryz.f87]
 refine z _ ?_
 clear z Z
 refine sr fun Z z => ?_
 simp
 refine RVn_call (hx) ?_
 simp
 refine z _ ?_
 clear z Z
 refine AT_ret ?_
 simp [Tryz.f87]

theorem c_decl_every_string (fid : Nat) (caps : List AV) (q : Str → Bool) (l : List Str) (hl : l.length ≤ 1099511627776) (hq : ∀ x ∈ l, Valid Tryz.prog (G0 g rnd) fid ([.str x] ++ caps) (.bool (q x))) : Valid Tryz.prog (G0 g rnd) 29 [.slice (l.map encS), .func fid caps] (.bool (l.all q)) := by

 refine valid_of [(200003, 0)] Tryz.func29 rfl (by kernel_rfl) ?_
 refine sr fun Z z => ?_
 simp [Tryz.f29]
 refine z _ ?_
 clear z Z
 refine sr fun Z z => ?_
 simp
 refine RVn_call (c_slices_ContainsFunc_string_string_q g rnd 87 [.ro [.func fid caps]] (fun x => !q x) l hl (fun x hx => c_decl_every_string_1 g rnd fid caps (q x) x (hq x hx))) ?_
 simp
 refine z _ ?_
 clear z Z
 refine AT_ret ?_
 simp [Tryz.f29]
 simp [List.all_eq_not_any_not]

end Go.Proofs.YtdifpfehijnmiaaGreatDoor
end

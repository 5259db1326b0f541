import Derived.Test.YtepbmjchhcmcoaaGreatDoorPt
import Derived.Test.YtepbmjchhcmcoaaGreatDoorPvPb
import Derived.Test.YtepbmjchhcmcoaaGreatDoorPvY
import Derived.Test.YtepbmjchhcmcoaaGreatDoorXLbJ
import Derived.Test.YtepbmjchhcmcoaaGreatDoorXRdE
import Derived.Test.YtepbmjchhcmcoaaGreatDoorPvMb
import Derived.Test.YtepbmjchhcmcoaaGreatDoorXExC
import Derived.Test.YtepbmjchhcmcoaaGreatDoorPvDe
import Derived.Test.YtepbmjchhcmcoaaGreatDoorPvDb
import Derived.Test.YtepbmjchhcmcoaaGreatDoorPvP
section
/- Contracts. -/
set_option linter.all false
set_option maxHeartbeats 1000000
set_option maxRecDepth 10000
namespace Go.Proofs.YtepbmjchhcmcoaaGreatDoor
open Go Go.Pv
variable (g : Nat → Option (List AV)) (rnd : Bool)

theorem rightT_len {t : Ty} (hw : wt t ≤ 1099511627776) : ∀ s ∈ lst t, s.length ≤ 1099511627776 := fun s hs => Nat.le_trans (Nat.le_of_lt (lst_mem_wt t s hs)) hw

theorem c_ref04x_Right (t : Ty) (hw : wt t ≤ 1099511627776) : Valid Tryz.prog (G0 g rnd) 54 [.agg (encTy t)] (.bool (rightT t)) := by

 refine valid_of [] Tryz.func54 rfl (by kernel_rfl) ?_
 refine sr fun Z z => ?_
 simp [row_map, Tryz.f54]
 refine z _ ?_
 clear z Z
 refine sr fun Z z => ?_
 have hll := lst_wt t
 simp [row_map]
 refine RVn_call (c_ref04x_List g rnd t hw) ?_
 simp [row_map]
 refine z _ ?_
 clear z Z
 refine AT_seq_k fun K1 hK1 => ?_
 refine sr fun Z z => ?_
 simp [row_map]
 refine z _ ?_
 clear z Z
 refine AT_block ?_
 refine AT_loop_q [3,4] [] (fun j s => ∃ k, k ≤ (lst t).length ∧ rightT t = ((lst t).drop k).all isName ∧ j = (lst t).length - k ∧ s = { n := 19, tm := [(3, .v (.slice ((lst t).map encS)) none), (4, .v (.int .i64 k) none)], bx := [], tb := [], sh := [], hint := [] }) ((lst t).length) (by first | rfl | simp) ?_ ?_
 exact ⟨0, by simp [rightT]⟩
 rintro j s ⟨k, hk, hc, rfl, rfl⟩ K2 hK2
 refine AT_seq_k fun K3 hK3 => ?_
 refine sr fun Z z => ?_
 have hll := lst_wt t
 simp [row_map]
 refine z _ ?_
 clear z Z
 refine AT_cond (g := none) rfl (fun hb10 => ?_) (fun hb10 => ?_)
 simp [row_map] at hb10
 refine AT_skip ?_
 simp only [nrm, reduceIte, Nat.reduceEqDiff]
 refine hK3 _ ?_
 refine AT_seq_k fun K4 hK4 => ?_
 refine AT_block ?_
 refine sr fun Z z => ?_
 have hda := List.drop_eq_getElem_cons hb10
 simp [row_map, hb10]
 refine RVn_call (c_ref01x_Is g rnd _ (rightT_len hw _ (by simp))) ?_
 simp [row_map, hb10]
 refine z _ ?_
 clear z Z
 refine AT_cond (g := none) rfl (fun hb18 => ?_) (fun hb18 => ?_)
 simp [row_map, hb10] at hb18
 refine sr fun Z z => ?_
 simp [row_map, hb10]
 refine z _ ?_
 clear z Z
 refine AT_ret ?_
 simp [row_map, Tryz.f54]
 (rw [hc, hda, List.all_cons, hb18]; rfl)
 simp [row_map, hb10] at hb18
 refine AT_skip ?_
 refine hK4 _ ?_
 refine AT_region_q fun Z z => ?_
 simp [row_map, hb10]
 repeat refine sg ?_
 refine z _ ?_
 clear z Z
 simp only [nrm, reduceIte, Nat.reduceEqDiff]
 refine hK2 _ (by first | rfl | simp) ((lst t).length - (k+1)) (by omega) ?_
 refine ⟨k+1, by omega, ?_, by omega, by simp⟩
 rw [hc, hda, List.all_cons, hb18, Bool.true_and]
 simp [row_map] at hb10
 refine AT_exit ?_
 simp only [nrm, reduceIte, Nat.reduceEqDiff]
 refine hK1 _ ?_
 refine sr fun Z z => ?_
 simp [row_map, hb10]
 refine z _ ?_
 clear z Z
 refine AT_ret ?_
 simp [row_map, Tryz.f54]
 (rw [hc, List.drop_eq_nil_of_le hb10]; rfl)

end Go.Proofs.YtepbmjchhcmcoaaGreatDoor
end

section
/- Contracts: right expressions. -/
set_option linter.all false
set_option maxHeartbeats 1000000
set_option maxRecDepth 10000
namespace Go.Proofs.YtepbmjchhcmcoaaGreatDoor
open Go Go.Pv
variable (g : Nat → Option (List AV)) (rnd : Bool)

theorem c_ref05x_Right (e : Exp) : wtE e ≤ 1000000000 → Valid Tryz.prog (G0 g rnd) 20 [.agg (encE e)] (.bool (rightE e)) := by
 induction e using Exp.ind with
 | h kd n t ta l p ih =>
 intro hw
 have hw2 : n.length + 1 + wt t + wts ta + wtEs l ≤ 1000000000 := by simpa [wtE_mk] using hw
 have hln := wtEs_len l
 have hla := wts_len ta
 obtain ⟨tn, tas, tp⟩ := t
 refine valid_of [] Tryz.func20 rfl (by kernel_rfl) ?_
 refine sr fun Z z => ?_
 simp [row_map, Tryz.f20]
 refine z _ ?_
 clear z Z
 refine AT_seq_k fun K1 hK1 => ?_
 refine sr fun Z z => ?_
 simp [row_map]
 refine z _ ?_
 clear z Z
 refine AT_block ?_
 refine AT_loop_q [1,3] [1] (fun j s => ∃ k, k ≤ l.length ∧ rightEs l = rightEs (l.drop k) ∧ j = l.length - k ∧ s = { n := 108, tm := [(1, .lp 1 0), (3, .v (.int .i64 k) none)], bx := [(1, encE (.mk kd n (.mk tn tas tp) ta l p))], tb := [], sh := [], hint := [] }) (l.length) (by first | rfl | simp) ?_ ?_
 exact ⟨0, by simp⟩
 rintro j s ⟨k, hk, hc, rfl, rfl⟩ K2 hK2
 refine AT_seq_k fun K3 hK3 => ?_
 refine sr fun Z z => ?_
 simp [row_map]
 refine z _ ?_
 clear z Z
 refine AT_cond (g := none) rfl (fun hb10 => ?_) (fun hb10 => ?_)
 simp [row_map] at hb10
 refine AT_skip ?_
 simp only [nrm, reduceIte, Nat.reduceEqDiff]
 refine hK3 _ ?_
 refine AT_seq_k fun K4 hK4 => ?_
 refine AT_block ?_
 refine sr fun Z z => ?_
 have hm := wtEs_mem (l := l) (e := l[k]) (by simp)
 have hda := List.drop_eq_getElem_cons hb10
 simp [row_map, hb10]
 refine RVn_call (ih l[k] (by simp) (by omega)) ?_
 simp [row_map, hb10]
 refine z _ ?_
 clear z Z
 refine AT_cond (g := none) rfl (fun hb19 => ?_) (fun hb19 => ?_)
 simp [row_map, hb10] at hb19
 refine sr fun Z z => ?_
 simp [row_map, hb10, hb19]
 refine z _ ?_
 clear z Z
 refine AT_ret ?_
 simp [row_map, Tryz.f20]
 (rw [rightE_ok, hc, hda, rightEs_cons, hb19]; rfl)
 simp [row_map, hb10] at hb19
 refine AT_skip ?_
 refine hK4 _ ?_
 refine AT_region_q fun Z z => ?_
 simp [row_map, hb10, hb19]
 repeat refine sg ?_
 refine z _ ?_
 clear z Z
 simp only [nrm, reduceIte, Nat.reduceEqDiff]
 refine hK2 _ (by first | rfl | simp) (l.length - (k+1)) (by omega) ?_
 refine ⟨k+1, by omega, ?_, by omega, by simp⟩
 rw [hc, hda, rightEs_cons, hb19]; rfl
 simp [row_map] at hb10
 refine AT_exit ?_
 simp only [nrm, reduceIte, Nat.reduceEqDiff]
 refine hK1 _ ?_
 refine AT_seq_k fun K5 hK5 => ?_
 refine sr fun Z z => ?_
 simp [row_map, hb10]
 refine z _ ?_
 clear z Z
 refine AT_block ?_
 have hL : rightEs l = true := by rw [hc, List.drop_eq_nil_of_le hb10]; simp [rightEs]
 refine AT_loop_q [1,4] [1] (fun j s => ∃ k, k ≤ ta.length ∧ okT kd ta = okT kd (ta.drop k) ∧ j = ta.length - k ∧ s = { n := 108, tm := [(1, .lp 1 0), (4, .v (.int .i64 k) none)], bx := [(1, encE (.mk kd n (.mk tn tas tp) ta l p))], tb := [], sh := [], hint := [] }) (ta.length) (by first | rfl | simp) ?_ ?_
 exact ⟨0, by simp⟩
 rintro j s ⟨k, hk2, hc2, rfl, rfl⟩ K6 hK6
 refine AT_seq_k fun K7 hK7 => ?_
 refine sr fun Z z => ?_
 simp [row_map, hb10]
 refine z _ ?_
 clear z Z
 refine AT_cond (g := none) rfl (fun hb24 => ?_) (fun hb24 => ?_)
 simp [row_map, hb10] at hb24
 refine AT_skip ?_
 simp only [nrm, reduceIte, Nat.reduceEqDiff]
 refine hK7 _ ?_
 refine AT_seq_k fun K8 hK8 => ?_
 refine AT_block ?_
 cases h2 : (kd != 2)
 have h2b : (kd == 2) = true := by simpa using h2
 cases hrk : rightT ta[k]
 refine sr fun Z z => ?_
 have hdb := List.drop_eq_getElem_cons hb24
 have hm2 := wts_mem (l := ta) (t := ta[k]) (by simp)
 simp [row_map, hb10, hb24, h2, hrk]
 refine RVn_call (c_ref04x_Right g rnd ta[k] (by omega)) ?_
 simp [row_map, hb10, hb24, h2, hrk]
 repeat refine sg ?_
 refine z _ ?_
 clear z Z
 refine AT_cond (b := true) (g := none) (by simp [hb10, hb24, h2, hrk]) (fun hb => ?_) (fun hb => ?_)
 clear hb
 refine sr fun Z z => ?_
 simp [row_map, hb10, hb24, h2, hrk]
 refine z _ ?_
 clear z Z
 refine AT_ret ?_
 simp [row_map, Tryz.f20]
 (rw [rightE_ok, hL, hc2, hdb, okT_cons, h2b, hrk]; rfl)
 cases hb
 refine sr fun Z z => ?_
 have hdb := List.drop_eq_getElem_cons hb24
 have hm2 := wts_mem (l := ta) (t := ta[k]) (by simp)
 simp [row_map, hb10, hb24, h2, hrk]
 refine RVn_call (c_ref04x_Right g rnd ta[k] (by omega)) ?_
 simp [row_map, hb10, hb24, h2, hrk]
 repeat refine sg ?_
 refine z _ ?_
 clear z Z
 refine AT_cond (b := false) (g := none) (by simp [hb10, hb24, h2, hrk]) (fun hb => ?_) (fun hb => ?_)
 cases hb
 clear hb
 refine AT_skip ?_
 refine hK8 _ ?_
 refine AT_region_q fun Z z => ?_
 simp [row_map, hb10, hb24, h2, hrk]
 repeat refine sg ?_
 refine z _ ?_
 clear z Z
 simp only [nrm, reduceIte, Nat.reduceEqDiff]
 refine hK6 _ (by first | rfl | simp) (ta.length - (k+1)) (by omega) ?_
 refine ⟨k+1, by omega, ?_, by omega, by simp⟩
 rw [hc2, hdb, okT_cons, h2b, hrk]; rfl
 have h2b : (kd == 2) = false := by simpa using h2
 refine sr fun Z z => ?_
 have hdb := List.drop_eq_getElem_cons hb24
 have hm2 := wts_mem (l := ta) (t := ta[k]) (by simp)
 simp [row_map, hb10, hb24, h2]
 refine z _ ?_
 clear z Z
 refine AT_cond (b := true) (g := none) (by simp [hb10, hb24, h2]) (fun hb => ?_) (fun hb => ?_)
 clear hb
 refine sr fun Z z => ?_
 simp [row_map, hb10, hb24, h2]
 refine z _ ?_
 clear z Z
 refine AT_ret ?_
 simp [row_map, Tryz.f20]
 (rw [rightE_ok, hL, hc2, hdb, okT_cons, h2b]; rfl)
 cases hb
 simp [row_map, hb10] at hb24
 refine AT_exit ?_
 simp only [nrm, reduceIte, Nat.reduceEqDiff]
 refine hK5 _ ?_
 rcases kd_cases kd with hk | hk | hk | hk | hk | ⟨e1, e2, e3, e4, e5⟩
 have e1 : (kd == 1) = true := by rw [hk]; rfl
 have e2 : (kd == 2) = false := by rw [hk]; rfl
 have e3 : (kd == 3) = false := by rw [hk]; rfl
 have e4 : (kd == 4) = false := by rw [hk]; rfl
 have e5 : (kd == 5) = false := by rw [hk]; rfl
 cases hr : (rightT (.mk tn tas tp))
 cases ht : tn.isEmpty
 refine sr fun Z z => ?_
 have hT : okT kd ta = true := by rw [hc2, List.drop_eq_nil_of_le hb24]; rfl
 simp [row_map, hb10, hb24, e1, e2, e3, e4, e5, hr, ht]
 refine z _ ?_
 clear z Z
 refine AT_seq_k fun K9 hK9 => ?_
 refine sr fun Z z => ?_
 simp [row_map, hb10, hb24, e1, e2, e3, e4, e5, hr, ht]
 refine RVn_call (c_ref04x_Right g rnd (.mk tn tas tp) (by omega)) ?_
 simp [row_map, hb10, hb24, e1, e2, e3, e4, e5, hr, ht]
 refine z _ ?_
 clear z Z
 refine AT_cond (b := true) (g := none) (by simp [hb10, hb24, e1, e2, e3, e4, e5, hr, ht]) (fun hb => ?_) (fun hb => ?_)
 clear hb
 refine sr fun Z z => ?_
 simp [row_map, hb10, hb24, e1, e2, e3, e4, e5, hr, ht]
 refine z _ ?_
 clear z Z
 refine AT_ret ?_
 simp [row_map, Tryz.f20]
 (· rw [rightE_ok, hL, hT]; simp [bodyE, kidsE, typedE, e1, e2, e3, e4, e5, hr, ht])
 cases hb
 cases ha : tas.isEmpty
 have ha0 : 0 < tas.length := by cases tas with | nil => cases ha | cons x r => simp
 refine sr fun Z z => ?_
 have hT : okT kd ta = true := by rw [hc2, List.drop_eq_nil_of_le hb24]; rfl
 simp [row_map, hb10, hb24, e1, e2, e3, e4, e5, hr, ht, ha0]
 refine z _ ?_
 clear z Z
 refine AT_seq_k fun K10 hK10 => ?_
 refine sr fun Z z => ?_
 simp [row_map, hb10, hb24, e1, e2, e3, e4, e5, hr, ht, ha0]
 refine RVn_call (c_ref04x_Right g rnd (.mk tn tas tp) (by omega)) ?_
 simp [row_map, hb10, hb24, e1, e2, e3, e4, e5, hr, ht, ha0]
 refine z _ ?_
 clear z Z
 refine AT_cond (b := true) (g := none) (by simp [hb10, hb24, e1, e2, e3, e4, e5, hr, ht, ha0]) (fun hb => ?_) (fun hb => ?_)
 clear hb
 refine sr fun Z z => ?_
 simp [row_map, hb10, hb24, e1, e2, e3, e4, e5, hr, ht, ha0]
 refine z _ ?_
 clear z Z
 refine AT_ret ?_
 simp [row_map, Tryz.f20]
 (· rw [rightE_ok, hL, hT]; simp [bodyE, kidsE, typedE, e1, e2, e3, e4, e5, hr, ht, ha])
 cases hb
 have ha0 : ¬ 0 < tas.length := by rw [List.isEmpty_iff.1 ha]; decide
 cases hin : (isName n)
 refine sr fun Z z => ?_
 have hT : okT kd ta = true := by rw [hc2, List.drop_eq_nil_of_le hb24]; rfl
 simp [row_map, hb10, hb24, e1, e2, e3, e4, e5, hr, ht, ha0, hin]
 refine z _ ?_
 clear z Z
 refine AT_seq_k fun K11 hK11 => ?_
 refine sr fun Z z => ?_
 simp [row_map, hb10, hb24, e1, e2, e3, e4, e5, hr, ht, ha0, hin]
 refine RVn_call (c_ref04x_Right g rnd (.mk tn tas tp) (by omega)) ?_
 simp [row_map, hb10, hb24, e1, e2, e3, e4, e5, hr, ht, ha0, hin]
 refine z _ ?_
 clear z Z
 refine AT_cond (b := false) (g := none) (by simp [hb10, hb24, e1, e2, e3, e4, e5, hr, ht, ha0, hin]) (fun hb => ?_) (fun hb => ?_)
 cases hb
 clear hb
 refine AT_skip ?_
 simp only [nrm, reduceIte, Nat.reduceEqDiff]
 refine hK11 _ ?_
 refine AT_seq_k fun K12 hK12 => ?_
 refine sr fun Z z => ?_
 simp [row_map, hb10, hb24, e1, e2, e3, e4, e5, hr, ht, ha0, hin]
 refine RVn_call (c_ref01x_Is g rnd n (by omega)) ?_
 simp [row_map, hb10, hb24, e1, e2, e3, e4, e5, hr, ht, ha0, hin]
 repeat refine sg ?_
 refine z _ ?_
 clear z Z
 refine AT_cond (b := true) (g := none) (by simp [hb10, hb24, e1, e2, e3, e4, e5, hr, ht, ha0, hin]) (fun hb => ?_) (fun hb => ?_)
 clear hb
 refine sr fun Z z => ?_
 simp [row_map, hb10, hb24, e1, e2, e3, e4, e5, hr, ht, ha0, hin]
 refine z _ ?_
 clear z Z
 refine AT_ret ?_
 simp [row_map, Tryz.f20]
 (· rw [rightE_ok, hL, hT]; simp [bodyE, kidsE, typedE, e1, e2, e3, e4, e5, hr, ht, ha, hin])
 cases hb
 refine sr fun Z z => ?_
 have hT : okT kd ta = true := by rw [hc2, List.drop_eq_nil_of_le hb24]; rfl
 simp [row_map, hb10, hb24, e1, e2, e3, e4, e5, hr, ht, ha0, hin]
 refine z _ ?_
 clear z Z
 refine AT_seq_k fun K13 hK13 => ?_
 refine sr fun Z z => ?_
 simp [row_map, hb10, hb24, e1, e2, e3, e4, e5, hr, ht, ha0, hin]
 refine RVn_call (c_ref04x_Right g rnd (.mk tn tas tp) (by omega)) ?_
 simp [row_map, hb10, hb24, e1, e2, e3, e4, e5, hr, ht, ha0, hin]
 refine z _ ?_
 clear z Z
 refine AT_cond (b := false) (g := none) (by simp [hb10, hb24, e1, e2, e3, e4, e5, hr, ht, ha0, hin]) (fun hb => ?_) (fun hb => ?_)
 cases hb
 clear hb
 refine AT_skip ?_
 simp only [nrm, reduceIte, Nat.reduceEqDiff]
 refine hK13 _ ?_
 refine AT_seq_k fun K14 hK14 => ?_
 refine sr fun Z z => ?_
 simp [row_map, hb10, hb24, e1, e2, e3, e4, e5, hr, ht, ha0, hin]
 refine RVn_call (c_ref01x_Is g rnd n (by omega)) ?_
 simp [row_map, hb10, hb24, e1, e2, e3, e4, e5, hr, ht, ha0, hin]
 repeat refine sg ?_
 refine z _ ?_
 clear z Z
 refine AT_cond (b := false) (g := none) (by simp [hb10, hb24, e1, e2, e3, e4, e5, hr, ht, ha0, hin]) (fun hb => ?_) (fun hb => ?_)
 cases hb
 clear hb
 refine AT_skip ?_
 simp only [nrm, reduceIte, Nat.reduceEqDiff]
 refine hK14 _ ?_
 refine AT_seq_k fun K15 hK15 => ?_
 refine sr fun Z z => ?_
 simp [row_map, hb10, hb24, e1, e2, e3, e4, e5, hr, ht, ha0, hin]
 refine z _ ?_
 clear z Z
 refine AT_block ?_
 refine sr fun Z z => ?_
 simp [row_map, hb10, hb24, e1, e2, e3, e4, e5, hr, ht, ha0, hin]
 refine z _ ?_
 clear z Z
 refine AT_cond (b := true) (g := none) (by simp [hb10, hb24, e1, e2, e3, e4, e5, hr, ht, ha0, hin]) (fun hb => ?_) (fun hb => ?_)
 clear hb
 refine sr fun Z z => ?_
 simp [row_map, hb10, hb24, e1, e2, e3, e4, e5, hr, ht, ha0, hin]
 refine z _ ?_
 clear z Z
 refine AT_ret ?_
 simp [row_map, Tryz.f20]
 (· rw [rightE_ok, hL, hT]; simp [bodyE, kidsE, typedE, e1, e2, e3, e4, e5, hr, ht, ha, hin, len_eq0, len_ge1, len_eq1])
 cases hb
 refine sr fun Z z => ?_
 have hT : okT kd ta = true := by rw [hc2, List.drop_eq_nil_of_le hb24]; rfl
 simp [row_map, hb10, hb24, e1, e2, e3, e4, e5, hr]
 refine z _ ?_
 clear z Z
 refine AT_seq_k fun K16 hK16 => ?_
 refine sr fun Z z => ?_
 simp [row_map, hb10, hb24, e1, e2, e3, e4, e5, hr]
 refine RVn_call (c_ref04x_Right g rnd (.mk tn tas tp) (by omega)) ?_
 simp [row_map, hb10, hb24, e1, e2, e3, e4, e5, hr]
 refine z _ ?_
 clear z Z
 refine AT_cond (b := true) (g := none) (by simp [hb10, hb24, e1, e2, e3, e4, e5, hr]) (fun hb => ?_) (fun hb => ?_)
 clear hb
 refine sr fun Z z => ?_
 simp [row_map, hb10, hb24, e1, e2, e3, e4, e5, hr]
 refine z _ ?_
 clear z Z
 refine AT_ret ?_
 simp [row_map, Tryz.f20]
 (· rw [rightE_ok, hL, hT]; simp [bodyE, kidsE, typedE, e1, e2, e3, e4, e5, rightT_ne hr])
 cases hb
 have e1 : (kd == 1) = false := by rw [hk]; rfl
 have e2 : (kd == 2) = true := by rw [hk]; rfl
 have e3 : (kd == 3) = false := by rw [hk]; rfl
 have e4 : (kd == 4) = false := by rw [hk]; rfl
 have e5 : (kd == 5) = false := by rw [hk]; rfl
 cases hr : (rightT (.mk tn tas tp))
 cases ht : tn.isEmpty
 refine sr fun Z z => ?_
 have hT : okT kd ta = true := by rw [hc2, List.drop_eq_nil_of_le hb24]; rfl
 simp [row_map, hb10, hb24, e1, e2, e3, e4, e5, hr, ht]
 refine z _ ?_
 clear z Z
 refine AT_seq_k fun K17 hK17 => ?_
 refine sr fun Z z => ?_
 simp [row_map, hb10, hb24, e1, e2, e3, e4, e5, hr, ht]
 refine RVn_call (c_ref04x_Right g rnd (.mk tn tas tp) (by omega)) ?_
 simp [row_map, hb10, hb24, e1, e2, e3, e4, e5, hr, ht]
 refine z _ ?_
 clear z Z
 refine AT_cond (b := true) (g := none) (by simp [hb10, hb24, e1, e2, e3, e4, e5, hr, ht]) (fun hb => ?_) (fun hb => ?_)
 clear hb
 refine sr fun Z z => ?_
 simp [row_map, hb10, hb24, e1, e2, e3, e4, e5, hr, ht]
 refine z _ ?_
 clear z Z
 refine AT_ret ?_
 simp [row_map, Tryz.f20]
 (· rw [rightE_ok, hL, hT]; simp [bodyE, kidsE, typedE, e1, e2, e3, e4, e5, hr, ht])
 cases hb
 cases ha : tas.isEmpty
 have ha0 : 0 < tas.length := by cases tas with | nil => cases ha | cons x r => simp
 refine sr fun Z z => ?_
 have hT : okT kd ta = true := by rw [hc2, List.drop_eq_nil_of_le hb24]; rfl
 simp [row_map, hb10, hb24, e1, e2, e3, e4, e5, hr, ht, ha0]
 refine z _ ?_
 clear z Z
 refine AT_seq_k fun K18 hK18 => ?_
 refine sr fun Z z => ?_
 simp [row_map, hb10, hb24, e1, e2, e3, e4, e5, hr, ht, ha0]
 refine RVn_call (c_ref04x_Right g rnd (.mk tn tas tp) (by omega)) ?_
 simp [row_map, hb10, hb24, e1, e2, e3, e4, e5, hr, ht, ha0]
 refine z _ ?_
 clear z Z
 refine AT_cond (b := true) (g := none) (by simp [hb10, hb24, e1, e2, e3, e4, e5, hr, ht, ha0]) (fun hb => ?_) (fun hb => ?_)
 clear hb
 refine sr fun Z z => ?_
 simp [row_map, hb10, hb24, e1, e2, e3, e4, e5, hr, ht, ha0]
 refine z _ ?_
 clear z Z
 refine AT_ret ?_
 simp [row_map, Tryz.f20]
 (· rw [rightE_ok, hL, hT]; simp [bodyE, kidsE, typedE, e1, e2, e3, e4, e5, hr, ht, ha])
 cases hb
 have ha0 : ¬ 0 < tas.length := by rw [List.isEmpty_iff.1 ha]; decide
 cases hin : (isName n)
 refine sr fun Z z => ?_
 have hT : okT kd ta = true := by rw [hc2, List.drop_eq_nil_of_le hb24]; rfl
 simp [row_map, hb10, hb24, e1, e2, e3, e4, e5, hr, ht, ha0, hin]
 refine z _ ?_
 clear z Z
 refine AT_seq_k fun K19 hK19 => ?_
 refine sr fun Z z => ?_
 simp [row_map, hb10, hb24, e1, e2, e3, e4, e5, hr, ht, ha0, hin]
 refine RVn_call (c_ref04x_Right g rnd (.mk tn tas tp) (by omega)) ?_
 simp [row_map, hb10, hb24, e1, e2, e3, e4, e5, hr, ht, ha0, hin]
 refine z _ ?_
 clear z Z
 refine AT_cond (b := false) (g := none) (by simp [hb10, hb24, e1, e2, e3, e4, e5, hr, ht, ha0, hin]) (fun hb => ?_) (fun hb => ?_)
 cases hb
 clear hb
 refine AT_skip ?_
 simp only [nrm, reduceIte, Nat.reduceEqDiff]
 refine hK19 _ ?_
 refine AT_seq_k fun K20 hK20 => ?_
 refine sr fun Z z => ?_
 simp [row_map, hb10, hb24, e1, e2, e3, e4, e5, hr, ht, ha0, hin]
 refine RVn_call (c_ref01x_Is g rnd n (by omega)) ?_
 simp [row_map, hb10, hb24, e1, e2, e3, e4, e5, hr, ht, ha0, hin]
 repeat refine sg ?_
 refine z _ ?_
 clear z Z
 refine AT_cond (b := true) (g := none) (by simp [hb10, hb24, e1, e2, e3, e4, e5, hr, ht, ha0, hin]) (fun hb => ?_) (fun hb => ?_)
 clear hb
 refine sr fun Z z => ?_
 simp [row_map, hb10, hb24, e1, e2, e3, e4, e5, hr, ht, ha0, hin]
 refine z _ ?_
 clear z Z
 refine AT_ret ?_
 simp [row_map, Tryz.f20]
 (· rw [rightE_ok, hL, hT]; simp [bodyE, kidsE, typedE, e1, e2, e3, e4, e5, hr, ht, ha, hin])
 cases hb
 refine sr fun Z z => ?_
 have hT : okT kd ta = true := by rw [hc2, List.drop_eq_nil_of_le hb24]; rfl
 simp [row_map, hb10, hb24, e1, e2, e3, e4, e5, hr, ht, ha0, hin]
 refine z _ ?_
 clear z Z
 refine AT_seq_k fun K21 hK21 => ?_
 refine sr fun Z z => ?_
 simp [row_map, hb10, hb24, e1, e2, e3, e4, e5, hr, ht, ha0, hin]
 refine RVn_call (c_ref04x_Right g rnd (.mk tn tas tp) (by omega)) ?_
 simp [row_map, hb10, hb24, e1, e2, e3, e4, e5, hr, ht, ha0, hin]
 refine z _ ?_
 clear z Z
 refine AT_cond (b := false) (g := none) (by simp [hb10, hb24, e1, e2, e3, e4, e5, hr, ht, ha0, hin]) (fun hb => ?_) (fun hb => ?_)
 cases hb
 clear hb
 refine AT_skip ?_
 simp only [nrm, reduceIte, Nat.reduceEqDiff]
 refine hK21 _ ?_
 refine AT_seq_k fun K22 hK22 => ?_
 refine sr fun Z z => ?_
 simp [row_map, hb10, hb24, e1, e2, e3, e4, e5, hr, ht, ha0, hin]
 refine RVn_call (c_ref01x_Is g rnd n (by omega)) ?_
 simp [row_map, hb10, hb24, e1, e2, e3, e4, e5, hr, ht, ha0, hin]
 repeat refine sg ?_
 refine z _ ?_
 clear z Z
 refine AT_cond (b := false) (g := none) (by simp [hb10, hb24, e1, e2, e3, e4, e5, hr, ht, ha0, hin]) (fun hb => ?_) (fun hb => ?_)
 cases hb
 clear hb
 refine AT_skip ?_
 simp only [nrm, reduceIte, Nat.reduceEqDiff]
 refine hK22 _ ?_
 refine AT_seq_k fun K23 hK23 => ?_
 refine sr fun Z z => ?_
 simp [row_map, hb10, hb24, e1, e2, e3, e4, e5, hr, ht, ha0, hin]
 refine z _ ?_
 clear z Z
 refine AT_block ?_
 refine sr fun Z z => ?_
 simp [row_map, hb10, hb24, e1, e2, e3, e4, e5, hr, ht, ha0, hin]
 refine z _ ?_
 clear z Z
 refine AT_cond (b := false) (g := none) (by simp [hb10, hb24, e1, e2, e3, e4, e5, hr, ht, ha0, hin]) (fun hb => ?_) (fun hb => ?_)
 cases hb
 clear hb
 refine sr fun Z z => ?_
 simp [row_map, hb10, hb24, e1, e2, e3, e4, e5, hr, ht, ha0, hin]
 refine z _ ?_
 clear z Z
 refine AT_cond (b := true) (g := none) (by simp [hb10, hb24, e1, e2, e3, e4, e5, hr, ht, ha0, hin]) (fun hb => ?_) (fun hb => ?_)
 clear hb
 refine sr fun Z z => ?_
 simp [row_map, hb10, hb24, e1, e2, e3, e4, e5, hr, ht, ha0, hin]
 refine z _ ?_
 clear z Z
 refine AT_ret ?_
 simp [row_map, Tryz.f20]
 (· rw [rightE_ok, hL, hT]; simp [bodyE, kidsE, typedE, e1, e2, e3, e4, e5, hr, ht, ha, hin, len_eq0, len_ge1, len_eq1])
 cases hb
 refine sr fun Z z => ?_
 have hT : okT kd ta = true := by rw [hc2, List.drop_eq_nil_of_le hb24]; rfl
 simp [row_map, hb10, hb24, e1, e2, e3, e4, e5, hr]
 refine z _ ?_
 clear z Z
 refine AT_seq_k fun K24 hK24 => ?_
 refine sr fun Z z => ?_
 simp [row_map, hb10, hb24, e1, e2, e3, e4, e5, hr]
 refine RVn_call (c_ref04x_Right g rnd (.mk tn tas tp) (by omega)) ?_
 simp [row_map, hb10, hb24, e1, e2, e3, e4, e5, hr]
 refine z _ ?_
 clear z Z
 refine AT_cond (b := true) (g := none) (by simp [hb10, hb24, e1, e2, e3, e4, e5, hr]) (fun hb => ?_) (fun hb => ?_)
 clear hb
 refine sr fun Z z => ?_
 simp [row_map, hb10, hb24, e1, e2, e3, e4, e5, hr]
 refine z _ ?_
 clear z Z
 refine AT_ret ?_
 simp [row_map, Tryz.f20]
 (· rw [rightE_ok, hL, hT]; simp [bodyE, kidsE, typedE, e1, e2, e3, e4, e5, rightT_ne hr])
 cases hb
 have e1 : (kd == 1) = false := by rw [hk]; rfl
 have e2 : (kd == 2) = false := by rw [hk]; rfl
 have e3 : (kd == 3) = true := by rw [hk]; rfl
 have e4 : (kd == 4) = false := by rw [hk]; rfl
 have e5 : (kd == 5) = false := by rw [hk]; rfl
 cases hr : (rightT (.mk tn tas tp))
 refine sr fun Z z => ?_
 have hT : okT kd ta = true := by rw [hc2, List.drop_eq_nil_of_le hb24]; rfl
 simp [row_map, hb10, hb24, e1, e2, e3, e4, e5, hr]
 refine z _ ?_
 clear z Z
 refine AT_seq_k fun K25 hK25 => ?_
 refine sr fun Z z => ?_
 simp [row_map, hb10, hb24, e1, e2, e3, e4, e5, hr]
 refine RVn_call (c_ref04x_Right g rnd (.mk tn tas tp) (by omega)) ?_
 simp [row_map, hb10, hb24, e1, e2, e3, e4, e5, hr]
 refine z _ ?_
 clear z Z
 refine AT_cond (b := true) (g := none) (by simp [hb10, hb24, e1, e2, e3, e4, e5, hr]) (fun hb => ?_) (fun hb => ?_)
 clear hb
 refine sr fun Z z => ?_
 simp [row_map, hb10, hb24, e1, e2, e3, e4, e5, hr]
 refine z _ ?_
 clear z Z
 refine AT_ret ?_
 simp [row_map, Tryz.f20]
 (· rw [rightE_ok, hL, hT]; simp [bodyE, kidsE, typedE, e1, e2, e3, e4, e5, hr])
 cases hb
 cases hn : (n.isEmpty)
 have hn0 : ¬ n = [] := by rw [← List.isEmpty_iff, hn]; decide
 refine sr fun Z z => ?_
 have hT : okT kd ta = true := by rw [hc2, List.drop_eq_nil_of_le hb24]; rfl
 simp [row_map, hb10, hb24, e1, e2, e3, e4, e5, hr, hn]
 refine z _ ?_
 clear z Z
 refine AT_seq_k fun K26 hK26 => ?_
 refine sr fun Z z => ?_
 simp [row_map, hb10, hb24, e1, e2, e3, e4, e5, hr, hn]
 refine RVn_call (c_ref04x_Right g rnd (.mk tn tas tp) (by omega)) ?_
 simp [row_map, hb10, hb24, e1, e2, e3, e4, e5, hr, hn]
 refine z _ ?_
 clear z Z
 refine AT_cond (b := false) (g := none) (by simp [hb10, hb24, e1, e2, e3, e4, e5, hr, hn]) (fun hb => ?_) (fun hb => ?_)
 cases hb
 clear hb
 refine AT_skip ?_
 simp only [nrm, reduceIte, Nat.reduceEqDiff]
 refine hK26 _ ?_
 refine AT_seq_k fun K27 hK27 => ?_
 refine sr fun Z z => ?_
 simp [row_map, hb10, hb24, e1, e2, e3, e4, e5, hr, hn]
 refine z _ ?_
 clear z Z
 refine AT_cond (b := true) (g := none) (by simp [hb10, hb24, e1, e2, e3, e4, e5, hr, hn]) (fun hb => ?_) (fun hb => ?_)
 clear hb
 refine sr fun Z z => ?_
 simp [row_map, hb10, hb24, e1, e2, e3, e4, e5, hr, hn]
 refine z _ ?_
 clear z Z
 refine AT_ret ?_
 simp [row_map, Tryz.f20]
 (· rw [rightE_ok, hL, hT]; simp [bodyE, kidsE, typedE, e1, e2, e3, e4, e5, hr, hn])
 cases hb
 have hn0 : n = [] := List.isEmpty_iff.1 hn
 refine sr fun Z z => ?_
 have hT : okT kd ta = true := by rw [hc2, List.drop_eq_nil_of_le hb24]; rfl
 simp [row_map, hb10, hb24, e1, e2, e3, e4, e5, hr, hn]
 refine z _ ?_
 clear z Z
 refine AT_seq_k fun K28 hK28 => ?_
 refine sr fun Z z => ?_
 simp [row_map, hb10, hb24, e1, e2, e3, e4, e5, hr, hn]
 refine RVn_call (c_ref04x_Right g rnd (.mk tn tas tp) (by omega)) ?_
 simp [row_map, hb10, hb24, e1, e2, e3, e4, e5, hr, hn]
 refine z _ ?_
 clear z Z
 refine AT_cond (b := false) (g := none) (by simp [hb10, hb24, e1, e2, e3, e4, e5, hr, hn]) (fun hb => ?_) (fun hb => ?_)
 cases hb
 clear hb
 refine AT_skip ?_
 simp only [nrm, reduceIte, Nat.reduceEqDiff]
 refine hK28 _ ?_
 refine AT_seq_k fun K29 hK29 => ?_
 refine sr fun Z z => ?_
 simp [row_map, hb10, hb24, e1, e2, e3, e4, e5, hr, hn]
 refine z _ ?_
 clear z Z
 refine AT_cond (b := false) (g := none) (by simp [hb10, hb24, e1, e2, e3, e4, e5, hr, hn]) (fun hb => ?_) (fun hb => ?_)
 cases hb
 clear hb
 refine AT_skip ?_
 simp only [nrm, reduceIte, Nat.reduceEqDiff]
 refine hK29 _ ?_
 refine AT_seq_k fun K30 hK30 => ?_
 refine sr fun Z z => ?_
 simp [row_map, hb10, hb24, e1, e2, e3, e4, e5, hr, hn]
 refine z _ ?_
 clear z Z
 refine AT_block ?_
 refine sr fun Z z => ?_
 simp [row_map, hb10, hb24, e1, e2, e3, e4, e5, hr, hn]
 refine z _ ?_
 clear z Z
 refine AT_cond (b := false) (g := none) (by simp [hb10, hb24, e1, e2, e3, e4, e5, hr, hn]) (fun hb => ?_) (fun hb => ?_)
 cases hb
 clear hb
 refine sr fun Z z => ?_
 simp [row_map, hb10, hb24, e1, e2, e3, e4, e5, hr, hn]
 refine z _ ?_
 clear z Z
 refine AT_cond (b := false) (g := none) (by simp [hb10, hb24, e1, e2, e3, e4, e5, hr, hn]) (fun hb => ?_) (fun hb => ?_)
 cases hb
 clear hb
 refine sr fun Z z => ?_
 simp [row_map, hb10, hb24, e1, e2, e3, e4, e5, hr, hn]
 refine z _ ?_
 clear z Z
 refine AT_cond (b := true) (g := none) (by simp [hb10, hb24, e1, e2, e3, e4, e5, hr, hn]) (fun hb => ?_) (fun hb => ?_)
 clear hb
 refine sr fun Z z => ?_
 simp [row_map, hb10, hb24, e1, e2, e3, e4, e5, hr, hn]
 refine z _ ?_
 clear z Z
 refine AT_ret ?_
 simp [row_map, Tryz.f20]
 (· rw [rightE_ok, hL, hT]; simp [bodyE, kidsE, typedE, e1, e2, e3, e4, e5, hr, hn])
 cases hb
 have e1 : (kd == 1) = false := by rw [hk]; rfl
 have e2 : (kd == 2) = false := by rw [hk]; rfl
 have e3 : (kd == 3) = false := by rw [hk]; rfl
 have e4 : (kd == 4) = true := by rw [hk]; rfl
 have e5 : (kd == 5) = false := by rw [hk]; rfl
 cases hr : (rightT (.mk tn tas tp))
 cases ht : tn.isEmpty
 refine sr fun Z z => ?_
 have hT : okT kd ta = true := by rw [hc2, List.drop_eq_nil_of_le hb24]; rfl
 simp [row_map, hb10, hb24, e1, e2, e3, e4, e5, hr, ht]
 refine z _ ?_
 clear z Z
 refine AT_seq_k fun K31 hK31 => ?_
 refine sr fun Z z => ?_
 simp [row_map, hb10, hb24, e1, e2, e3, e4, e5, hr, ht]
 refine RVn_call (c_ref04x_Right g rnd (.mk tn tas tp) (by omega)) ?_
 simp [row_map, hb10, hb24, e1, e2, e3, e4, e5, hr, ht]
 refine z _ ?_
 clear z Z
 refine AT_cond (b := true) (g := none) (by simp [hb10, hb24, e1, e2, e3, e4, e5, hr, ht]) (fun hb => ?_) (fun hb => ?_)
 clear hb
 refine sr fun Z z => ?_
 simp [row_map, hb10, hb24, e1, e2, e3, e4, e5, hr, ht]
 refine z _ ?_
 clear z Z
 refine AT_ret ?_
 simp [row_map, Tryz.f20]
 (· rw [rightE_ok, hL, hT]; simp [bodyE, kidsE, typedE, e1, e2, e3, e4, e5, hr, ht])
 cases hb
 cases ha : tas.isEmpty
 have ha0 : 0 < tas.length := by cases tas with | nil => cases ha | cons x r => simp
 refine sr fun Z z => ?_
 have hT : okT kd ta = true := by rw [hc2, List.drop_eq_nil_of_le hb24]; rfl
 simp [row_map, hb10, hb24, e1, e2, e3, e4, e5, hr, ht, ha0]
 refine z _ ?_
 clear z Z
 refine AT_seq_k fun K32 hK32 => ?_
 refine sr fun Z z => ?_
 simp [row_map, hb10, hb24, e1, e2, e3, e4, e5, hr, ht, ha0]
 refine RVn_call (c_ref04x_Right g rnd (.mk tn tas tp) (by omega)) ?_
 simp [row_map, hb10, hb24, e1, e2, e3, e4, e5, hr, ht, ha0]
 refine z _ ?_
 clear z Z
 refine AT_cond (b := true) (g := none) (by simp [hb10, hb24, e1, e2, e3, e4, e5, hr, ht, ha0]) (fun hb => ?_) (fun hb => ?_)
 clear hb
 refine sr fun Z z => ?_
 simp [row_map, hb10, hb24, e1, e2, e3, e4, e5, hr, ht, ha0]
 refine z _ ?_
 clear z Z
 refine AT_ret ?_
 simp [row_map, Tryz.f20]
 (· rw [rightE_ok, hL, hT]; simp [bodyE, kidsE, typedE, e1, e2, e3, e4, e5, hr, ht, ha])
 cases hb
 have ha0 : ¬ 0 < tas.length := by rw [List.isEmpty_iff.1 ha]; decide
 cases hin : (isName n)
 refine sr fun Z z => ?_
 have hT : okT kd ta = true := by rw [hc2, List.drop_eq_nil_of_le hb24]; rfl
 simp [row_map, hb10, hb24, e1, e2, e3, e4, e5, hr, ht, ha0, hin]
 refine z _ ?_
 clear z Z
 refine AT_seq_k fun K33 hK33 => ?_
 refine sr fun Z z => ?_
 simp [row_map, hb10, hb24, e1, e2, e3, e4, e5, hr, ht, ha0, hin]
 refine RVn_call (c_ref04x_Right g rnd (.mk tn tas tp) (by omega)) ?_
 simp [row_map, hb10, hb24, e1, e2, e3, e4, e5, hr, ht, ha0, hin]
 refine z _ ?_
 clear z Z
 refine AT_cond (b := false) (g := none) (by simp [hb10, hb24, e1, e2, e3, e4, e5, hr, ht, ha0, hin]) (fun hb => ?_) (fun hb => ?_)
 cases hb
 clear hb
 refine AT_skip ?_
 simp only [nrm, reduceIte, Nat.reduceEqDiff]
 refine hK33 _ ?_
 refine AT_seq_k fun K34 hK34 => ?_
 refine sr fun Z z => ?_
 simp [row_map, hb10, hb24, e1, e2, e3, e4, e5, hr, ht, ha0, hin]
 refine RVn_call (c_ref01x_Is g rnd n (by omega)) ?_
 simp [row_map, hb10, hb24, e1, e2, e3, e4, e5, hr, ht, ha0, hin]
 repeat refine sg ?_
 refine z _ ?_
 clear z Z
 refine AT_cond (b := true) (g := none) (by simp [hb10, hb24, e1, e2, e3, e4, e5, hr, ht, ha0, hin]) (fun hb => ?_) (fun hb => ?_)
 clear hb
 refine sr fun Z z => ?_
 simp [row_map, hb10, hb24, e1, e2, e3, e4, e5, hr, ht, ha0, hin]
 refine z _ ?_
 clear z Z
 refine AT_ret ?_
 simp [row_map, Tryz.f20]
 (· rw [rightE_ok, hL, hT]; simp [bodyE, kidsE, typedE, e1, e2, e3, e4, e5, hr, ht, ha, hin])
 cases hb
 refine sr fun Z z => ?_
 have hT : okT kd ta = true := by rw [hc2, List.drop_eq_nil_of_le hb24]; rfl
 simp [row_map, hb10, hb24, e1, e2, e3, e4, e5, hr, ht, ha0, hin]
 refine z _ ?_
 clear z Z
 refine AT_seq_k fun K35 hK35 => ?_
 refine sr fun Z z => ?_
 simp [row_map, hb10, hb24, e1, e2, e3, e4, e5, hr, ht, ha0, hin]
 refine RVn_call (c_ref04x_Right g rnd (.mk tn tas tp) (by omega)) ?_
 simp [row_map, hb10, hb24, e1, e2, e3, e4, e5, hr, ht, ha0, hin]
 refine z _ ?_
 clear z Z
 refine AT_cond (b := false) (g := none) (by simp [hb10, hb24, e1, e2, e3, e4, e5, hr, ht, ha0, hin]) (fun hb => ?_) (fun hb => ?_)
 cases hb
 clear hb
 refine AT_skip ?_
 simp only [nrm, reduceIte, Nat.reduceEqDiff]
 refine hK35 _ ?_
 refine AT_seq_k fun K36 hK36 => ?_
 refine sr fun Z z => ?_
 simp [row_map, hb10, hb24, e1, e2, e3, e4, e5, hr, ht, ha0, hin]
 refine RVn_call (c_ref01x_Is g rnd n (by omega)) ?_
 simp [row_map, hb10, hb24, e1, e2, e3, e4, e5, hr, ht, ha0, hin]
 repeat refine sg ?_
 refine z _ ?_
 clear z Z
 refine AT_cond (b := false) (g := none) (by simp [hb10, hb24, e1, e2, e3, e4, e5, hr, ht, ha0, hin]) (fun hb => ?_) (fun hb => ?_)
 cases hb
 clear hb
 refine AT_skip ?_
 simp only [nrm, reduceIte, Nat.reduceEqDiff]
 refine hK36 _ ?_
 refine AT_seq_k fun K37 hK37 => ?_
 refine sr fun Z z => ?_
 simp [row_map, hb10, hb24, e1, e2, e3, e4, e5, hr, ht, ha0, hin]
 refine z _ ?_
 clear z Z
 refine AT_block ?_
 refine sr fun Z z => ?_
 simp [row_map, hb10, hb24, e1, e2, e3, e4, e5, hr, ht, ha0, hin]
 refine z _ ?_
 clear z Z
 refine AT_cond (b := false) (g := none) (by simp [hb10, hb24, e1, e2, e3, e4, e5, hr, ht, ha0, hin]) (fun hb => ?_) (fun hb => ?_)
 cases hb
 clear hb
 refine sr fun Z z => ?_
 simp [row_map, hb10, hb24, e1, e2, e3, e4, e5, hr, ht, ha0, hin]
 refine z _ ?_
 clear z Z
 refine AT_cond (b := false) (g := none) (by simp [hb10, hb24, e1, e2, e3, e4, e5, hr, ht, ha0, hin]) (fun hb => ?_) (fun hb => ?_)
 cases hb
 clear hb
 refine sr fun Z z => ?_
 simp [row_map, hb10, hb24, e1, e2, e3, e4, e5, hr, ht, ha0, hin]
 refine z _ ?_
 clear z Z
 refine AT_cond (b := false) (g := none) (by simp [hb10, hb24, e1, e2, e3, e4, e5, hr, ht, ha0, hin]) (fun hb => ?_) (fun hb => ?_)
 cases hb
 clear hb
 refine AT_seq_k fun K38 hK38 => ?_
 refine sr fun Z z => ?_
 simp [row_map, hb10, hb24, e1, e2, e3, e4, e5, hr, ht, ha0, hin]
 refine z _ ?_
 clear z Z
 refine AT_cond (b := true) (g := none) (by simp [hb10, hb24, e1, e2, e3, e4, e5, hr, ht, ha0, hin]) (fun hb => ?_) (fun hb => ?_)
 clear hb
 refine AT_skip ?_
 simp only [nrm, reduceIte, Nat.reduceEqDiff]
 refine hK38 _ ?_
 refine AT_cond (b := true) (g := none) (by simp [hb10, hb24, e1, e2, e3, e4, e5, hr, ht, ha0, hin]) (fun hb => ?_) (fun hb => ?_)
 clear hb
 refine sr fun Z z => ?_
 simp [row_map, hb10, hb24, e1, e2, e3, e4, e5, hr, ht, ha0, hin]
 refine z _ ?_
 clear z Z
 refine AT_ret ?_
 simp [row_map, Tryz.f20]
 (· rw [rightE_ok, hL, hT]; simp [bodyE, kidsE, typedE, e1, e2, e3, e4, e5, hr, ht, ha, hin, len_eq0, len_ge1, len_eq1])
 cases hb
 cases hb
 refine sr fun Z z => ?_
 have hT : okT kd ta = true := by rw [hc2, List.drop_eq_nil_of_le hb24]; rfl
 simp [row_map, hb10, hb24, e1, e2, e3, e4, e5, hr]
 refine z _ ?_
 clear z Z
 refine AT_seq_k fun K39 hK39 => ?_
 refine sr fun Z z => ?_
 simp [row_map, hb10, hb24, e1, e2, e3, e4, e5, hr]
 refine RVn_call (c_ref04x_Right g rnd (.mk tn tas tp) (by omega)) ?_
 simp [row_map, hb10, hb24, e1, e2, e3, e4, e5, hr]
 refine z _ ?_
 clear z Z
 refine AT_cond (b := true) (g := none) (by simp [hb10, hb24, e1, e2, e3, e4, e5, hr]) (fun hb => ?_) (fun hb => ?_)
 clear hb
 refine sr fun Z z => ?_
 simp [row_map, hb10, hb24, e1, e2, e3, e4, e5, hr]
 refine z _ ?_
 clear z Z
 refine AT_ret ?_
 simp [row_map, Tryz.f20]
 (· rw [rightE_ok, hL, hT]; simp [bodyE, kidsE, typedE, e1, e2, e3, e4, e5, rightT_ne hr])
 cases hb
 have e1 : (kd == 1) = false := by rw [hk]; rfl
 have e2 : (kd == 2) = false := by rw [hk]; rfl
 have e3 : (kd == 3) = false := by rw [hk]; rfl
 have e4 : (kd == 4) = false := by rw [hk]; rfl
 have e5 : (kd == 5) = true := by rw [hk]; rfl
 cases hr : (rightT (.mk tn tas tp))
 refine sr fun Z z => ?_
 have hT : okT kd ta = true := by rw [hc2, List.drop_eq_nil_of_le hb24]; rfl
 simp [row_map, hb10, hb24, e1, e2, e3, e4, e5, hr]
 refine z _ ?_
 clear z Z
 refine AT_seq_k fun K40 hK40 => ?_
 refine sr fun Z z => ?_
 simp [row_map, hb10, hb24, e1, e2, e3, e4, e5, hr]
 refine RVn_call (c_ref04x_Right g rnd (.mk tn tas tp) (by omega)) ?_
 simp [row_map, hb10, hb24, e1, e2, e3, e4, e5, hr]
 refine z _ ?_
 clear z Z
 refine AT_cond (b := true) (g := none) (by simp [hb10, hb24, e1, e2, e3, e4, e5, hr]) (fun hb => ?_) (fun hb => ?_)
 clear hb
 refine sr fun Z z => ?_
 simp [row_map, hb10, hb24, e1, e2, e3, e4, e5, hr]
 refine z _ ?_
 clear z Z
 refine AT_ret ?_
 simp [row_map, Tryz.f20]
 (· rw [rightE_ok, hL, hT]; simp [bodyE, kidsE, typedE, e1, e2, e3, e4, e5, hr])
 cases hb
 cases hn : (n.isEmpty)
 have hn0 : ¬ n = [] := by rw [← List.isEmpty_iff, hn]; decide
 refine sr fun Z z => ?_
 have hT : okT kd ta = true := by rw [hc2, List.drop_eq_nil_of_le hb24]; rfl
 simp [row_map, hb10, hb24, e1, e2, e3, e4, e5, hr, hn]
 refine z _ ?_
 clear z Z
 refine AT_seq_k fun K41 hK41 => ?_
 refine sr fun Z z => ?_
 simp [row_map, hb10, hb24, e1, e2, e3, e4, e5, hr, hn]
 refine RVn_call (c_ref04x_Right g rnd (.mk tn tas tp) (by omega)) ?_
 simp [row_map, hb10, hb24, e1, e2, e3, e4, e5, hr, hn]
 refine z _ ?_
 clear z Z
 refine AT_cond (b := false) (g := none) (by simp [hb10, hb24, e1, e2, e3, e4, e5, hr, hn]) (fun hb => ?_) (fun hb => ?_)
 cases hb
 clear hb
 refine AT_skip ?_
 simp only [nrm, reduceIte, Nat.reduceEqDiff]
 refine hK41 _ ?_
 refine AT_seq_k fun K42 hK42 => ?_
 refine sr fun Z z => ?_
 simp [row_map, hb10, hb24, e1, e2, e3, e4, e5, hr, hn]
 refine z _ ?_
 clear z Z
 refine AT_cond (b := true) (g := none) (by simp [hb10, hb24, e1, e2, e3, e4, e5, hr, hn]) (fun hb => ?_) (fun hb => ?_)
 clear hb
 refine sr fun Z z => ?_
 simp [row_map, hb10, hb24, e1, e2, e3, e4, e5, hr, hn]
 refine z _ ?_
 clear z Z
 refine AT_ret ?_
 simp [row_map, Tryz.f20]
 (· rw [rightE_ok, hL, hT]; simp [bodyE, kidsE, typedE, e1, e2, e3, e4, e5, hr, hn])
 cases hb
 have hn0 : n = [] := List.isEmpty_iff.1 hn
 refine sr fun Z z => ?_
 have hT : okT kd ta = true := by rw [hc2, List.drop_eq_nil_of_le hb24]; rfl
 simp [row_map, hb10, hb24, e1, e2, e3, e4, e5, hr, hn]
 refine z _ ?_
 clear z Z
 refine AT_seq_k fun K43 hK43 => ?_
 refine sr fun Z z => ?_
 simp [row_map, hb10, hb24, e1, e2, e3, e4, e5, hr, hn]
 refine RVn_call (c_ref04x_Right g rnd (.mk tn tas tp) (by omega)) ?_
 simp [row_map, hb10, hb24, e1, e2, e3, e4, e5, hr, hn]
 refine z _ ?_
 clear z Z
 refine AT_cond (b := false) (g := none) (by simp [hb10, hb24, e1, e2, e3, e4, e5, hr, hn]) (fun hb => ?_) (fun hb => ?_)
 cases hb
 clear hb
 refine AT_skip ?_
 simp only [nrm, reduceIte, Nat.reduceEqDiff]
 refine hK43 _ ?_
 refine AT_seq_k fun K44 hK44 => ?_
 refine sr fun Z z => ?_
 simp [row_map, hb10, hb24, e1, e2, e3, e4, e5, hr, hn]
 refine z _ ?_
 clear z Z
 refine AT_cond (b := false) (g := none) (by simp [hb10, hb24, e1, e2, e3, e4, e5, hr, hn]) (fun hb => ?_) (fun hb => ?_)
 cases hb
 clear hb
 refine AT_skip ?_
 simp only [nrm, reduceIte, Nat.reduceEqDiff]
 refine hK44 _ ?_
 refine AT_seq_k fun K45 hK45 => ?_
 refine sr fun Z z => ?_
 simp [row_map, hb10, hb24, e1, e2, e3, e4, e5, hr, hn]
 refine z _ ?_
 clear z Z
 refine AT_block ?_
 refine sr fun Z z => ?_
 simp [row_map, hb10, hb24, e1, e2, e3, e4, e5, hr, hn]
 refine z _ ?_
 clear z Z
 refine AT_cond (b := false) (g := none) (by simp [hb10, hb24, e1, e2, e3, e4, e5, hr, hn]) (fun hb => ?_) (fun hb => ?_)
 cases hb
 clear hb
 refine sr fun Z z => ?_
 simp [row_map, hb10, hb24, e1, e2, e3, e4, e5, hr, hn]
 refine z _ ?_
 clear z Z
 refine AT_cond (b := false) (g := none) (by simp [hb10, hb24, e1, e2, e3, e4, e5, hr, hn]) (fun hb => ?_) (fun hb => ?_)
 cases hb
 clear hb
 refine sr fun Z z => ?_
 simp [row_map, hb10, hb24, e1, e2, e3, e4, e5, hr, hn]
 refine z _ ?_
 clear z Z
 refine AT_cond (b := false) (g := none) (by simp [hb10, hb24, e1, e2, e3, e4, e5, hr, hn]) (fun hb => ?_) (fun hb => ?_)
 cases hb
 clear hb
 refine AT_seq_k fun K46 hK46 => ?_
 refine sr fun Z z => ?_
 simp [row_map, hb10, hb24, e1, e2, e3, e4, e5, hr, hn]
 refine z _ ?_
 clear z Z
 refine AT_cond (b := false) (g := none) (by simp [hb10, hb24, e1, e2, e3, e4, e5, hr, hn]) (fun hb => ?_) (fun hb => ?_)
 cases hb
 clear hb
 refine AT_region_q fun Z z => ?_
 simp [row_map, hb10, hb24, e1, e2, e3, e4, e5, hr, hn]
 refine z _ ?_
 clear z Z
 simp only [nrm, reduceIte, Nat.reduceEqDiff]
 refine hK46 _ ?_
 refine AT_cond (b := true) (g := none) (by simp [hb10, hb24, e1, e2, e3, e4, e5, hr, hn]) (fun hb => ?_) (fun hb => ?_)
 clear hb
 refine sr fun Z z => ?_
 simp [row_map, hb10, hb24, e1, e2, e3, e4, e5, hr, hn]
 refine z _ ?_
 clear z Z
 refine AT_ret ?_
 simp [row_map, Tryz.f20]
 (· rw [rightE_ok, hL, hT]; simp [bodyE, kidsE, typedE, e1, e2, e3, e4, e5, hr, hn, len_eq0, len_ge1, len_eq1])
 cases hb
 cases hr : (rightT (.mk tn tas tp))
 cases ht : tn.isEmpty
 refine sr fun Z z => ?_
 have hT : okT kd ta = true := by rw [hc2, List.drop_eq_nil_of_le hb24]; rfl
 simp [row_map, hb10, hb24, e1, e2, e3, e4, e5, hr, ht]
 refine z _ ?_
 clear z Z
 refine AT_seq_k fun K47 hK47 => ?_
 refine sr fun Z z => ?_
 simp [row_map, hb10, hb24, e1, e2, e3, e4, e5, hr, ht]
 refine RVn_call (c_ref04x_Right g rnd (.mk tn tas tp) (by omega)) ?_
 simp [row_map, hb10, hb24, e1, e2, e3, e4, e5, hr, ht]
 refine z _ ?_
 clear z Z
 refine AT_cond (b := true) (g := none) (by simp [hb10, hb24, e1, e2, e3, e4, e5, hr, ht]) (fun hb => ?_) (fun hb => ?_)
 clear hb
 refine sr fun Z z => ?_
 simp [row_map, hb10, hb24, e1, e2, e3, e4, e5, hr, ht]
 refine z _ ?_
 clear z Z
 refine AT_ret ?_
 simp [row_map, Tryz.f20]
 (· rw [rightE_ok, hL, hT]; simp [bodyE, kidsE, typedE, e1, e2, e3, e4, e5, hr])
 cases hb
 cases ha : tas.isEmpty
 have ha0 : 0 < tas.length := by cases tas with | nil => cases ha | cons x r => simp
 refine sr fun Z z => ?_
 have hT : okT kd ta = true := by rw [hc2, List.drop_eq_nil_of_le hb24]; rfl
 simp [row_map, hb10, hb24, e1, e2, e3, e4, e5, hr, ht, ha0]
 refine z _ ?_
 clear z Z
 refine AT_seq_k fun K48 hK48 => ?_
 refine sr fun Z z => ?_
 simp [row_map, hb10, hb24, e1, e2, e3, e4, e5, hr, ht, ha0]
 refine RVn_call (c_ref04x_Right g rnd (.mk tn tas tp) (by omega)) ?_
 simp [row_map, hb10, hb24, e1, e2, e3, e4, e5, hr, ht, ha0]
 refine z _ ?_
 clear z Z
 refine AT_cond (b := true) (g := none) (by simp [hb10, hb24, e1, e2, e3, e4, e5, hr, ht, ha0]) (fun hb => ?_) (fun hb => ?_)
 clear hb
 refine sr fun Z z => ?_
 simp [row_map, hb10, hb24, e1, e2, e3, e4, e5, hr, ht, ha0]
 refine z _ ?_
 clear z Z
 refine AT_ret ?_
 simp [row_map, Tryz.f20]
 (· rw [rightE_ok, hL, hT]; simp [bodyE, kidsE, typedE, e1, e2, e3, e4, e5, hr])
 cases hb
 have ha0 : ¬ 0 < tas.length := by rw [List.isEmpty_iff.1 ha]; decide
 cases hin : (isName n)
 refine sr fun Z z => ?_
 have hT : okT kd ta = true := by rw [hc2, List.drop_eq_nil_of_le hb24]; rfl
 simp [row_map, hb10, hb24, e1, e2, e3, e4, e5, hr, ht, ha0, hin]
 refine z _ ?_
 clear z Z
 refine AT_seq_k fun K49 hK49 => ?_
 refine sr fun Z z => ?_
 simp [row_map, hb10, hb24, e1, e2, e3, e4, e5, hr, ht, ha0, hin]
 refine RVn_call (c_ref04x_Right g rnd (.mk tn tas tp) (by omega)) ?_
 simp [row_map, hb10, hb24, e1, e2, e3, e4, e5, hr, ht, ha0, hin]
 refine z _ ?_
 clear z Z
 refine AT_cond (b := false) (g := none) (by simp [hb10, hb24, e1, e2, e3, e4, e5, hr, ht, ha0, hin]) (fun hb => ?_) (fun hb => ?_)
 cases hb
 clear hb
 refine AT_skip ?_
 simp only [nrm, reduceIte, Nat.reduceEqDiff]
 refine hK49 _ ?_
 refine AT_seq_k fun K50 hK50 => ?_
 refine sr fun Z z => ?_
 simp [row_map, hb10, hb24, e1, e2, e3, e4, e5, hr, ht, ha0, hin]
 refine RVn_call (c_ref01x_Is g rnd n (by omega)) ?_
 simp [row_map, hb10, hb24, e1, e2, e3, e4, e5, hr, ht, ha0, hin]
 repeat refine sg ?_
 refine z _ ?_
 clear z Z
 refine AT_cond (b := true) (g := none) (by simp [hb10, hb24, e1, e2, e3, e4, e5, hr, ht, ha0, hin]) (fun hb => ?_) (fun hb => ?_)
 clear hb
 refine sr fun Z z => ?_
 simp [row_map, hb10, hb24, e1, e2, e3, e4, e5, hr, ht, ha0, hin]
 refine z _ ?_
 clear z Z
 refine AT_ret ?_
 simp [row_map, Tryz.f20]
 (· rw [rightE_ok, hL, hT]; simp [bodyE, kidsE, typedE, e1, e2, e3, e4, e5, hr])
 cases hb
 refine sr fun Z z => ?_
 have hT : okT kd ta = true := by rw [hc2, List.drop_eq_nil_of_le hb24]; rfl
 simp [row_map, hb10, hb24, e1, e2, e3, e4, e5, hr, ht, ha0, hin]
 refine z _ ?_
 clear z Z
 refine AT_seq_k fun K51 hK51 => ?_
 refine sr fun Z z => ?_
 simp [row_map, hb10, hb24, e1, e2, e3, e4, e5, hr, ht, ha0, hin]
 refine RVn_call (c_ref04x_Right g rnd (.mk tn tas tp) (by omega)) ?_
 simp [row_map, hb10, hb24, e1, e2, e3, e4, e5, hr, ht, ha0, hin]
 refine z _ ?_
 clear z Z
 refine AT_cond (b := false) (g := none) (by simp [hb10, hb24, e1, e2, e3, e4, e5, hr, ht, ha0, hin]) (fun hb => ?_) (fun hb => ?_)
 cases hb
 clear hb
 refine AT_skip ?_
 simp only [nrm, reduceIte, Nat.reduceEqDiff]
 refine hK51 _ ?_
 refine AT_seq_k fun K52 hK52 => ?_
 refine sr fun Z z => ?_
 simp [row_map, hb10, hb24, e1, e2, e3, e4, e5, hr, ht, ha0, hin]
 refine RVn_call (c_ref01x_Is g rnd n (by omega)) ?_
 simp [row_map, hb10, hb24, e1, e2, e3, e4, e5, hr, ht, ha0, hin]
 repeat refine sg ?_
 refine z _ ?_
 clear z Z
 refine AT_cond (b := false) (g := none) (by simp [hb10, hb24, e1, e2, e3, e4, e5, hr, ht, ha0, hin]) (fun hb => ?_) (fun hb => ?_)
 cases hb
 clear hb
 refine AT_skip ?_
 simp only [nrm, reduceIte, Nat.reduceEqDiff]
 refine hK52 _ ?_
 refine AT_seq_k fun K53 hK53 => ?_
 refine sr fun Z z => ?_
 simp [row_map, hb10, hb24, e1, e2, e3, e4, e5, hr, ht, ha0, hin]
 refine z _ ?_
 clear z Z
 refine AT_block ?_
 refine sr fun Z z => ?_
 simp [row_map, hb10, hb24, e1, e2, e3, e4, e5, hr, ht, ha0, hin]
 refine z _ ?_
 clear z Z
 refine AT_cond (b := false) (g := none) (by simp [hb10, hb24, e1, e2, e3, e4, e5, hr, ht, ha0, hin]) (fun hb => ?_) (fun hb => ?_)
 cases hb
 clear hb
 refine sr fun Z z => ?_
 simp [row_map, hb10, hb24, e1, e2, e3, e4, e5, hr, ht, ha0, hin]
 refine z _ ?_
 clear z Z
 refine AT_cond (b := false) (g := none) (by simp [hb10, hb24, e1, e2, e3, e4, e5, hr, ht, ha0, hin]) (fun hb => ?_) (fun hb => ?_)
 cases hb
 clear hb
 refine sr fun Z z => ?_
 simp [row_map, hb10, hb24, e1, e2, e3, e4, e5, hr, ht, ha0, hin]
 refine z _ ?_
 clear z Z
 refine AT_cond (b := false) (g := none) (by simp [hb10, hb24, e1, e2, e3, e4, e5, hr, ht, ha0, hin]) (fun hb => ?_) (fun hb => ?_)
 cases hb
 clear hb
 refine AT_seq_k fun K54 hK54 => ?_
 refine sr fun Z z => ?_
 simp [row_map, hb10, hb24, e1, e2, e3, e4, e5, hr, ht, ha0, hin]
 refine z _ ?_
 clear z Z
 refine AT_cond (b := false) (g := none) (by simp [hb10, hb24, e1, e2, e3, e4, e5, hr, ht, ha0, hin]) (fun hb => ?_) (fun hb => ?_)
 cases hb
 clear hb
 refine AT_region_q fun Z z => ?_
 simp [row_map, hb10, hb24, e1, e2, e3, e4, e5, hr, ht, ha0, hin]
 refine z _ ?_
 clear z Z
 simp only [nrm, reduceIte, Nat.reduceEqDiff]
 refine hK54 _ ?_
 refine AT_cond (b := false) (g := none) (by simp [hb10, hb24, e1, e2, e3, e4, e5, hr, ht, ha0, hin]) (fun hb => ?_) (fun hb => ?_)
 cases hb
 clear hb
 refine AT_skip ?_
 refine hK53 _ ?_
 refine sr fun Z z => ?_
 simp [row_map, hb10, hb24, e1, e2, e3, e4, e5, hr, ht, ha0, hin]
 refine z _ ?_
 clear z Z
 refine AT_ret ?_
 simp [row_map, Tryz.f20]
 (· rw [rightE_ok, hL, hT]; simp [bodyE, kidsE, typedE, e1, e2, e3, e4, e5, hr])
 refine sr fun Z z => ?_
 have hT : okT kd ta = true := by rw [hc2, List.drop_eq_nil_of_le hb24]; rfl
 simp [row_map, hb10, hb24, e1, e2, e3, e4, e5, hr]
 refine z _ ?_
 clear z Z
 refine AT_seq_k fun K55 hK55 => ?_
 refine sr fun Z z => ?_
 simp [row_map, hb10, hb24, e1, e2, e3, e4, e5, hr]
 refine RVn_call (c_ref04x_Right g rnd (.mk tn tas tp) (by omega)) ?_
 simp [row_map, hb10, hb24, e1, e2, e3, e4, e5, hr]
 refine z _ ?_
 clear z Z
 refine AT_cond (b := true) (g := none) (by simp [hb10, hb24, e1, e2, e3, e4, e5, hr]) (fun hb => ?_) (fun hb => ?_)
 clear hb
 refine sr fun Z z => ?_
 simp [row_map, hb10, hb24, e1, e2, e3, e4, e5, hr]
 refine z _ ?_
 clear z Z
 refine AT_ret ?_
 simp [row_map, Tryz.f20]
 (· rw [rightE_ok, hL, hT]; simp [bodyE, kidsE, typedE, e1, e2, e3, e4, e5, hr])
 cases hb

end Go.Proofs.YtepbmjchhcmcoaaGreatDoor
end

section
/- Contracts: the reference compares declarations. -/
set_option linter.all false
set_option maxHeartbeats 1000000
set_option maxRecDepth 10000
namespace Go.Proofs.YtepbmjchhcmcoaaGreatDoor
open Go Go.Pv
variable (g : Nat → Option (List AV)) (rnd : Bool)

theorem c_ref06x_formals (a b : List Fm) (hw : wtFs a ≤ 1000000000) (hl : a.length ≤ 1000000000) : Valid Tryz.prog (G0 g rnd) 81 [.slice (a.map encF), .slice (b.map encF), .bool false] (.bool (eqL sameF a b)) := by

 refine valid_of [] Tryz.func81 rfl (by kernel_rfl) ?_
 refine sr fun Z z => ?_
 simp [row_map, encF, Tryz.f81]
 refine z _ ?_
 clear z Z
 refine AT_seq_k fun K1 hK1 => ?_
 refine sr fun Z z => ?_
 simp [row_map, encF]
 refine z _ ?_
 clear z Z
 refine AT_cond (g := none) rfl (fun hb12 => ?_) (fun hb12 => ?_)
 simp [row_map, encF] at hb12
 refine sr fun Z z => ?_
 simp [row_map, encF, hb12]
 refine z _ ?_
 clear z Z
 refine AT_ret ?_
 simp [row_map, encF, Tryz.f81]
 (· rw [eqL_len (show a.length ≠ b.length by omega)])
 simp [row_map, encF] at hb12
 have hab : a.length = b.length := by omega
 refine AT_skip ?_
 simp only [nrm, reduceIte, Nat.reduceEqDiff]
 refine hK1 _ ?_
 refine AT_seq_k fun K2 hK2 => ?_
 refine sr fun Z z => ?_
 simp [row_map, encF]
 refine z _ ?_
 clear z Z
 refine AT_block ?_
 refine AT_loop_q [0,1,2,7] [] (fun j s => ∃ k, k ≤ a.length ∧ eqL sameF a b = eqL sameF (a.drop k) (b.drop k) ∧ j = a.length - k ∧ s = { n := 72, tm := [(0, .v (.slice (a.map encF)) none), (1, .v (.slice (b.map encF)) none), (2, .v (.bool false) none), (7, .v (.int .i64 k) none)], bx := [], tb := [], sh := [], hint := [] }) (a.length) (by first | rfl | simp) ?_ ?_
 exact ⟨0, by simp⟩
 rintro j s ⟨k, hk, hc, rfl, rfl⟩ K3 hK3
 refine AT_seq_k fun K4 hK4 => ?_
 refine sr fun Z z => ?_
 simp [row_map, encF]
 refine z _ ?_
 clear z Z
 refine AT_cond (g := none) rfl (fun hb16 => ?_) (fun hb16 => ?_)
 simp [row_map, encF] at hb16
 refine AT_skip ?_
 simp only [nrm, reduceIte, Nat.reduceEqDiff]
 refine hK4 _ ?_
 refine AT_seq_k fun K5 hK5 => ?_
 refine AT_block ?_
 refine AT_seq_k fun K6 hK6 => ?_
 cases h1 : (a[k].name == b[k].name)
 refine AT_seq_draw Pt.mixed (by kernel_rfl) fun Z z => ?_
 have hkb : k < b.length := by omega
 have hka : k < a.length := by omega
 have hda := List.drop_eq_getElem_cons hka
 have hdb := List.drop_eq_getElem_cons hkb
 have hm9 := wtFs_mem (l := a) (f := a[k]) (by simp)
 have hm8 : wtF a[k] = a[k].name.length + 1 + wt a[k].ty := rfl
 simp [row_map, encF, hkb, hb16, h1]
 refine z _ ?_
 clear z Z
 refine AT_cond (b := true) (g := none) (by simp [hb16, h1]) (fun hb => ?_) (fun hb => ?_)
 clear hb
 refine sr fun Z z => ?_
 simp [row_map, encF, hb16, h1]
 refine z _ ?_
 clear z Z
 refine AT_ret ?_
 simp [row_map, encF, Tryz.f81]
 (rw [hc, hda, hdb, eqL_cons, sameF, h1]; rfl)
 cases hb
 cases h2 : (cmpT a[k].ty b[k].ty == 0)
 refine AT_seq_draw Pt.mixed (by kernel_rfl) fun Z z => ?_
 have hkb : k < b.length := by omega
 have hka : k < a.length := by omega
 have hda := List.drop_eq_getElem_cons hka
 have hdb := List.drop_eq_getElem_cons hkb
 have hm9 := wtFs_mem (l := a) (f := a[k]) (by simp)
 have hm8 : wtF a[k] = a[k].name.length + 1 + wt a[k].ty := rfl
 simp [row_map, encF, hkb, hb16, h1, h2]
 refine RVdn_call ((by have h := c_ref04x_Same g rnd a[k].ty b[k].ty (by omega); simp only [encTy_def] at h; exact h)) ?_
 simp [row_map, encF, hkb, hb16, h1, h2]
 repeat refine sg ?_
 refine z _ ?_
 clear z Z
 refine AT_cond (b := true) (g := none) (by simp [hb16, h1, h2]) (fun hb => ?_) (fun hb => ?_)
 clear hb
 refine sr fun Z z => ?_
 simp [row_map, encF, hb16, h1, h2]
 refine z _ ?_
 clear z Z
 refine AT_ret ?_
 simp [row_map, encF, Tryz.f81]
 (rw [hc, hda, hdb, eqL_cons, sameF, h2, h1]; rfl)
 cases hb
 refine AT_seq_draw Pt.mixed (by kernel_rfl) fun Z z => ?_
 have hkb : k < b.length := by omega
 have hka : k < a.length := by omega
 have hda := List.drop_eq_getElem_cons hka
 have hdb := List.drop_eq_getElem_cons hkb
 have hm9 := wtFs_mem (l := a) (f := a[k]) (by simp)
 have hm8 : wtF a[k] = a[k].name.length + 1 + wt a[k].ty := rfl
 simp [row_map, encF, hkb, hb16, h1, h2]
 refine RVdn_call ((by have h := c_ref04x_Same g rnd a[k].ty b[k].ty (by omega); simp only [encTy_def] at h; exact h)) ?_
 simp [row_map, encF, hkb, hb16, h1, h2]
 repeat refine sg ?_
 refine z _ ?_
 clear z Z
 refine AT_cond (b := false) (g := none) (by simp [hb16, h1, h2]) (fun hb => ?_) (fun hb => ?_)
 cases hb
 clear hb
 refine AT_skip ?_
 simp only [nrm, reduceIte, Nat.reduceEqDiff]
 refine hK6 _ ?_
 refine AT_seq_draw Pt.mixed (by kernel_rfl) fun Z z => ?_
 simp [row_map, encF, hb16, h1, h2]
 refine z _ ?_
 clear z Z
 refine AT_cond (b := false) (g := none) (by simp [hb16, h1, h2]) (fun hb => ?_) (fun hb => ?_)
 cases hb
 clear hb
 refine AT_skip ?_
 simp only [nrm, reduceIte, Nat.reduceEqDiff]
 refine hK5 _ ?_
 refine AT_region_q fun Z z => ?_
 simp [row_map, encF, hb16, h1, h2]
 repeat refine sg ?_
 refine z _ ?_
 clear z Z
 simp only [nrm, reduceIte, Nat.reduceEqDiff]
 refine hK3 _ (by first | rfl | simp) (a.length - (k+1)) (by omega) ?_
 refine ⟨k+1, by omega, ?_, by omega, by simp⟩
 rw [hc, hda, hdb, eqL_cons, sameF, h2, h1]; rfl
 simp [row_map, encF] at hb16
 refine AT_exit ?_
 simp only [nrm, reduceIte, Nat.reduceEqDiff]
 refine hK2 _ ?_
 refine sr fun Z z => ?_
 simp [row_map, encF, hb16]
 refine z _ ?_
 clear z Z
 refine AT_ret ?_
 simp [row_map, encF, Tryz.f81]
 (rw [hc, List.drop_eq_nil_of_le (by omega), List.drop_eq_nil_of_le (show b.length ≤ k by omega)]; rfl)

theorem c_ref06x_params (a b : List Fm) (hw : wtFs a ≤ 1000000000) (hl : a.length ≤ 1000000000) : Valid Tryz.prog (G0 g rnd) 82 [.slice (a.map encF), .slice (b.map encF), .bool false] (.bool (eqL sameF a b)) := by

 refine valid_of [] Tryz.func82 rfl (by kernel_rfl) ?_
 refine sr fun Z z => ?_
 simp [row_map, encF, Tryz.f82]
 refine z _ ?_
 clear z Z
 refine AT_seq_k fun K1 hK1 => ?_
 refine sr fun Z z => ?_
 simp [row_map, encF]
 refine z _ ?_
 clear z Z
 refine AT_cond (g := none) rfl (fun hb12 => ?_) (fun hb12 => ?_)
 simp [row_map, encF] at hb12
 refine sr fun Z z => ?_
 simp [row_map, encF, hb12]
 refine z _ ?_
 clear z Z
 refine AT_ret ?_
 simp [row_map, encF, Tryz.f82]
 (· rw [eqL_len (show a.length ≠ b.length by omega)])
 simp [row_map, encF] at hb12
 have hab : a.length = b.length := by omega
 refine AT_skip ?_
 simp only [nrm, reduceIte, Nat.reduceEqDiff]
 refine hK1 _ ?_
 refine AT_seq_k fun K2 hK2 => ?_
 refine sr fun Z z => ?_
 simp [row_map, encF]
 refine z _ ?_
 clear z Z
 refine AT_block ?_
 refine AT_loop_q [0,1,2,7] [] (fun j s => ∃ k, k ≤ a.length ∧ eqL sameF a b = eqL sameF (a.drop k) (b.drop k) ∧ j = a.length - k ∧ s = { n := 72, tm := [(0, .v (.slice (a.map encF)) none), (1, .v (.slice (b.map encF)) none), (2, .v (.bool false) none), (7, .v (.int .i64 k) none)], bx := [], tb := [], sh := [], hint := [] }) (a.length) (by first | rfl | simp) ?_ ?_
 exact ⟨0, by simp⟩
 rintro j s ⟨k, hk, hc, rfl, rfl⟩ K3 hK3
 refine AT_seq_k fun K4 hK4 => ?_
 refine sr fun Z z => ?_
 simp [row_map, encF]
 refine z _ ?_
 clear z Z
 refine AT_cond (g := none) rfl (fun hb16 => ?_) (fun hb16 => ?_)
 simp [row_map, encF] at hb16
 refine AT_skip ?_
 simp only [nrm, reduceIte, Nat.reduceEqDiff]
 refine hK4 _ ?_
 refine AT_seq_k fun K5 hK5 => ?_
 refine AT_block ?_
 refine AT_seq_k fun K6 hK6 => ?_
 cases h1 : (a[k].name == b[k].name)
 refine AT_seq_draw Pt.mixed (by kernel_rfl) fun Z z => ?_
 have hkb : k < b.length := by omega
 have hka : k < a.length := by omega
 have hda := List.drop_eq_getElem_cons hka
 have hdb := List.drop_eq_getElem_cons hkb
 have hm9 := wtFs_mem (l := a) (f := a[k]) (by simp)
 have hm8 : wtF a[k] = a[k].name.length + 1 + wt a[k].ty := rfl
 simp [row_map, encF, hkb, hb16, h1]
 refine z _ ?_
 clear z Z
 refine AT_cond (b := true) (g := none) (by simp [hb16, h1]) (fun hb => ?_) (fun hb => ?_)
 clear hb
 refine sr fun Z z => ?_
 simp [row_map, encF, hb16, h1]
 refine z _ ?_
 clear z Z
 refine AT_ret ?_
 simp [row_map, encF, Tryz.f82]
 (rw [hc, hda, hdb, eqL_cons, sameF, h1]; rfl)
 cases hb
 cases h2 : (cmpT a[k].ty b[k].ty == 0)
 refine AT_seq_draw Pt.mixed (by kernel_rfl) fun Z z => ?_
 have hkb : k < b.length := by omega
 have hka : k < a.length := by omega
 have hda := List.drop_eq_getElem_cons hka
 have hdb := List.drop_eq_getElem_cons hkb
 have hm9 := wtFs_mem (l := a) (f := a[k]) (by simp)
 have hm8 : wtF a[k] = a[k].name.length + 1 + wt a[k].ty := rfl
 simp [row_map, encF, hkb, hb16, h1, h2]
 refine RVdn_call ((by have h := c_ref04x_Same g rnd a[k].ty b[k].ty (by omega); simp only [encTy_def] at h; exact h)) ?_
 simp [row_map, encF, hkb, hb16, h1, h2]
 repeat refine sg ?_
 refine z _ ?_
 clear z Z
 refine AT_cond (b := true) (g := none) (by simp [hb16, h1, h2]) (fun hb => ?_) (fun hb => ?_)
 clear hb
 refine sr fun Z z => ?_
 simp [row_map, encF, hb16, h1, h2]
 refine z _ ?_
 clear z Z
 refine AT_ret ?_
 simp [row_map, encF, Tryz.f82]
 (rw [hc, hda, hdb, eqL_cons, sameF, h2, h1]; rfl)
 cases hb
 refine AT_seq_draw Pt.mixed (by kernel_rfl) fun Z z => ?_
 have hkb : k < b.length := by omega
 have hka : k < a.length := by omega
 have hda := List.drop_eq_getElem_cons hka
 have hdb := List.drop_eq_getElem_cons hkb
 have hm9 := wtFs_mem (l := a) (f := a[k]) (by simp)
 have hm8 : wtF a[k] = a[k].name.length + 1 + wt a[k].ty := rfl
 simp [row_map, encF, hkb, hb16, h1, h2]
 refine RVdn_call ((by have h := c_ref04x_Same g rnd a[k].ty b[k].ty (by omega); simp only [encTy_def] at h; exact h)) ?_
 simp [row_map, encF, hkb, hb16, h1, h2]
 repeat refine sg ?_
 refine z _ ?_
 clear z Z
 refine AT_cond (b := false) (g := none) (by simp [hb16, h1, h2]) (fun hb => ?_) (fun hb => ?_)
 cases hb
 clear hb
 refine AT_skip ?_
 simp only [nrm, reduceIte, Nat.reduceEqDiff]
 refine hK6 _ ?_
 refine AT_seq_draw Pt.mixed (by kernel_rfl) fun Z z => ?_
 simp [row_map, encF, hb16, h1, h2]
 refine z _ ?_
 clear z Z
 refine AT_cond (b := false) (g := none) (by simp [hb16, h1, h2]) (fun hb => ?_) (fun hb => ?_)
 cases hb
 clear hb
 refine AT_skip ?_
 simp only [nrm, reduceIte, Nat.reduceEqDiff]
 refine hK5 _ ?_
 refine AT_region_q fun Z z => ?_
 simp [row_map, encF, hb16, h1, h2]
 repeat refine sg ?_
 refine z _ ?_
 clear z Z
 simp only [nrm, reduceIte, Nat.reduceEqDiff]
 refine hK3 _ (by first | rfl | simp) (a.length - (k+1)) (by omega) ?_
 refine ⟨k+1, by omega, ?_, by omega, by simp⟩
 rw [hc, hda, hdb, eqL_cons, sameF, h2, h1]; rfl
 simp [row_map, encF] at hb16
 refine AT_exit ?_
 simp only [nrm, reduceIte, Nat.reduceEqDiff]
 refine hK2 _ ?_
 refine sr fun Z z => ?_
 simp [row_map, encF, hb16]
 refine z _ ?_
 clear z Z
 refine AT_ret ?_
 simp [row_map, encF, Tryz.f82]
 (rw [hc, List.drop_eq_nil_of_le (by omega), List.drop_eq_nil_of_le (show b.length ≤ k by omega)]; rfl)

theorem c_ref06x_Sig (a b : Sg) (hw : wtG a ≤ 1000000000) : Valid Tryz.prog (G0 g rnd) 52 [.agg (encG a), .agg (encG b), .bool false] (.bool (sameG a b)) := by
 have hw2 : a.name.length + 1 + wtFs a.fms + wtFs a.pms + wt a.res ≤ 1000000000 := hw
 refine valid_of [] Tryz.func52 rfl (by kernel_rfl) ?_
 refine sr fun Z z => ?_
 simp [encG, Tryz.f52]
 refine z _ ?_
 clear z Z
 refine AT_seq_k fun K1 hK1 => ?_
 cases h1 : (a.name == b.name)
 refine sr fun Z z => ?_
 simp [encG, h1]
 refine z _ ?_
 clear z Z
 refine AT_cond (b := true) (g := none) (by simp [h1]) (fun hb => ?_) (fun hb => ?_)
 clear hb
 refine sr fun Z z => ?_
 simp [encG, h1]
 refine z _ ?_
 clear z Z
 refine AT_ret ?_
 simp [encG, Tryz.f52]
 (simp only [sameG, h1]; rfl)
 cases hb
 cases h2 : (eqL sameF a.fms b.fms)
 refine sr fun Z z => ?_
 simp [encG, h1, h2]
 refine RVn_call (c_ref06x_formals g rnd a.fms b.fms (by omega) (by have := wtFs_len a.fms; omega)) ?_
 simp [encG, h1, h2]
 repeat refine sg ?_
 refine z _ ?_
 clear z Z
 refine AT_cond (b := true) (g := none) (by simp [h1, h2]) (fun hb => ?_) (fun hb => ?_)
 clear hb
 refine sr fun Z z => ?_
 simp [encG, h1, h2]
 refine z _ ?_
 clear z Z
 refine AT_ret ?_
 simp [encG, Tryz.f52]
 (simp only [sameG, h1, h2]; rfl)
 cases hb
 cases h3 : (eqL sameF a.pms b.pms)
 refine sr fun Z z => ?_
 simp [encG, h1, h2, h3]
 refine RVn_call (c_ref06x_formals g rnd a.fms b.fms (by omega) (by have := wtFs_len a.fms; omega)) ?_
 simp [encG, h1, h2, h3]
 repeat refine sg ?_
 refine RVn_call (c_ref06x_params g rnd a.pms b.pms (by omega) (by have := wtFs_len a.pms; omega)) ?_
 simp [encG, h1, h2, h3]
 repeat refine sg ?_
 refine z _ ?_
 clear z Z
 refine AT_cond (b := true) (g := none) (by simp [h1, h2, h3]) (fun hb => ?_) (fun hb => ?_)
 clear hb
 refine sr fun Z z => ?_
 simp [encG, h1, h2, h3]
 refine z _ ?_
 clear z Z
 refine AT_ret ?_
 simp [encG, Tryz.f52]
 (simp only [sameG, h1, h2, h3]; rfl)
 cases hb
 cases h4 : (cmpT a.res b.res == 0)
 refine sr fun Z z => ?_
 simp [encG, h1, h2, h3, h4]
 refine RVn_call (c_ref06x_formals g rnd a.fms b.fms (by omega) (by have := wtFs_len a.fms; omega)) ?_
 simp [encG, h1, h2, h3, h4]
 repeat refine sg ?_
 refine RVn_call (c_ref06x_params g rnd a.pms b.pms (by omega) (by have := wtFs_len a.pms; omega)) ?_
 simp [encG, h1, h2, h3, h4]
 repeat refine sg ?_
 refine RVn_call ((by have h := c_ref04x_Same g rnd a.res b.res (by omega); simp only [encTy_def] at h; exact h)) ?_
 simp [encG, h1, h2, h3, h4]
 repeat refine sg ?_
 refine z _ ?_
 clear z Z
 refine AT_cond (b := true) (g := none) (by simp [h1, h2, h3, h4]) (fun hb => ?_) (fun hb => ?_)
 clear hb
 refine sr fun Z z => ?_
 simp [encG, h1, h2, h3, h4]
 refine z _ ?_
 clear z Z
 refine AT_ret ?_
 simp [encG, Tryz.f52]
 (simp only [sameG, h1, h2, h3, h4]; rfl)
 cases hb
 refine sr fun Z z => ?_
 simp [encG, h1, h2, h3, h4]
 refine RVn_call (c_ref06x_formals g rnd a.fms b.fms (by omega) (by have := wtFs_len a.fms; omega)) ?_
 simp [encG, h1, h2, h3, h4]
 repeat refine sg ?_
 refine RVn_call (c_ref06x_params g rnd a.pms b.pms (by omega) (by have := wtFs_len a.pms; omega)) ?_
 simp [encG, h1, h2, h3, h4]
 repeat refine sg ?_
 refine RVn_call ((by have h := c_ref04x_Same g rnd a.res b.res (by omega); simp only [encTy_def] at h; exact h)) ?_
 simp [encG, h1, h2, h3, h4]
 repeat refine sg ?_
 refine z _ ?_
 clear z Z
 refine AT_cond (b := false) (g := none) (by simp [h1, h2, h3, h4]) (fun hb => ?_) (fun hb => ?_)
 cases hb
 clear hb
 refine AT_skip ?_
 simp only [nrm, reduceIte, Nat.reduceEqDiff]
 refine hK1 _ ?_
 refine sr fun Z z => ?_
 simp [encG, h1, h2, h3, h4]
 refine z _ ?_
 clear z Z
 refine AT_ret ?_
 simp [encG, Tryz.f52]
 (simp only [sameG, h1, h2, h3, h4]; rfl)

end Go.Proofs.YtepbmjchhcmcoaaGreatDoor
end

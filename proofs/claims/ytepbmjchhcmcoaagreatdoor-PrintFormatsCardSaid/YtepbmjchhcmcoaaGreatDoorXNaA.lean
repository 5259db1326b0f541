/- Contracts. -/
import Derived.Test.YtepbmjchhcmcoaaGreatDoorPt
import Derived.Test.YtepbmjchhcmcoaaGreatDoorPvPb
import Derived.Test.YtepbmjchhcmcoaaGreatDoorPvY
set_option linter.all false
set_option maxHeartbeats 1000000
set_option maxRecDepth 10000
namespace Go.Proofs.YtepbmjchhcmcoaaGreatDoor
open Go Go.Pv
variable (g : Nat → Option (List AV)) (rnd : Bool)

theorem c_name_Class (n : Int) : Valid Tryz.prog (G0 g rnd) 110 [.int .u8 n] (.int .i64 (clsI n)) := by

 refine valid_of [] Tryz.func110 rfl (by kernel_rfl) ?_
 rcases cls_cases n with hc | hc | hc | hc | hc | hc | hc | hc | hc | hc | hc | hc
 have f0 : 97 ≤ n := by omega
 have f1 : n ≤ 122 := by omega
 have f2 : 65 ≤ n := by omega
 have f3 : ¬ n ≤ 90 := by omega
 have f4 : 48 ≤ n := by omega
 have f5 : ¬ n ≤ 57 := by omega
 have e0 : (n == 95) = false := by simp; omega
 have e1 : (n == 9) = false := by simp; omega
 have e2 : (n == 10) = false := by simp; omega
 have e3 : (n == 13) = false := by simp; omega
 have e4 : (n == 32) = false := by simp; omega
 refine sr fun Z z => ?_
 simp [Tryz.f110, f0, f1, f2, f3, f4, f5, e0, e1, e2, e3, e4]
 refine z _ ?_
 clear z Z
 refine AT_seq_k fun K1 hK1 => ?_
 refine AT_block ?_
 refine AT_seq_k fun K2 hK2 => ?_
 refine sr fun Z z => ?_
 simp [f0, f1, f2, f3, f4, f5, e0, e1, e2, e3, e4]
 refine z _ ?_
 clear z Z
 refine cT (by simp [f0, f1, f2, f3, f4, f5, e0, e1, e2, e3, e4]) ?_
 refine AT_skip ?_
 refine hK2 _ ?_
 refine cT (by simp [f0, f1, f2, f3, f4, f5, e0, e1, e2, e3, e4]) ?_
 refine sr fun Z z => ?_
 simp [f0, f1, f2, f3, f4, f5, e0, e1, e2, e3, e4]
 refine z _ ?_
 clear z Z
 refine AT_ret ?_
 simp [Tryz.f110]
 first | (· unfold clsI; repeat (first | omega | split)) | decide
 have f0 : ¬ 97 ≤ n := by omega
 have f1 : n ≤ 122 := by omega
 have f2 : 65 ≤ n := by omega
 have f3 : n ≤ 90 := by omega
 have f4 : 48 ≤ n := by omega
 have f5 : ¬ n ≤ 57 := by omega
 have e0 : (n == 95) = false := by simp; omega
 have e1 : (n == 9) = false := by simp; omega
 have e2 : (n == 10) = false := by simp; omega
 have e3 : (n == 13) = false := by simp; omega
 have e4 : (n == 32) = false := by simp; omega
 refine sr fun Z z => ?_
 simp [f0, f1, f2, f3, f4, f5, e0, e1, e2, e3, e4]
 refine z _ ?_
 clear z Z
 refine AT_seq_k fun K3 hK3 => ?_
 refine AT_block ?_
 refine AT_seq_k fun K4 hK4 => ?_
 refine sr fun Z z => ?_
 simp [f0, f1, f2, f3, f4, f5, e0, e1, e2, e3, e4]
 refine z _ ?_
 clear z Z
 refine cF (by simp [f0, f1, f2, f3, f4, f5, e0, e1, e2, e3, e4]) ?_
 refine AT_region_q fun Z z => ?_
 simp [f0, f1, f2, f3, f4, f5, e0, e1, e2, e3, e4]
 refine z _ ?_
 clear z Z
 refine hK4 _ ?_
 refine cT (by simp [f0, f1, f2, f3, f4, f5, e0, e1, e2, e3, e4]) ?_
 refine sr fun Z z => ?_
 simp [f0, f1, f2, f3, f4, f5, e0, e1, e2, e3, e4]
 refine z _ ?_
 clear z Z
 refine AT_ret ?_
 simp [Tryz.f110]
 first | (· unfold clsI; repeat (first | omega | split)) | decide
 have f0 : ¬ 97 ≤ n := by omega
 have f1 : n ≤ 122 := by omega
 have f2 : ¬ 65 ≤ n := by omega
 have f3 : n ≤ 90 := by omega
 have f4 : 48 ≤ n := by omega
 have f5 : n ≤ 57 := by omega
 have e0 : (n == 95) = false := by simp; omega
 have e1 : (n == 9) = false := by simp; omega
 have e2 : (n == 10) = false := by simp; omega
 have e3 : (n == 13) = false := by simp; omega
 have e4 : (n == 32) = false := by simp; omega
 refine sr fun Z z => ?_
 simp [f0, f1, f2, f3, f4, f5, e0, e1, e2, e3, e4]
 refine z _ ?_
 clear z Z
 refine AT_seq_k fun K5 hK5 => ?_
 refine AT_block ?_
 refine AT_seq_k fun K6 hK6 => ?_
 refine sr fun Z z => ?_
 simp [f0, f1, f2, f3, f4, f5, e0, e1, e2, e3, e4]
 refine z _ ?_
 clear z Z
 refine cF (by simp [f0, f1, f2, f3, f4, f5, e0, e1, e2, e3, e4]) ?_
 refine AT_region_q fun Z z => ?_
 simp [f0, f1, f2, f3, f4, f5, e0, e1, e2, e3, e4]
 refine z _ ?_
 clear z Z
 refine hK6 _ ?_
 refine cF (by simp [f0, f1, f2, f3, f4, f5, e0, e1, e2, e3, e4]) ?_
 refine sr fun Z z => ?_
 simp [f0, f1, f2, f3, f4, f5, e0, e1, e2, e3, e4]
 refine z _ ?_
 clear z Z
 refine cT (by simp [f0, f1, f2, f3, f4, f5, e0, e1, e2, e3, e4]) ?_
 refine sr fun Z z => ?_
 simp [f0, f1, f2, f3, f4, f5, e0, e1, e2, e3, e4]
 refine z _ ?_
 clear z Z
 refine AT_ret ?_
 simp [Tryz.f110]
 first | (· unfold clsI; repeat (first | omega | split)) | decide
 subst hc
 refine sr fun Z z => ?_
 simp
 refine z _ ?_
 clear z Z
 refine AT_seq_k fun K7 hK7 => ?_
 refine AT_block ?_
 refine AT_seq_k fun K8 hK8 => ?_
 refine sr fun Z z => ?_
 simp
 refine z _ ?_
 clear z Z
 refine cF (by simp) ?_
 refine AT_region_q fun Z z => ?_
 simp
 refine z _ ?_
 clear z Z
 refine hK8 _ ?_
 refine cF (by simp) ?_
 refine sr fun Z z => ?_
 simp
 refine z _ ?_
 clear z Z
 refine cF (by simp) ?_
 refine sr fun Z z => ?_
 simp
 refine z _ ?_
 clear z Z
 refine cT (by simp) ?_
 refine sr fun Z z => ?_
 simp
 refine z _ ?_
 clear z Z
 refine AT_ret ?_
 simp [Tryz.f110]
 first | (· unfold clsI; repeat (first | omega | split)) | decide
 subst hc
 refine sr fun Z z => ?_
 simp
 refine z _ ?_
 clear z Z
 refine AT_seq_k fun K9 hK9 => ?_
 refine AT_block ?_
 refine AT_seq_k fun K10 hK10 => ?_
 refine sr fun Z z => ?_
 simp
 refine z _ ?_
 clear z Z
 refine cF (by simp) ?_
 refine AT_region_q fun Z z => ?_
 simp
 refine z _ ?_
 clear z Z
 refine hK10 _ ?_
 refine cF (by simp) ?_
 refine sr fun Z z => ?_
 simp
 refine z _ ?_
 clear z Z
 refine cF (by simp) ?_
 refine sr fun Z z => ?_
 simp
 refine z _ ?_
 clear z Z
 refine cF (by simp) ?_
 refine AT_seq_k fun K11 hK11 => ?_
 refine sr fun Z z => ?_
 simp
 refine z _ ?_
 clear z Z
 refine cT (by simp) ?_
 refine AT_skip ?_
 refine hK11 _ ?_
 refine cT (by simp) ?_
 refine sr fun Z z => ?_
 simp
 refine z _ ?_
 clear z Z
 refine AT_ret ?_
 simp [Tryz.f110]
 first | (· unfold clsI; repeat (first | omega | split)) | decide
 subst hc
 refine sr fun Z z => ?_
 simp
 refine z _ ?_
 clear z Z
 refine AT_seq_k fun K12 hK12 => ?_
 refine AT_block ?_
 refine AT_seq_k fun K13 hK13 => ?_
 refine sr fun Z z => ?_
 simp
 refine z _ ?_
 clear z Z
 refine cF (by simp) ?_
 refine AT_region_q fun Z z => ?_
 simp
 refine z _ ?_
 clear z Z
 refine hK13 _ ?_
 refine cF (by simp) ?_
 refine sr fun Z z => ?_
 simp
 refine z _ ?_
 clear z Z
 refine cF (by simp) ?_
 refine sr fun Z z => ?_
 simp
 refine z _ ?_
 clear z Z
 refine cF (by simp) ?_
 refine AT_seq_k fun K14 hK14 => ?_
 refine sr fun Z z => ?_
 simp
 refine z _ ?_
 clear z Z
 refine cF (by simp) ?_
 refine sr fun Z z => ?_
 simp
 refine z _ ?_
 clear z Z
 refine cT (by simp) ?_
 refine AT_skip ?_
 refine hK14 _ ?_
 refine cT (by simp) ?_
 refine sr fun Z z => ?_
 simp
 refine z _ ?_
 clear z Z
 refine AT_ret ?_
 simp [Tryz.f110]
 first | (· unfold clsI; repeat (first | omega | split)) | decide
 subst hc
 refine sr fun Z z => ?_
 simp
 refine z _ ?_
 clear z Z
 refine AT_seq_k fun K15 hK15 => ?_
 refine AT_block ?_
 refine AT_seq_k fun K16 hK16 => ?_
 refine sr fun Z z => ?_
 simp
 refine z _ ?_
 clear z Z
 refine cF (by simp) ?_
 refine AT_region_q fun Z z => ?_
 simp
 refine z _ ?_
 clear z Z
 refine hK16 _ ?_
 refine cF (by simp) ?_
 refine sr fun Z z => ?_
 simp
 refine z _ ?_
 clear z Z
 refine cF (by simp) ?_
 refine sr fun Z z => ?_
 simp
 refine z _ ?_
 clear z Z
 refine cF (by simp) ?_
 refine AT_seq_k fun K17 hK17 => ?_
 refine sr fun Z z => ?_
 simp
 refine z _ ?_
 clear z Z
 refine cF (by simp) ?_
 refine sr fun Z z => ?_
 simp
 refine z _ ?_
 clear z Z
 refine cF (by simp) ?_
 refine sr fun Z z => ?_
 simp
 refine z _ ?_
 clear z Z
 refine cT (by simp) ?_
 refine AT_skip ?_
 refine hK17 _ ?_
 refine cT (by simp) ?_
 refine sr fun Z z => ?_
 simp
 refine z _ ?_
 clear z Z
 refine AT_ret ?_
 simp [Tryz.f110]
 first | (· unfold clsI; repeat (first | omega | split)) | decide
 subst hc
 refine sr fun Z z => ?_
 simp
 refine z _ ?_
 clear z Z
 refine AT_seq_k fun K18 hK18 => ?_
 refine AT_block ?_
 refine AT_seq_k fun K19 hK19 => ?_
 refine sr fun Z z => ?_
 simp
 refine z _ ?_
 clear z Z
 refine cF (by simp) ?_
 refine AT_region_q fun Z z => ?_
 simp
 refine z _ ?_
 clear z Z
 refine hK19 _ ?_
 refine cF (by simp) ?_
 refine sr fun Z z => ?_
 simp
 refine z _ ?_
 clear z Z
 refine cF (by simp) ?_
 refine sr fun Z z => ?_
 simp
 refine z _ ?_
 clear z Z
 refine cF (by simp) ?_
 refine AT_seq_k fun K20 hK20 => ?_
 refine sr fun Z z => ?_
 simp
 refine z _ ?_
 clear z Z
 refine cF (by simp) ?_
 refine sr fun Z z => ?_
 simp
 refine z _ ?_
 clear z Z
 refine cF (by simp) ?_
 refine sr fun Z z => ?_
 simp
 refine z _ ?_
 clear z Z
 refine cF (by simp) ?_
 refine AT_region_q fun Z z => ?_
 simp
 refine z _ ?_
 clear z Z
 refine hK20 _ ?_
 refine cT (by simp) ?_
 refine sr fun Z z => ?_
 simp
 refine z _ ?_
 clear z Z
 refine AT_ret ?_
 simp [Tryz.f110]
 first | (· unfold clsI; repeat (first | omega | split)) | decide
 have f0 : 97 ≤ n := by omega
 have f1 : ¬ n ≤ 122 := by omega
 have f2 : 65 ≤ n := by omega
 have f3 : ¬ n ≤ 90 := by omega
 have f4 : 48 ≤ n := by omega
 have f5 : ¬ n ≤ 57 := by omega
 have e0 : (n == 95) = false := by simp; omega
 have e1 : (n == 9) = false := by simp; omega
 have e2 : (n == 10) = false := by simp; omega
 have e3 : (n == 13) = false := by simp; omega
 have e4 : (n == 32) = false := by simp; omega
 refine sr fun Z z => ?_
 simp [f0, f1, f2, f3, f4, f5, e0, e1, e2, e3, e4]
 refine z _ ?_
 clear z Z
 refine AT_seq_k fun K21 hK21 => ?_
 refine AT_block ?_
 refine AT_seq_k fun K22 hK22 => ?_
 refine sr fun Z z => ?_
 simp [f0, f1, f2, f3, f4, f5, e0, e1, e2, e3, e4]
 refine z _ ?_
 clear z Z
 refine cF (by simp [f0, f1, f2, f3, f4, f5, e0, e1, e2, e3, e4]) ?_
 refine AT_region_q fun Z z => ?_
 simp [f0, f1, f2, f3, f4, f5, e0, e1, e2, e3, e4]
 refine z _ ?_
 clear z Z
 refine hK22 _ ?_
 refine cF (by simp [f0, f1, f2, f3, f4, f5, e0, e1, e2, e3, e4]) ?_
 refine sr fun Z z => ?_
 simp [f0, f1, f2, f3, f4, f5, e0, e1, e2, e3, e4]
 refine z _ ?_
 clear z Z
 refine cF (by simp [f0, f1, f2, f3, f4, f5, e0, e1, e2, e3, e4]) ?_
 refine sr fun Z z => ?_
 simp [f0, f1, f2, f3, f4, f5, e0, e1, e2, e3, e4]
 refine z _ ?_
 clear z Z
 refine cF (by simp [f0, f1, f2, f3, f4, f5, e0, e1, e2, e3, e4]) ?_
 refine AT_seq_k fun K23 hK23 => ?_
 refine sr fun Z z => ?_
 simp [f0, f1, f2, f3, f4, f5, e0, e1, e2, e3, e4]
 refine z _ ?_
 clear z Z
 refine cF (by simp [f0, f1, f2, f3, f4, f5, e0, e1, e2, e3, e4]) ?_
 refine sr fun Z z => ?_
 simp [f0, f1, f2, f3, f4, f5, e0, e1, e2, e3, e4]
 refine z _ ?_
 clear z Z
 refine cF (by simp [f0, f1, f2, f3, f4, f5, e0, e1, e2, e3, e4]) ?_
 refine sr fun Z z => ?_
 simp [f0, f1, f2, f3, f4, f5, e0, e1, e2, e3, e4]
 refine z _ ?_
 clear z Z
 refine cF (by simp [f0, f1, f2, f3, f4, f5, e0, e1, e2, e3, e4]) ?_
 refine AT_region_q fun Z z => ?_
 simp [f0, f1, f2, f3, f4, f5, e0, e1, e2, e3, e4]
 refine z _ ?_
 clear z Z
 refine hK23 _ ?_
 refine cF (by simp [f0, f1, f2, f3, f4, f5, e0, e1, e2, e3, e4]) ?_
 refine AT_skip ?_
 refine hK21 _ ?_
 refine sr fun Z z => ?_
 simp [f0, f1, f2, f3, f4, f5, e0, e1, e2, e3, e4]
 refine z _ ?_
 clear z Z
 refine AT_ret ?_
 simp [Tryz.f110]
 first | (· unfold clsI; repeat (first | omega | split)) | decide
 have f0 : ¬ 97 ≤ n := by omega
 have f1 : n ≤ 122 := by omega
 have f2 : 65 ≤ n := by omega
 have f3 : ¬ n ≤ 90 := by omega
 have f4 : 48 ≤ n := by omega
 have f5 : ¬ n ≤ 57 := by omega
 have e0 : (n == 95) = false := by simp; omega
 have e1 : (n == 9) = false := by simp; omega
 have e2 : (n == 10) = false := by simp; omega
 have e3 : (n == 13) = false := by simp; omega
 have e4 : (n == 32) = false := by simp; omega
 refine sr fun Z z => ?_
 simp [f0, f1, f2, f3, f4, f5, e0, e1, e2, e3, e4]
 refine z _ ?_
 clear z Z
 refine AT_seq_k fun K24 hK24 => ?_
 refine AT_block ?_
 refine AT_seq_k fun K25 hK25 => ?_
 refine sr fun Z z => ?_
 simp [f0, f1, f2, f3, f4, f5, e0, e1, e2, e3, e4]
 refine z _ ?_
 clear z Z
 refine cF (by simp [f0, f1, f2, f3, f4, f5, e0, e1, e2, e3, e4]) ?_
 refine AT_region_q fun Z z => ?_
 simp [f0, f1, f2, f3, f4, f5, e0, e1, e2, e3, e4]
 refine z _ ?_
 clear z Z
 refine hK25 _ ?_
 refine cF (by simp [f0, f1, f2, f3, f4, f5, e0, e1, e2, e3, e4]) ?_
 refine sr fun Z z => ?_
 simp [f0, f1, f2, f3, f4, f5, e0, e1, e2, e3, e4]
 refine z _ ?_
 clear z Z
 refine cF (by simp [f0, f1, f2, f3, f4, f5, e0, e1, e2, e3, e4]) ?_
 refine sr fun Z z => ?_
 simp [f0, f1, f2, f3, f4, f5, e0, e1, e2, e3, e4]
 refine z _ ?_
 clear z Z
 refine cF (by simp [f0, f1, f2, f3, f4, f5, e0, e1, e2, e3, e4]) ?_
 refine AT_seq_k fun K26 hK26 => ?_
 refine sr fun Z z => ?_
 simp [f0, f1, f2, f3, f4, f5, e0, e1, e2, e3, e4]
 refine z _ ?_
 clear z Z
 refine cF (by simp [f0, f1, f2, f3, f4, f5, e0, e1, e2, e3, e4]) ?_
 refine sr fun Z z => ?_
 simp [f0, f1, f2, f3, f4, f5, e0, e1, e2, e3, e4]
 refine z _ ?_
 clear z Z
 refine cF (by simp [f0, f1, f2, f3, f4, f5, e0, e1, e2, e3, e4]) ?_
 refine sr fun Z z => ?_
 simp [f0, f1, f2, f3, f4, f5, e0, e1, e2, e3, e4]
 refine z _ ?_
 clear z Z
 refine cF (by simp [f0, f1, f2, f3, f4, f5, e0, e1, e2, e3, e4]) ?_
 refine AT_region_q fun Z z => ?_
 simp [f0, f1, f2, f3, f4, f5, e0, e1, e2, e3, e4]
 refine z _ ?_
 clear z Z
 refine hK26 _ ?_
 refine cF (by simp [f0, f1, f2, f3, f4, f5, e0, e1, e2, e3, e4]) ?_
 refine AT_skip ?_
 refine hK24 _ ?_
 refine sr fun Z z => ?_
 simp [f0, f1, f2, f3, f4, f5, e0, e1, e2, e3, e4]
 refine z _ ?_
 clear z Z
 refine AT_ret ?_
 simp [Tryz.f110]
 first | (· unfold clsI; repeat (first | omega | split)) | decide
 have f0 : ¬ 97 ≤ n := by omega
 have f1 : n ≤ 122 := by omega
 have f2 : ¬ 65 ≤ n := by omega
 have f3 : n ≤ 90 := by omega
 have f4 : 48 ≤ n := by omega
 have f5 : ¬ n ≤ 57 := by omega
 have e0 : (n == 95) = false := by simp; omega
 have e1 : (n == 9) = false := by simp; omega
 have e2 : (n == 10) = false := by simp; omega
 have e3 : (n == 13) = false := by simp; omega
 have e4 : (n == 32) = false := by simp; omega
 refine sr fun Z z => ?_
 simp [f0, f1, f2, f3, f4, f5, e0, e1, e2, e3, e4]
 refine z _ ?_
 clear z Z
 refine AT_seq_k fun K27 hK27 => ?_
 refine AT_block ?_
 refine AT_seq_k fun K28 hK28 => ?_
 refine sr fun Z z => ?_
 simp [f0, f1, f2, f3, f4, f5, e0, e1, e2, e3, e4]
 refine z _ ?_
 clear z Z
 refine cF (by simp [f0, f1, f2, f3, f4, f5, e0, e1, e2, e3, e4]) ?_
 refine AT_region_q fun Z z => ?_
 simp [f0, f1, f2, f3, f4, f5, e0, e1, e2, e3, e4]
 refine z _ ?_
 clear z Z
 refine hK28 _ ?_
 refine cF (by simp [f0, f1, f2, f3, f4, f5, e0, e1, e2, e3, e4]) ?_
 refine sr fun Z z => ?_
 simp [f0, f1, f2, f3, f4, f5, e0, e1, e2, e3, e4]
 refine z _ ?_
 clear z Z
 refine cF (by simp [f0, f1, f2, f3, f4, f5, e0, e1, e2, e3, e4]) ?_
 refine sr fun Z z => ?_
 simp [f0, f1, f2, f3, f4, f5, e0, e1, e2, e3, e4]
 refine z _ ?_
 clear z Z
 refine cF (by simp [f0, f1, f2, f3, f4, f5, e0, e1, e2, e3, e4]) ?_
 refine AT_seq_k fun K29 hK29 => ?_
 refine sr fun Z z => ?_
 simp [f0, f1, f2, f3, f4, f5, e0, e1, e2, e3, e4]
 refine z _ ?_
 clear z Z
 refine cF (by simp [f0, f1, f2, f3, f4, f5, e0, e1, e2, e3, e4]) ?_
 refine sr fun Z z => ?_
 simp [f0, f1, f2, f3, f4, f5, e0, e1, e2, e3, e4]
 refine z _ ?_
 clear z Z
 refine cF (by simp [f0, f1, f2, f3, f4, f5, e0, e1, e2, e3, e4]) ?_
 refine sr fun Z z => ?_
 simp [f0, f1, f2, f3, f4, f5, e0, e1, e2, e3, e4]
 refine z _ ?_
 clear z Z
 refine cF (by simp [f0, f1, f2, f3, f4, f5, e0, e1, e2, e3, e4]) ?_
 refine AT_region_q fun Z z => ?_
 simp [f0, f1, f2, f3, f4, f5, e0, e1, e2, e3, e4]
 refine z _ ?_
 clear z Z
 refine hK29 _ ?_
 refine cF (by simp [f0, f1, f2, f3, f4, f5, e0, e1, e2, e3, e4]) ?_
 refine AT_skip ?_
 refine hK27 _ ?_
 refine sr fun Z z => ?_
 simp [f0, f1, f2, f3, f4, f5, e0, e1, e2, e3, e4]
 refine z _ ?_
 clear z Z
 refine AT_ret ?_
 simp [Tryz.f110]
 first | (· unfold clsI; repeat (first | omega | split)) | decide
 have f0 : ¬ 97 ≤ n := by omega
 have f1 : n ≤ 122 := by omega
 have f2 : ¬ 65 ≤ n := by omega
 have f3 : n ≤ 90 := by omega
 have f4 : ¬ 48 ≤ n := by omega
 have f5 : n ≤ 57 := by omega
 have e0 : (n == 95) = false := by simp; omega
 have e1 : (n == 9) = false := by simp; omega
 have e2 : (n == 10) = false := by simp; omega
 have e3 : (n == 13) = false := by simp; omega
 have e4 : (n == 32) = false := by simp; omega
 refine sr fun Z z => ?_
 simp [f0, f1, f2, f3, f4, f5, e0, e1, e2, e3, e4]
 refine z _ ?_
 clear z Z
 refine AT_seq_k fun K30 hK30 => ?_
 refine AT_block ?_
 refine AT_seq_k fun K31 hK31 => ?_
 refine sr fun Z z => ?_
 simp [f0, f1, f2, f3, f4, f5, e0, e1, e2, e3, e4]
 refine z _ ?_
 clear z Z
 refine cF (by simp [f0, f1, f2, f3, f4, f5, e0, e1, e2, e3, e4]) ?_
 refine AT_region_q fun Z z => ?_
 simp [f0, f1, f2, f3, f4, f5, e0, e1, e2, e3, e4]
 refine z _ ?_
 clear z Z
 refine hK31 _ ?_
 refine cF (by simp [f0, f1, f2, f3, f4, f5, e0, e1, e2, e3, e4]) ?_
 refine sr fun Z z => ?_
 simp [f0, f1, f2, f3, f4, f5, e0, e1, e2, e3, e4]
 refine z _ ?_
 clear z Z
 refine cF (by simp [f0, f1, f2, f3, f4, f5, e0, e1, e2, e3, e4]) ?_
 refine sr fun Z z => ?_
 simp [f0, f1, f2, f3, f4, f5, e0, e1, e2, e3, e4]
 refine z _ ?_
 clear z Z
 refine cF (by simp [f0, f1, f2, f3, f4, f5, e0, e1, e2, e3, e4]) ?_
 refine AT_seq_k fun K32 hK32 => ?_
 refine sr fun Z z => ?_
 simp [f0, f1, f2, f3, f4, f5, e0, e1, e2, e3, e4]
 refine z _ ?_
 clear z Z
 refine cF (by simp [f0, f1, f2, f3, f4, f5, e0, e1, e2, e3, e4]) ?_
 refine sr fun Z z => ?_
 simp [f0, f1, f2, f3, f4, f5, e0, e1, e2, e3, e4]
 refine z _ ?_
 clear z Z
 refine cF (by simp [f0, f1, f2, f3, f4, f5, e0, e1, e2, e3, e4]) ?_
 refine sr fun Z z => ?_
 simp [f0, f1, f2, f3, f4, f5, e0, e1, e2, e3, e4]
 refine z _ ?_
 clear z Z
 refine cF (by simp [f0, f1, f2, f3, f4, f5, e0, e1, e2, e3, e4]) ?_
 refine AT_region_q fun Z z => ?_
 simp [f0, f1, f2, f3, f4, f5, e0, e1, e2, e3, e4]
 refine z _ ?_
 clear z Z
 refine hK32 _ ?_
 refine cF (by simp [f0, f1, f2, f3, f4, f5, e0, e1, e2, e3, e4]) ?_
 refine AT_skip ?_
 refine hK30 _ ?_
 refine sr fun Z z => ?_
 simp [f0, f1, f2, f3, f4, f5, e0, e1, e2, e3, e4]
 refine z _ ?_
 clear z Z
 refine AT_ret ?_
 simp [Tryz.f110]
 first | (· unfold clsI; repeat (first | omega | split)) | decide

theorem c_ref01x_Class (n : Int) : Valid Tryz.prog (G0 g rnd) 79 [.int .u8 n] (.int .i64 (clsI n)) := by

 refine valid_of [] Tryz.func79 rfl (by kernel_rfl) ?_
 rcases cls_cases n with hc | hc | hc | hc | hc | hc | hc | hc | hc | hc | hc | hc
 have f0 : 97 ≤ n := by omega
 have f1 : n ≤ 122 := by omega
 have f2 : 65 ≤ n := by omega
 have f3 : ¬ n ≤ 90 := by omega
 have f4 : 48 ≤ n := by omega
 have f5 : ¬ n ≤ 57 := by omega
 have e0 : (n == 95) = false := by simp; omega
 have e1 : (n == 9) = false := by simp; omega
 have e2 : (n == 10) = false := by simp; omega
 have e3 : (n == 13) = false := by simp; omega
 have e4 : (n == 32) = false := by simp; omega
 refine sr fun Z z => ?_
 simp [Tryz.f79, f0, f1, f2, f3, f4, f5, e0, e1, e2, e3, e4]
 refine z _ ?_
 clear z Z
 refine AT_seq_k fun K1 hK1 => ?_
 refine sr fun Z z => ?_
 simp [f0, f1, f2, f3, f4, f5, e0, e1, e2, e3, e4]
 refine z _ ?_
 clear z Z
 refine cT (by simp [f0, f1, f2, f3, f4, f5, e0, e1, e2, e3, e4]) ?_
 refine sr fun Z z => ?_
 simp [f0, f1, f2, f3, f4, f5, e0, e1, e2, e3, e4]
 refine z _ ?_
 clear z Z
 refine AT_ret ?_
 simp [Tryz.f79]
 first | (· unfold clsI; repeat (first | omega | split)) | decide
 have f0 : ¬ 97 ≤ n := by omega
 have f1 : n ≤ 122 := by omega
 have f2 : 65 ≤ n := by omega
 have f3 : n ≤ 90 := by omega
 have f4 : 48 ≤ n := by omega
 have f5 : ¬ n ≤ 57 := by omega
 have e0 : (n == 95) = false := by simp; omega
 have e1 : (n == 9) = false := by simp; omega
 have e2 : (n == 10) = false := by simp; omega
 have e3 : (n == 13) = false := by simp; omega
 have e4 : (n == 32) = false := by simp; omega
 refine sr fun Z z => ?_
 simp [f0, f1, f2, f3, f4, f5, e0, e1, e2, e3, e4]
 refine z _ ?_
 clear z Z
 refine AT_seq_k fun K2 hK2 => ?_
 refine sr fun Z z => ?_
 simp [f0, f1, f2, f3, f4, f5, e0, e1, e2, e3, e4]
 refine z _ ?_
 clear z Z
 refine cT (by simp [f0, f1, f2, f3, f4, f5, e0, e1, e2, e3, e4]) ?_
 refine sr fun Z z => ?_
 simp [f0, f1, f2, f3, f4, f5, e0, e1, e2, e3, e4]
 refine z _ ?_
 clear z Z
 refine AT_ret ?_
 simp [Tryz.f79]
 first | (· unfold clsI; repeat (first | omega | split)) | decide
 have f0 : ¬ 97 ≤ n := by omega
 have f1 : n ≤ 122 := by omega
 have f2 : ¬ 65 ≤ n := by omega
 have f3 : n ≤ 90 := by omega
 have f4 : 48 ≤ n := by omega
 have f5 : n ≤ 57 := by omega
 have e0 : (n == 95) = false := by simp; omega
 have e1 : (n == 9) = false := by simp; omega
 have e2 : (n == 10) = false := by simp; omega
 have e3 : (n == 13) = false := by simp; omega
 have e4 : (n == 32) = false := by simp; omega
 refine sr fun Z z => ?_
 simp [f0, f1, f2, f3, f4, f5, e0, e1, e2, e3, e4]
 refine z _ ?_
 clear z Z
 refine AT_seq_k fun K3 hK3 => ?_
 refine sr fun Z z => ?_
 simp [f0, f1, f2, f3, f4, f5, e0, e1, e2, e3, e4]
 refine z _ ?_
 clear z Z
 refine cF (by simp [f0, f1, f2, f3, f4, f5, e0, e1, e2, e3, e4]) ?_
 refine AT_skip ?_
 refine hK3 _ ?_
 refine AT_seq_k fun K4 hK4 => ?_
 refine sr fun Z z => ?_
 simp [f0, f1, f2, f3, f4, f5, e0, e1, e2, e3, e4]
 refine z _ ?_
 clear z Z
 refine cT (by simp [f0, f1, f2, f3, f4, f5, e0, e1, e2, e3, e4]) ?_
 refine sr fun Z z => ?_
 simp [f0, f1, f2, f3, f4, f5, e0, e1, e2, e3, e4]
 refine z _ ?_
 clear z Z
 refine AT_ret ?_
 simp [Tryz.f79]
 first | (· unfold clsI; repeat (first | omega | split)) | decide
 subst hc
 refine sr fun Z z => ?_
 simp
 refine z _ ?_
 clear z Z
 refine AT_seq_k fun K5 hK5 => ?_
 refine sr fun Z z => ?_
 simp
 refine z _ ?_
 clear z Z
 refine cF (by simp) ?_
 refine AT_skip ?_
 refine hK5 _ ?_
 refine AT_seq_k fun K6 hK6 => ?_
 refine sr fun Z z => ?_
 simp
 refine z _ ?_
 clear z Z
 refine cF (by simp) ?_
 refine AT_skip ?_
 refine hK6 _ ?_
 refine AT_seq_k fun K7 hK7 => ?_
 refine sr fun Z z => ?_
 simp
 refine z _ ?_
 clear z Z
 refine cT (by simp) ?_
 refine sr fun Z z => ?_
 simp
 refine z _ ?_
 clear z Z
 refine AT_ret ?_
 simp [Tryz.f79]
 first | (· unfold clsI; repeat (first | omega | split)) | decide
 subst hc
 refine sr fun Z z => ?_
 simp
 refine z _ ?_
 clear z Z
 refine AT_seq_k fun K8 hK8 => ?_
 refine sr fun Z z => ?_
 simp
 refine z _ ?_
 clear z Z
 refine cF (by simp) ?_
 refine AT_skip ?_
 refine hK8 _ ?_
 refine AT_seq_k fun K9 hK9 => ?_
 refine sr fun Z z => ?_
 simp
 refine z _ ?_
 clear z Z
 refine cF (by simp) ?_
 refine AT_skip ?_
 refine hK9 _ ?_
 refine AT_seq_k fun K10 hK10 => ?_
 refine sr fun Z z => ?_
 simp
 refine z _ ?_
 clear z Z
 refine cF (by simp) ?_
 refine AT_skip ?_
 refine hK10 _ ?_
 refine AT_seq_k fun K11 hK11 => ?_
 refine sr fun Z z => ?_
 simp
 refine z _ ?_
 clear z Z
 refine cT (by simp) ?_
 refine sr fun Z z => ?_
 simp
 refine z _ ?_
 clear z Z
 refine AT_ret ?_
 simp [Tryz.f79]
 first | (· unfold clsI; repeat (first | omega | split)) | decide
 subst hc
 refine sr fun Z z => ?_
 simp
 refine z _ ?_
 clear z Z
 refine AT_seq_k fun K12 hK12 => ?_
 refine sr fun Z z => ?_
 simp
 refine z _ ?_
 clear z Z
 refine cF (by simp) ?_
 refine AT_skip ?_
 refine hK12 _ ?_
 refine AT_seq_k fun K13 hK13 => ?_
 refine sr fun Z z => ?_
 simp
 refine z _ ?_
 clear z Z
 refine cF (by simp) ?_
 refine AT_skip ?_
 refine hK13 _ ?_
 refine AT_seq_k fun K14 hK14 => ?_
 refine sr fun Z z => ?_
 simp
 refine z _ ?_
 clear z Z
 refine cF (by simp) ?_
 refine AT_skip ?_
 refine hK14 _ ?_
 refine AT_seq_k fun K15 hK15 => ?_
 refine sr fun Z z => ?_
 simp
 refine z _ ?_
 clear z Z
 refine cT (by simp) ?_
 refine sr fun Z z => ?_
 simp
 refine z _ ?_
 clear z Z
 refine AT_ret ?_
 simp [Tryz.f79]
 first | (· unfold clsI; repeat (first | omega | split)) | decide
 subst hc
 refine sr fun Z z => ?_
 simp
 refine z _ ?_
 clear z Z
 refine AT_seq_k fun K16 hK16 => ?_
 refine sr fun Z z => ?_
 simp
 refine z _ ?_
 clear z Z
 refine cF (by simp) ?_
 refine AT_skip ?_
 refine hK16 _ ?_
 refine AT_seq_k fun K17 hK17 => ?_
 refine sr fun Z z => ?_
 simp
 refine z _ ?_
 clear z Z
 refine cF (by simp) ?_
 refine AT_skip ?_
 refine hK17 _ ?_
 refine AT_seq_k fun K18 hK18 => ?_
 refine sr fun Z z => ?_
 simp
 refine z _ ?_
 clear z Z
 refine cF (by simp) ?_
 refine AT_skip ?_
 refine hK18 _ ?_
 refine AT_seq_k fun K19 hK19 => ?_
 refine sr fun Z z => ?_
 simp
 refine z _ ?_
 clear z Z
 refine cT (by simp) ?_
 refine sr fun Z z => ?_
 simp
 refine z _ ?_
 clear z Z
 refine AT_ret ?_
 simp [Tryz.f79]
 first | (· unfold clsI; repeat (first | omega | split)) | decide
 subst hc
 refine sr fun Z z => ?_
 simp
 refine z _ ?_
 clear z Z
 refine AT_seq_k fun K20 hK20 => ?_
 refine sr fun Z z => ?_
 simp
 refine z _ ?_
 clear z Z
 refine cF (by simp) ?_
 refine AT_skip ?_
 refine hK20 _ ?_
 refine AT_seq_k fun K21 hK21 => ?_
 refine sr fun Z z => ?_
 simp
 refine z _ ?_
 clear z Z
 refine cF (by simp) ?_
 refine AT_skip ?_
 refine hK21 _ ?_
 refine AT_seq_k fun K22 hK22 => ?_
 refine sr fun Z z => ?_
 simp
 refine z _ ?_
 clear z Z
 refine cF (by simp) ?_
 refine AT_skip ?_
 refine hK22 _ ?_
 refine AT_seq_k fun K23 hK23 => ?_
 refine sr fun Z z => ?_
 simp
 refine z _ ?_
 clear z Z
 refine cT (by simp) ?_
 refine sr fun Z z => ?_
 simp
 refine z _ ?_
 clear z Z
 refine AT_ret ?_
 simp [Tryz.f79]
 first | (· unfold clsI; repeat (first | omega | split)) | decide
 have f0 : 97 ≤ n := by omega
 have f1 : ¬ n ≤ 122 := by omega
 have f2 : 65 ≤ n := by omega
 have f3 : ¬ n ≤ 90 := by omega
 have f4 : 48 ≤ n := by omega
 have f5 : ¬ n ≤ 57 := by omega
 have e0 : (n == 95) = false := by simp; omega
 have e1 : (n == 9) = false := by simp; omega
 have e2 : (n == 10) = false := by simp; omega
 have e3 : (n == 13) = false := by simp; omega
 have e4 : (n == 32) = false := by simp; omega
 refine sr fun Z z => ?_
 simp [f0, f1, f2, f3, f4, f5, e0, e1, e2, e3, e4]
 refine z _ ?_
 clear z Z
 refine AT_seq_k fun K24 hK24 => ?_
 refine sr fun Z z => ?_
 simp [f0, f1, f2, f3, f4, f5, e0, e1, e2, e3, e4]
 refine z _ ?_
 clear z Z
 refine cF (by simp [f0, f1, f2, f3, f4, f5, e0, e1, e2, e3, e4]) ?_
 refine AT_skip ?_
 refine hK24 _ ?_
 refine AT_seq_k fun K25 hK25 => ?_
 refine sr fun Z z => ?_
 simp [f0, f1, f2, f3, f4, f5, e0, e1, e2, e3, e4]
 refine z _ ?_
 clear z Z
 refine cF (by simp [f0, f1, f2, f3, f4, f5, e0, e1, e2, e3, e4]) ?_
 refine AT_skip ?_
 refine hK25 _ ?_
 refine AT_seq_k fun K26 hK26 => ?_
 refine sr fun Z z => ?_
 simp [f0, f1, f2, f3, f4, f5, e0, e1, e2, e3, e4]
 refine z _ ?_
 clear z Z
 refine cF (by simp [f0, f1, f2, f3, f4, f5, e0, e1, e2, e3, e4]) ?_
 refine AT_skip ?_
 refine hK26 _ ?_
 refine AT_seq_k fun K27 hK27 => ?_
 refine sr fun Z z => ?_
 simp [f0, f1, f2, f3, f4, f5, e0, e1, e2, e3, e4]
 refine z _ ?_
 clear z Z
 refine cF (by simp [f0, f1, f2, f3, f4, f5, e0, e1, e2, e3, e4]) ?_
 refine AT_skip ?_
 refine hK27 _ ?_
 refine sr fun Z z => ?_
 simp [f0, f1, f2, f3, f4, f5, e0, e1, e2, e3, e4]
 refine z _ ?_
 clear z Z
 refine AT_ret ?_
 simp [Tryz.f79]
 first | (· unfold clsI; repeat (first | omega | split)) | decide
 have f0 : ¬ 97 ≤ n := by omega
 have f1 : n ≤ 122 := by omega
 have f2 : 65 ≤ n := by omega
 have f3 : ¬ n ≤ 90 := by omega
 have f4 : 48 ≤ n := by omega
 have f5 : ¬ n ≤ 57 := by omega
 have e0 : (n == 95) = false := by simp; omega
 have e1 : (n == 9) = false := by simp; omega
 have e2 : (n == 10) = false := by simp; omega
 have e3 : (n == 13) = false := by simp; omega
 have e4 : (n == 32) = false := by simp; omega
 refine sr fun Z z => ?_
 simp [f0, f1, f2, f3, f4, f5, e0, e1, e2, e3, e4]
 refine z _ ?_
 clear z Z
 refine AT_seq_k fun K28 hK28 => ?_
 refine sr fun Z z => ?_
 simp [f0, f1, f2, f3, f4, f5, e0, e1, e2, e3, e4]
 refine z _ ?_
 clear z Z
 refine cF (by simp [f0, f1, f2, f3, f4, f5, e0, e1, e2, e3, e4]) ?_
 refine AT_skip ?_
 refine hK28 _ ?_
 refine AT_seq_k fun K29 hK29 => ?_
 refine sr fun Z z => ?_
 simp [f0, f1, f2, f3, f4, f5, e0, e1, e2, e3, e4]
 refine z _ ?_
 clear z Z
 refine cF (by simp [f0, f1, f2, f3, f4, f5, e0, e1, e2, e3, e4]) ?_
 refine AT_skip ?_
 refine hK29 _ ?_
 refine AT_seq_k fun K30 hK30 => ?_
 refine sr fun Z z => ?_
 simp [f0, f1, f2, f3, f4, f5, e0, e1, e2, e3, e4]
 refine z _ ?_
 clear z Z
 refine cF (by simp [f0, f1, f2, f3, f4, f5, e0, e1, e2, e3, e4]) ?_
 refine AT_skip ?_
 refine hK30 _ ?_
 refine AT_seq_k fun K31 hK31 => ?_
 refine sr fun Z z => ?_
 simp [f0, f1, f2, f3, f4, f5, e0, e1, e2, e3, e4]
 refine z _ ?_
 clear z Z
 refine cF (by simp [f0, f1, f2, f3, f4, f5, e0, e1, e2, e3, e4]) ?_
 refine AT_skip ?_
 refine hK31 _ ?_
 refine sr fun Z z => ?_
 simp [f0, f1, f2, f3, f4, f5, e0, e1, e2, e3, e4]
 refine z _ ?_
 clear z Z
 refine AT_ret ?_
 simp [Tryz.f79]
 first | (· unfold clsI; repeat (first | omega | split)) | decide
 have f0 : ¬ 97 ≤ n := by omega
 have f1 : n ≤ 122 := by omega
 have f2 : ¬ 65 ≤ n := by omega
 have f3 : n ≤ 90 := by omega
 have f4 : 48 ≤ n := by omega
 have f5 : ¬ n ≤ 57 := by omega
 have e0 : (n == 95) = false := by simp; omega
 have e1 : (n == 9) = false := by simp; omega
 have e2 : (n == 10) = false := by simp; omega
 have e3 : (n == 13) = false := by simp; omega
 have e4 : (n == 32) = false := by simp; omega
 refine sr fun Z z => ?_
 simp [f0, f1, f2, f3, f4, f5, e0, e1, e2, e3, e4]
 refine z _ ?_
 clear z Z
 refine AT_seq_k fun K32 hK32 => ?_
 refine sr fun Z z => ?_
 simp [f0, f1, f2, f3, f4, f5, e0, e1, e2, e3, e4]
 refine z _ ?_
 clear z Z
 refine cF (by simp [f0, f1, f2, f3, f4, f5, e0, e1, e2, e3, e4]) ?_
 refine AT_skip ?_
 refine hK32 _ ?_
 refine AT_seq_k fun K33 hK33 => ?_
 refine sr fun Z z => ?_
 simp [f0, f1, f2, f3, f4, f5, e0, e1, e2, e3, e4]
 refine z _ ?_
 clear z Z
 refine cF (by simp [f0, f1, f2, f3, f4, f5, e0, e1, e2, e3, e4]) ?_
 refine AT_skip ?_
 refine hK33 _ ?_
 refine AT_seq_k fun K34 hK34 => ?_
 refine sr fun Z z => ?_
 simp [f0, f1, f2, f3, f4, f5, e0, e1, e2, e3, e4]
 refine z _ ?_
 clear z Z
 refine cF (by simp [f0, f1, f2, f3, f4, f5, e0, e1, e2, e3, e4]) ?_
 refine AT_skip ?_
 refine hK34 _ ?_
 refine AT_seq_k fun K35 hK35 => ?_
 refine sr fun Z z => ?_
 simp [f0, f1, f2, f3, f4, f5, e0, e1, e2, e3, e4]
 refine z _ ?_
 clear z Z
 refine cF (by simp [f0, f1, f2, f3, f4, f5, e0, e1, e2, e3, e4]) ?_
 refine AT_skip ?_
 refine hK35 _ ?_
 refine sr fun Z z => ?_
 simp [f0, f1, f2, f3, f4, f5, e0, e1, e2, e3, e4]
 refine z _ ?_
 clear z Z
 refine AT_ret ?_
 simp [Tryz.f79]
 first | (· unfold clsI; repeat (first | omega | split)) | decide
 have f0 : ¬ 97 ≤ n := by omega
 have f1 : n ≤ 122 := by omega
 have f2 : ¬ 65 ≤ n := by omega
 have f3 : n ≤ 90 := by omega
 have f4 : ¬ 48 ≤ n := by omega
 have f5 : n ≤ 57 := by omega
 have e0 : (n == 95) = false := by simp; omega
 have e1 : (n == 9) = false := by simp; omega
 have e2 : (n == 10) = false := by simp; omega
 have e3 : (n == 13) = false := by simp; omega
 have e4 : (n == 32) = false := by simp; omega
 refine sr fun Z z => ?_
 simp [f0, f1, f2, f3, f4, f5, e0, e1, e2, e3, e4]
 refine z _ ?_
 clear z Z
 refine AT_seq_k fun K36 hK36 => ?_
 refine sr fun Z z => ?_
 simp [f0, f1, f2, f3, f4, f5, e0, e1, e2, e3, e4]
 refine z _ ?_
 clear z Z
 refine cF (by simp [f0, f1, f2, f3, f4, f5, e0, e1, e2, e3, e4]) ?_
 refine AT_skip ?_
 refine hK36 _ ?_
 refine AT_seq_k fun K37 hK37 => ?_
 refine sr fun Z z => ?_
 simp [f0, f1, f2, f3, f4, f5, e0, e1, e2, e3, e4]
 refine z _ ?_
 clear z Z
 refine cF (by simp [f0, f1, f2, f3, f4, f5, e0, e1, e2, e3, e4]) ?_
 refine AT_skip ?_
 refine hK37 _ ?_
 refine AT_seq_k fun K38 hK38 => ?_
 refine sr fun Z z => ?_
 simp [f0, f1, f2, f3, f4, f5, e0, e1, e2, e3, e4]
 refine z _ ?_
 clear z Z
 refine cF (by simp [f0, f1, f2, f3, f4, f5, e0, e1, e2, e3, e4]) ?_
 refine AT_skip ?_
 refine hK38 _ ?_
 refine AT_seq_k fun K39 hK39 => ?_
 refine sr fun Z z => ?_
 simp [f0, f1, f2, f3, f4, f5, e0, e1, e2, e3, e4]
 refine z _ ?_
 clear z Z
 refine cF (by simp [f0, f1, f2, f3, f4, f5, e0, e1, e2, e3, e4]) ?_
 refine AT_skip ?_
 refine hK39 _ ?_
 refine sr fun Z z => ?_
 simp [f0, f1, f2, f3, f4, f5, e0, e1, e2, e3, e4]
 refine z _ ?_
 clear z Z
 refine AT_ret ?_
 simp [Tryz.f79]
 first | (· unfold clsI; repeat (first | omega | split)) | decide

end Go.Proofs.YtepbmjchhcmcoaaGreatDoor

import Derived.Test.YtghmdnfdocdgfaaDoorPt
import Derived.Test.YtghmdnfdocdgfaaDoorPvPb
import Derived.Test.YtghmdnfdocdgfaaDoorPvY
import Derived.Test.YtghmdnfdocdgfaaDoorXTyH
section
/- Contracts. -/
set_option linter.all false
set_option maxHeartbeats 1000000
set_option maxRecDepth 10000
namespace Go.Proofs.YtghmdnfdocdgfaaDoor
open Go Go.Pv
variable (g : Nat → Option (List AV)) (rnd : Bool)

theorem c_name_Class (n : Int) : Valid Tryd.prog (G0 g rnd) 47 [.int .u8 n] (.int .i64 (clsI n)) := by

 refine valid_of [] Tryd.func47 rfl (by kernel_rfl) ?_
 rcases cls_cases n with hc | hc | hc | hc | hc | hc | hc | hc | hc | hc | hc | hc
 have f0 : 97 ≤ n := by omega
 have f1 : n ≤ 122 := by omega
 have f2 : 65 ≤ n := by omega
 have f3 : ¬ n ≤ 90 := by omega
 have f4 : 48 ≤ n := by omega
 have f5 : ¬ n ≤ 57 := by omega
 have e0 : (n == 95) = false := by simp; omega
 have e1 : (n == 9) = false := by simp; omega
 have e2 : (n == 10) = false := by simp; omega
 have e3 : (n == 13) = false := by simp; omega
 have e4 : (n == 32) = false := by simp; omega
 refine sr fun Z z => ?_
 simp [Tryd.f47, f0, f1, f2, f3, f4, f5, e0, e1, e2, e3, e4]
 refine z _ ?_
 clear z Z
 refine AT_seq_k fun K1 hK1 => ?_
 refine AT_block ?_
 refine AT_seq_k fun K2 hK2 => ?_
 refine sr fun Z z => ?_
 simp [f0, f1, f2, f3, f4, f5, e0, e1, e2, e3, e4]
 refine z _ ?_
 clear z Z
 refine cT (by simp [f0, f1, f2, f3, f4, f5, e0, e1, e2, e3, e4]) ?_
 refine AT_skip ?_
 refine hK2 _ ?_
 refine cT (by simp [f0, f1, f2, f3, f4, f5, e0, e1, e2, e3, e4]) ?_
 refine sr fun Z z => ?_
 simp [f0, f1, f2, f3, f4, f5, e0, e1, e2, e3, e4]
 refine z _ ?_
 clear z Z
 refine AT_ret ?_
 simp [Tryd.f47]
 first | (· unfold clsI; repeat (first | omega | split)) | decide
 have f0 : ¬ 97 ≤ n := by omega
 have f1 : n ≤ 122 := by omega
 have f2 : 65 ≤ n := by omega
 have f3 : n ≤ 90 := by omega
 have f4 : 48 ≤ n := by omega
 have f5 : ¬ n ≤ 57 := by omega
 have e0 : (n == 95) = false := by simp; omega
 have e1 : (n == 9) = false := by simp; omega
 have e2 : (n == 10) = false := by simp; omega
 have e3 : (n == 13) = false := by simp; omega
 have e4 : (n == 32) = false := by simp; omega
 refine sr fun Z z => ?_
 simp [f0, f1, f2, f3, f4, f5, e0, e1, e2, e3, e4]
 refine z _ ?_
 clear z Z
 refine AT_seq_k fun K3 hK3 => ?_
 refine AT_block ?_
 refine AT_seq_k fun K4 hK4 => ?_
 refine sr fun Z z => ?_
 simp [f0, f1, f2, f3, f4, f5, e0, e1, e2, e3, e4]
 refine z _ ?_
 clear z Z
 refine cF (by simp [f0, f1, f2, f3, f4, f5, e0, e1, e2, e3, e4]) ?_
 refine AT_region_q fun Z z => ?_
 simp [f0, f1, f2, f3, f4, f5, e0, e1, e2, e3, e4]
 refine z _ ?_
 clear z Z
 refine hK4 _ ?_
 refine cT (by simp [f0, f1, f2, f3, f4, f5, e0, e1, e2, e3, e4]) ?_
 refine sr fun Z z => ?_
 simp [f0, f1, f2, f3, f4, f5, e0, e1, e2, e3, e4]
 refine z _ ?_
 clear z Z
 refine AT_ret ?_
 simp [Tryd.f47]
 first | (· unfold clsI; repeat (first | omega | split)) | decide
 have f0 : ¬ 97 ≤ n := by omega
 have f1 : n ≤ 122 := by omega
 have f2 : ¬ 65 ≤ n := by omega
 have f3 : n ≤ 90 := by omega
 have f4 : 48 ≤ n := by omega
 have f5 : n ≤ 57 := by omega
 have e0 : (n == 95) = false := by simp; omega
 have e1 : (n == 9) = false := by simp; omega
 have e2 : (n == 10) = false := by simp; omega
 have e3 : (n == 13) = false := by simp; omega
 have e4 : (n == 32) = false := by simp; omega
 refine sr fun Z z => ?_
 simp [f0, f1, f2, f3, f4, f5, e0, e1, e2, e3, e4]
 refine z _ ?_
 clear z Z
 refine AT_seq_k fun K5 hK5 => ?_
 refine AT_block ?_
 refine AT_seq_k fun K6 hK6 => ?_
 refine sr fun Z z => ?_
 simp [f0, f1, f2, f3, f4, f5, e0, e1, e2, e3, e4]
 refine z _ ?_
 clear z Z
 refine cF (by simp [f0, f1, f2, f3, f4, f5, e0, e1, e2, e3, e4]) ?_
 refine AT_region_q fun Z z => ?_
 simp [f0, f1, f2, f3, f4, f5, e0, e1, e2, e3, e4]
 refine z _ ?_
 clear z Z
 refine hK6 _ ?_
 refine cF (by simp [f0, f1, f2, f3, f4, f5, e0, e1, e2, e3, e4]) ?_
 refine sr fun Z z => ?_
 simp [f0, f1, f2, f3, f4, f5, e0, e1, e2, e3, e4]
 refine z _ ?_
 clear z Z
 refine cT (by simp [f0, f1, f2, f3, f4, f5, e0, e1, e2, e3, e4]) ?_
 refine sr fun Z z => ?_
 simp [f0, f1, f2, f3, f4, f5, e0, e1, e2, e3, e4]
 refine z _ ?_
 clear z Z
 refine AT_ret ?_
 simp [Tryd.f47]
 first | (· unfold clsI; repeat (first | omega | split)) | decide
 subst hc
 refine sr fun Z z => ?_
 simp
 refine z _ ?_
 clear z Z
 refine AT_seq_k fun K7 hK7 => ?_
 refine AT_block ?_
 refine AT_seq_k fun K8 hK8 => ?_
 refine sr fun Z z => ?_
 simp
 refine z _ ?_
 clear z Z
 refine cF (by simp) ?_
 refine AT_region_q fun Z z => ?_
 simp
 refine z _ ?_
 clear z Z
 refine hK8 _ ?_
 refine cF (by simp) ?_
 refine sr fun Z z => ?_
 simp
 refine z _ ?_
 clear z Z
 refine cF (by simp) ?_
 refine sr fun Z z => ?_
 simp
 refine z _ ?_
 clear z Z
 refine cT (by simp) ?_
 refine sr fun Z z => ?_
 simp
 refine z _ ?_
 clear z Z
 refine AT_ret ?_
 simp [Tryd.f47]
 first | (· unfold clsI; repeat (first | omega | split)) | decide
 subst hc
 refine sr fun Z z => ?_
 simp
 refine z _ ?_
 clear z Z
 refine AT_seq_k fun K9 hK9 => ?_
 refine AT_block ?_
 refine AT_seq_k fun K10 hK10 => ?_
 refine sr fun Z z => ?_
 simp
 refine z _ ?_
 clear z Z
 refine cF (by simp) ?_
 refine AT_region_q fun Z z => ?_
 simp
 refine z _ ?_
 clear z Z
 refine hK10 _ ?_
 refine cF (by simp) ?_
 refine sr fun Z z => ?_
 simp
 refine z _ ?_
 clear z Z
 refine cF (by simp) ?_
 refine sr fun Z z => ?_
 simp
 refine z _ ?_
 clear z Z
 refine cF (by simp) ?_
 refine AT_seq_k fun K11 hK11 => ?_
 refine sr fun Z z => ?_
 simp
 refine z _ ?_
 clear z Z
 refine cT (by simp) ?_
 refine AT_skip ?_
 refine hK11 _ ?_
 refine cT (by simp) ?_
 refine sr fun Z z => ?_
 simp
 refine z _ ?_
 clear z Z
 refine AT_ret ?_
 simp [Tryd.f47]
 first | (· unfold clsI; repeat (first | omega | split)) | decide
 subst hc
 refine sr fun Z z => ?_
 simp
 refine z _ ?_
 clear z Z
 refine AT_seq_k fun K12 hK12 => ?_
 refine AT_block ?_
 refine AT_seq_k fun K13 hK13 => ?_
 refine sr fun Z z => ?_
 simp
 refine z _ ?_
 clear z Z
 refine cF (by simp) ?_
 refine AT_region_q fun Z z => ?_
 simp
 refine z _ ?_
 clear z Z
 refine hK13 _ ?_
 refine cF (by simp) ?_
 refine sr fun Z z => ?_
 simp
 refine z _ ?_
 clear z Z
 refine cF (by simp) ?_
 refine sr fun Z z => ?_
 simp
 refine z _ ?_
 clear z Z
 refine cF (by simp) ?_
 refine AT_seq_k fun K14 hK14 => ?_
 refine sr fun Z z => ?_
 simp
 refine z _ ?_
 clear z Z
 refine cF (by simp) ?_
 refine sr fun Z z => ?_
 simp
 refine z _ ?_
 clear z Z
 refine cT (by simp) ?_
 refine AT_skip ?_
 refine hK14 _ ?_
 refine cT (by simp) ?_
 refine sr fun Z z => ?_
 simp
 refine z _ ?_
 clear z Z
 refine AT_ret ?_
 simp [Tryd.f47]
 first | (· unfold clsI; repeat (first | omega | split)) | decide
 subst hc
 refine sr fun Z z => ?_
 simp
 refine z _ ?_
 clear z Z
 refine AT_seq_k fun K15 hK15 => ?_
 refine AT_block ?_
 refine AT_seq_k fun K16 hK16 => ?_
 refine sr fun Z z => ?_
 simp
 refine z _ ?_
 clear z Z
 refine cF (by simp) ?_
 refine AT_region_q fun Z z => ?_
 simp
 refine z _ ?_
 clear z Z
 refine hK16 _ ?_
 refine cF (by simp) ?_
 refine sr fun Z z => ?_
 simp
 refine z _ ?_
 clear z Z
 refine cF (by simp) ?_
 refine sr fun Z z => ?_
 simp
 refine z _ ?_
 clear z Z
 refine cF (by simp) ?_
 refine AT_seq_k fun K17 hK17 => ?_
 refine sr fun Z z => ?_
 simp
 refine z _ ?_
 clear z Z
 refine cF (by simp) ?_
 refine sr fun Z z => ?_
 simp
 refine z _ ?_
 clear z Z
 refine cF (by simp) ?_
 refine sr fun Z z => ?_
 simp
 refine z _ ?_
 clear z Z
 refine cT (by simp) ?_
 refine AT_skip ?_
 refine hK17 _ ?_
 refine cT (by simp) ?_
 refine sr fun Z z => ?_
 simp
 refine z _ ?_
 clear z Z
 refine AT_ret ?_
 simp [Tryd.f47]
 first | (· unfold clsI; repeat (first | omega | split)) | decide
 subst hc
 refine sr fun Z z => ?_
 simp
 refine z _ ?_
 clear z Z
 refine AT_seq_k fun K18 hK18 => ?_
 refine AT_block ?_
 refine AT_seq_k fun K19 hK19 => ?_
 refine sr fun Z z => ?_
 simp
 refine z _ ?_
 clear z Z
 refine cF (by simp) ?_
 refine AT_region_q fun Z z => ?_
 simp
 refine z _ ?_
 clear z Z
 refine hK19 _ ?_
 refine cF (by simp) ?_
 refine sr fun Z z => ?_
 simp
 refine z _ ?_
 clear z Z
 refine cF (by simp) ?_
 refine sr fun Z z => ?_
 simp
 refine z _ ?_
 clear z Z
 refine cF (by simp) ?_
 refine AT_seq_k fun K20 hK20 => ?_
 refine sr fun Z z => ?_
 simp
 refine z _ ?_
 clear z Z
 refine cF (by simp) ?_
 refine sr fun Z z => ?_
 simp
 refine z _ ?_
 clear z Z
 refine cF (by simp) ?_
 refine sr fun Z z => ?_
 simp
 refine z _ ?_
 clear z Z
 refine cF (by simp) ?_
 refine AT_region_q fun Z z => ?_
 simp
 refine z _ ?_
 clear z Z
 refine hK20 _ ?_
 refine cT (by simp) ?_
 refine sr fun Z z => ?_
 simp
 refine z _ ?_
 clear z Z
 refine AT_ret ?_
 simp [Tryd.f47]
 first | (· unfold clsI; repeat (first | omega | split)) | decide
 have f0 : 97 ≤ n := by omega
 have f1 : ¬ n ≤ 122 := by omega
 have f2 : 65 ≤ n := by omega
 have f3 : ¬ n ≤ 90 := by omega
 have f4 : 48 ≤ n := by omega
 have f5 : ¬ n ≤ 57 := by omega
 have e0 : (n == 95) = false := by simp; omega
 have e1 : (n == 9) = false := by simp; omega
 have e2 : (n == 10) = false := by simp; omega
 have e3 : (n == 13) = false := by simp; omega
 have e4 : (n == 32) = false := by simp; omega
 refine sr fun Z z => ?_
 simp [f0, f1, f2, f3, f4, f5, e0, e1, e2, e3, e4]
 refine z _ ?_
 clear z Z
 refine AT_seq_k fun K21 hK21 => ?_
 refine AT_block ?_
 refine AT_seq_k fun K22 hK22 => ?_
 refine sr fun Z z => ?_
 simp [f0, f1, f2, f3, f4, f5, e0, e1, e2, e3, e4]
 refine z _ ?_
 clear z Z
 refine cF (by simp [f0, f1, f2, f3, f4, f5, e0, e1, e2, e3, e4]) ?_
 refine AT_region_q fun Z z => ?_
 simp [f0, f1, f2, f3, f4, f5, e0, e1, e2, e3, e4]
 refine z _ ?_
 clear z Z
 refine hK22 _ ?_
 refine cF (by simp [f0, f1, f2, f3, f4, f5, e0, e1, e2, e3, e4]) ?_
 refine sr fun Z z => ?_
 simp [f0, f1, f2, f3, f4, f5, e0, e1, e2, e3, e4]
 refine z _ ?_
 clear z Z
 refine cF (by simp [f0, f1, f2, f3, f4, f5, e0, e1, e2, e3, e4]) ?_
 refine sr fun Z z => ?_
 simp [f0, f1, f2, f3, f4, f5, e0, e1, e2, e3, e4]
 refine z _ ?_
 clear z Z
 refine cF (by simp [f0, f1, f2, f3, f4, f5, e0, e1, e2, e3, e4]) ?_
 refine AT_seq_k fun K23 hK23 => ?_
 refine sr fun Z z => ?_
 simp [f0, f1, f2, f3, f4, f5, e0, e1, e2, e3, e4]
 refine z _ ?_
 clear z Z
 refine cF (by simp [f0, f1, f2, f3, f4, f5, e0, e1, e2, e3, e4]) ?_
 refine sr fun Z z => ?_
 simp [f0, f1, f2, f3, f4, f5, e0, e1, e2, e3, e4]
 refine z _ ?_
 clear z Z
 refine cF (by simp [f0, f1, f2, f3, f4, f5, e0, e1, e2, e3, e4]) ?_
 refine sr fun Z z => ?_
 simp [f0, f1, f2, f3, f4, f5, e0, e1, e2, e3, e4]
 refine z _ ?_
 clear z Z
 refine cF (by simp [f0, f1, f2, f3, f4, f5, e0, e1, e2, e3, e4]) ?_
 refine AT_region_q fun Z z => ?_
 simp [f0, f1, f2, f3, f4, f5, e0, e1, e2, e3, e4]
 refine z _ ?_
 clear z Z
 refine hK23 _ ?_
 refine cF (by simp [f0, f1, f2, f3, f4, f5, e0, e1, e2, e3, e4]) ?_
 refine AT_skip ?_
 refine hK21 _ ?_
 refine sr fun Z z => ?_
 simp [f0, f1, f2, f3, f4, f5, e0, e1, e2, e3, e4]
 refine z _ ?_
 clear z Z
 refine AT_ret ?_
 simp [Tryd.f47]
 first | (· unfold clsI; repeat (first | omega | split)) | decide
 have f0 : ¬ 97 ≤ n := by omega
 have f1 : n ≤ 122 := by omega
 have f2 : 65 ≤ n := by omega
 have f3 : ¬ n ≤ 90 := by omega
 have f4 : 48 ≤ n := by omega
 have f5 : ¬ n ≤ 57 := by omega
 have e0 : (n == 95) = false := by simp; omega
 have e1 : (n == 9) = false := by simp; omega
 have e2 : (n == 10) = false := by simp; omega
 have e3 : (n == 13) = false := by simp; omega
 have e4 : (n == 32) = false := by simp; omega
 refine sr fun Z z => ?_
 simp [f0, f1, f2, f3, f4, f5, e0, e1, e2, e3, e4]
 refine z _ ?_
 clear z Z
 refine AT_seq_k fun K24 hK24 => ?_
 refine AT_block ?_
 refine AT_seq_k fun K25 hK25 => ?_
 refine sr fun Z z => ?_
 simp [f0, f1, f2, f3, f4, f5, e0, e1, e2, e3, e4]
 refine z _ ?_
 clear z Z
 refine cF (by simp [f0, f1, f2, f3, f4, f5, e0, e1, e2, e3, e4]) ?_
 refine AT_region_q fun Z z => ?_
 simp [f0, f1, f2, f3, f4, f5, e0, e1, e2, e3, e4]
 refine z _ ?_
 clear z Z
 refine hK25 _ ?_
 refine cF (by simp [f0, f1, f2, f3, f4, f5, e0, e1, e2, e3, e4]) ?_
 refine sr fun Z z => ?_
 simp [f0, f1, f2, f3, f4, f5, e0, e1, e2, e3, e4]
 refine z _ ?_
 clear z Z
 refine cF (by simp [f0, f1, f2, f3, f4, f5, e0, e1, e2, e3, e4]) ?_
 refine sr fun Z z => ?_
 simp [f0, f1, f2, f3, f4, f5, e0, e1, e2, e3, e4]
 refine z _ ?_
 clear z Z
 refine cF (by simp [f0, f1, f2, f3, f4, f5, e0, e1, e2, e3, e4]) ?_
 refine AT_seq_k fun K26 hK26 => ?_
 refine sr fun Z z => ?_
 simp [f0, f1, f2, f3, f4, f5, e0, e1, e2, e3, e4]
 refine z _ ?_
 clear z Z
 refine cF (by simp [f0, f1, f2, f3, f4, f5, e0, e1, e2, e3, e4]) ?_
 refine sr fun Z z => ?_
 simp [f0, f1, f2, f3, f4, f5, e0, e1, e2, e3, e4]
 refine z _ ?_
 clear z Z
 refine cF (by simp [f0, f1, f2, f3, f4, f5, e0, e1, e2, e3, e4]) ?_
 refine sr fun Z z => ?_
 simp [f0, f1, f2, f3, f4, f5, e0, e1, e2, e3, e4]
 refine z _ ?_
 clear z Z
 refine cF (by simp [f0, f1, f2, f3, f4, f5, e0, e1, e2, e3, e4]) ?_
 refine AT_region_q fun Z z => ?_
 simp [f0, f1, f2, f3, f4, f5, e0, e1, e2, e3, e4]
 refine z _ ?_
 clear z Z
 refine hK26 _ ?_
 refine cF (by simp [f0, f1, f2, f3, f4, f5, e0, e1, e2, e3, e4]) ?_
 refine AT_skip ?_
 refine hK24 _ ?_
 refine sr fun Z z => ?_
 simp [f0, f1, f2, f3, f4, f5, e0, e1, e2, e3, e4]
 refine z _ ?_
 clear z Z
 refine AT_ret ?_
 simp [Tryd.f47]
 first | (· unfold clsI; repeat (first | omega | split)) | decide
 have f0 : ¬ 97 ≤ n := by omega
 have f1 : n ≤ 122 := by omega
 have f2 : ¬ 65 ≤ n := by omega
 have f3 : n ≤ 90 := by omega
 have f4 : 48 ≤ n := by omega
 have f5 : ¬ n ≤ 57 := by omega
 have e0 : (n == 95) = false := by simp; omega
 have e1 : (n == 9) = false := by simp; omega
 have e2 : (n == 10) = false := by simp; omega
 have e3 : (n == 13) = false := by simp; omega
 have e4 : (n == 32) = false := by simp; omega
 refine sr fun Z z => ?_
 simp [f0, f1, f2, f3, f4, f5, e0, e1, e2, e3, e4]
 refine z _ ?_
 clear z Z
 refine AT_seq_k fun K27 hK27 => ?_
 refine AT_block ?_
 refine AT_seq_k fun K28 hK28 => ?_
 refine sr fun Z z => ?_
 simp [f0, f1, f2, f3, f4, f5, e0, e1, e2, e3, e4]
 refine z _ ?_
 clear z Z
 refine cF (by simp [f0, f1, f2, f3, f4, f5, e0, e1, e2, e3, e4]) ?_
 refine AT_region_q fun Z z => ?_
 simp [f0, f1, f2, f3, f4, f5, e0, e1, e2, e3, e4]
 refine z _ ?_
 clear z Z
 refine hK28 _ ?_
 refine cF (by simp [f0, f1, f2, f3, f4, f5, e0, e1, e2, e3, e4]) ?_
 refine sr fun Z z => ?_
 simp [f0, f1, f2, f3, f4, f5, e0, e1, e2, e3, e4]
 refine z _ ?_
 clear z Z
 refine cF (by simp [f0, f1, f2, f3, f4, f5, e0, e1, e2, e3, e4]) ?_
 refine sr fun Z z => ?_
 simp [f0, f1, f2, f3, f4, f5, e0, e1, e2, e3, e4]
 refine z _ ?_
 clear z Z
 refine cF (by simp [f0, f1, f2, f3, f4, f5, e0, e1, e2, e3, e4]) ?_
 refine AT_seq_k fun K29 hK29 => ?_
 refine sr fun Z z => ?_
 simp [f0, f1, f2, f3, f4, f5, e0, e1, e2, e3, e4]
 refine z _ ?_
 clear z Z
 refine cF (by simp [f0, f1, f2, f3, f4, f5, e0, e1, e2, e3, e4]) ?_
 refine sr fun Z z => ?_
 simp [f0, f1, f2, f3, f4, f5, e0, e1, e2, e3, e4]
 refine z _ ?_
 clear z Z
 refine cF (by simp [f0, f1, f2, f3, f4, f5, e0, e1, e2, e3, e4]) ?_
 refine sr fun Z z => ?_
 simp [f0, f1, f2, f3, f4, f5, e0, e1, e2, e3, e4]
 refine z _ ?_
 clear z Z
 refine cF (by simp [f0, f1, f2, f3, f4, f5, e0, e1, e2, e3, e4]) ?_
 refine AT_region_q fun Z z => ?_
 simp [f0, f1, f2, f3, f4, f5, e0, e1, e2, e3, e4]
 refine z _ ?_
 clear z Z
 refine hK29 _ ?_
 refine cF (by simp [f0, f1, f2, f3, f4, f5, e0, e1, e2, e3, e4]) ?_
 refine AT_skip ?_
 refine hK27 _ ?_
 refine sr fun Z z => ?_
 simp [f0, f1, f2, f3, f4, f5, e0, e1, e2, e3, e4]
 refine z _ ?_
 clear z Z
 refine AT_ret ?_
 simp [Tryd.f47]
 first | (· unfold clsI; repeat (first | omega | split)) | decide
 have f0 : ¬ 97 ≤ n := by omega
 have f1 : n ≤ 122 := by omega
 have f2 : ¬ 65 ≤ n := by omega
 have f3 : n ≤ 90 := by omega
 have f4 : ¬ 48 ≤ n := by omega
 have f5 : n ≤ 57 := by omega
 have e0 : (n == 95) = false := by simp; omega
 have e1 : (n == 9) = false := by simp; omega
 have e2 : (n == 10) = false := by simp; omega
 have e3 : (n == 13) = false := by simp; omega
 have e4 : (n == 32) = false := by simp; omega
 refine sr fun Z z => ?_
 simp [f0, f1, f2, f3, f4, f5, e0, e1, e2, e3, e4]
 refine z _ ?_
 clear z Z
 refine AT_seq_k fun K30 hK30 => ?_
 refine AT_block ?_
 refine AT_seq_k fun K31 hK31 => ?_
 refine sr fun Z z => ?_
 simp [f0, f1, f2, f3, f4, f5, e0, e1, e2, e3, e4]
 refine z _ ?_
 clear z Z
 refine cF (by simp [f0, f1, f2, f3, f4, f5, e0, e1, e2, e3, e4]) ?_
 refine AT_region_q fun Z z => ?_
 simp [f0, f1, f2, f3, f4, f5, e0, e1, e2, e3, e4]
 refine z _ ?_
 clear z Z
 refine hK31 _ ?_
 refine cF (by simp [f0, f1, f2, f3, f4, f5, e0, e1, e2, e3, e4]) ?_
 refine sr fun Z z => ?_
 simp [f0, f1, f2, f3, f4, f5, e0, e1, e2, e3, e4]
 refine z _ ?_
 clear z Z
 refine cF (by simp [f0, f1, f2, f3, f4, f5, e0, e1, e2, e3, e4]) ?_
 refine sr fun Z z => ?_
 simp [f0, f1, f2, f3, f4, f5, e0, e1, e2, e3, e4]
 refine z _ ?_
 clear z Z
 refine cF (by simp [f0, f1, f2, f3, f4, f5, e0, e1, e2, e3, e4]) ?_
 refine AT_seq_k fun K32 hK32 => ?_
 refine sr fun Z z => ?_
 simp [f0, f1, f2, f3, f4, f5, e0, e1, e2, e3, e4]
 refine z _ ?_
 clear z Z
 refine cF (by simp [f0, f1, f2, f3, f4, f5, e0, e1, e2, e3, e4]) ?_
 refine sr fun Z z => ?_
 simp [f0, f1, f2, f3, f4, f5, e0, e1, e2, e3, e4]
 refine z _ ?_
 clear z Z
 refine cF (by simp [f0, f1, f2, f3, f4, f5, e0, e1, e2, e3, e4]) ?_
 refine sr fun Z z => ?_
 simp [f0, f1, f2, f3, f4, f5, e0, e1, e2, e3, e4]
 refine z _ ?_
 clear z Z
 refine cF (by simp [f0, f1, f2, f3, f4, f5, e0, e1, e2, e3, e4]) ?_
 refine AT_region_q fun Z z => ?_
 simp [f0, f1, f2, f3, f4, f5, e0, e1, e2, e3, e4]
 refine z _ ?_
 clear z Z
 refine hK32 _ ?_
 refine cF (by simp [f0, f1, f2, f3, f4, f5, e0, e1, e2, e3, e4]) ?_
 refine AT_skip ?_
 refine hK30 _ ?_
 refine sr fun Z z => ?_
 simp [f0, f1, f2, f3, f4, f5, e0, e1, e2, e3, e4]
 refine z _ ?_
 clear z Z
 refine AT_ret ?_
 simp [Tryd.f47]
 first | (· unfold clsI; repeat (first | omega | split)) | decide

end Go.Proofs.YtghmdnfdocdgfaaDoor
end

section
/- Contracts. -/
set_option linter.all false
set_option maxHeartbeats 1000000
set_option maxRecDepth 10000
namespace Go.Proofs.YtghmdnfdocdgfaaDoor
open Go Go.Pv
variable (g : Nat → Option (List AV)) (rnd : Bool)

theorem c_name_Is_1 (n : Int) (h0 : 0 ≤ n) : Valid Tryd.prog (G0 g rnd) 46 [.int .i32 n] (.bool (wrR n)) := by

 refine valid_of [] Tryd.func46 rfl (by kernel_rfl) ?_
 by_cases h127 : 127 < n
 refine sr fun Z z => ?_
 simp [Tryd.f46, h127]
 refine z _ ?_
 clear z Z
 refine sr fun Z z => ?_
 simp [h127]
 refine z _ ?_
 clear z Z
 refine AT_ret ?_
 simp [Tryd.f46]
 simp [wrR, *]
 have hw : IntKind.u8.wrap n = n := by rw [IntKind.wrap_u8]; omega
 by_cases h1 : clsI n < 1
 refine sr fun Z z => ?_
 simp [h127, hw, h1]
 refine z _ ?_
 clear z Z
 refine sr fun Z z => ?_
 simp [h127, hw, h1]
 refine RVn_call (c_name_Class g rnd n) ?_
 simp [h127, hw, h1]
 repeat refine sg ?_
 refine z _ ?_
 clear z Z
 refine AT_ret ?_
 simp [Tryd.f46]
 simp [wrR, *]
 refine sr fun Z z => ?_
 simp [h127, hw, h1]
 refine z _ ?_
 clear z Z
 refine sr fun Z z => ?_
 simp [h127, hw, h1]
 refine RVn_call (c_name_Class g rnd n) ?_
 simp [h127, hw, h1]
 repeat refine sg ?_
 refine RVn_call (c_name_Class g rnd n) ?_
 simp [h127, hw, h1]
 repeat refine sg ?_
 refine z _ ?_
 clear z Z
 refine AT_ret ?_
 simp [Tryd.f46]
 simp [wrR, *]

theorem c_strings_indexFunc (s : Str) (hs : s.length ≤ 1099511627776) : Valid Tryd.prog (G0 g rnd) 62 [.str s, .func 46 [], .bool true] (.int .i64 (badI s 0)) := by

 refine valid_of [] Tryd.func62 rfl (by kernel_rfl) ?_
 refine sr fun Z z => ?_
 simp [Tryd.f62]
 refine z _ ?_
 clear z Z
 refine AT_seq_k fun K1 hK1 => ?_
 refine sr fun Z z => ?_
 simp
 refine z _ ?_
 clear z Z
 refine AT_block ?_
 refine AT_loop_q [1,2,10] [] (fun j st => ∃ k, k ≤ s.length ∧ badI s 0 = badI (s.drop k) k ∧ j = s.length - k ∧ st = { n := 21, tm := [(1, .v (.func 46 []) none), (2, .v (.bool true) none), (10, .it (.str s k))], bx := [], tb := [], sh := [], hint := [] }) (s.length) (by first | rfl | simp) ?_ ?_
 exact ⟨0, by simp⟩
 rintro j st ⟨k, hk, hc, rfl, rfl⟩ K2 hK2
 by_cases hk2 : k < s.length
 have hbd := badI_drop s k k hk2
 by_cases hgb : goodB s[k] = true
 have hda := dec_ascii s k hk2 (good_ascii hgb)
 have hwr := good_wr hgb
 refine sr fun Z z => ?_
 simp [hk2, hda, hwr]
 refine z _ ?_
 clear z Z
 refine AT_seq_k fun K3 hK3 => ?_
 refine cT (by simp [hk2, hda, hwr]) ?_
 refine AT_skip ?_
 refine hK3 _ ?_
 refine AT_block ?_
 refine sr fun Z z => ?_
 simp [hk2, hda, hwr]
 refine z _ ?_
 clear z Z
 refine sr fun Z z => ?_
 simp [hk2, hda, hwr]
 refine RVn_call (c_name_Is_1 g rnd _ (by omega)) ?_
 simp [hk2, hda, hwr]
 refine z _ ?_
 clear z Z
 refine cF (by simp [hk2, hda, hwr]) ?_
 refine AT_skip ?_
 refine hK2 _ (by first | rfl | simp) (s.length - (k+1)) (by omega) ?_
 refine ⟨k+1, by omega, ?_, by omega, by simp⟩
 rw [hc, hbd, if_pos hgb]
 obtain ⟨rr, qq, hda, hwr⟩ := dec_bad s k hk2 (by simpa using hgb)
 refine sr fun Z z => ?_
 simp [hk2, hda, hwr]
 refine z _ ?_
 clear z Z
 refine AT_seq_k fun K4 hK4 => ?_
 refine cT (by simp [hk2, hda, hwr]) ?_
 refine AT_skip ?_
 refine hK4 _ ?_
 refine AT_block ?_
 refine sr fun Z z => ?_
 simp [hk2, hda, hwr]
 refine z _ ?_
 clear z Z
 refine sr fun Z z => ?_
 simp [hk2, hda, hwr]
 refine RVn_call (c_name_Is_1 g rnd _ (by omega)) ?_
 simp [hk2, hda, hwr]
 refine z _ ?_
 clear z Z
 refine cT (by simp [hk2, hda, hwr]) ?_
 refine sr fun Z z => ?_
 simp [hk2, hda, hwr]
 refine z _ ?_
 clear z Z
 refine AT_ret ?_
 simp [Tryd.f62]
 first | (rw [hc, hbd, if_neg hgb]) | (rw [hc, List.drop_eq_nil_of_le (by omega)]; rfl)
 refine sr fun Z z => ?_
 simp [hk2]
 refine z _ ?_
 clear z Z
 refine AT_seq_k fun K5 hK5 => ?_
 refine cF (by simp [hk2]) ?_
 refine AT_exit ?_
 refine hK1 _ ?_
 refine sr fun Z z => ?_
 simp [hk2]
 refine z _ ?_
 clear z Z
 refine AT_ret ?_
 simp [Tryd.f62]
 first | (rw [hc, hbd, if_neg hgb]) | (rw [hc, List.drop_eq_nil_of_le (by omega)]; rfl)

theorem c_strings_IndexFunc (s : Str) (hs : s.length ≤ 1099511627776) : Valid Tryd.prog (G0 g rnd) 57 [.str s, .func 46 []] (.int .i64 (badI s 0)) := by

 refine valid_of [] Tryd.func57 rfl (by kernel_rfl) ?_
 refine sr fun Z z => ?_
 simp [Tryd.f57]
 refine z _ ?_
 clear z Z
 refine sr fun Z z => ?_
 simp
 refine RVn_call (c_strings_indexFunc g rnd s hs) ?_
 simp
 refine z _ ?_
 clear z Z
 refine AT_ret ?_
 simp [Tryd.f57]

theorem c_strings_ContainsFunc (s : Str) (hs : s.length ≤ 1099511627776) : Valid Tryd.prog (G0 g rnd) 48 [.str s, .func 46 []] (.bool (!s.all goodB)) := by

 refine valid_of [] Tryd.func48 rfl (by kernel_rfl) ?_
 refine sr fun Z z => ?_
 simp [Tryd.f48]
 refine z _ ?_
 clear z Z
 refine sr fun Z z => ?_
 simp
 refine RVn_call (c_strings_IndexFunc g rnd s hs) ?_
 simp
 refine z _ ?_
 clear z Z
 refine AT_ret ?_
 simp [Tryd.f48]
 exact badI_neg s 0

theorem c_slices_Contains_string_string (l : List Str) (x : Str) (hl : l.length ≤ 140737488355328) : Valid Tryd.prog (G0 g rnd) 58 [.slice (l.map encS), .str x] (.bool (l.contains x)) := by

 refine valid_of [] Tryd.func58 rfl (by kernel_rfl) ?_
 refine sr fun Z z => ?_
 simp [Tryd.f58]
 refine z _ ?_
 clear z Z
 refine sr fun Z z => ?_
 simp
 refine RVn_call (c_slices_Index_string_string g rnd l x hl) ?_
 simp
 refine z _ ?_
 clear z Z
 refine AT_ret ?_
 simp [Tryd.f58]
 exact idxF_mem l x 0

theorem c_name_Reserved (s : Str) (hres : g 0 = some reservedA) : Valid Tryd.prog (G0 g rnd) 49 [.str s] (.bool (isRes s)) := by

 refine valid_of [] Tryd.func49 rfl (by kernel_rfl) ?_
 refine sr fun Z z => ?_
 simp [hres, Tryd.f49]
 refine z _ ?_
 clear z Z
 refine sr fun Z z => ?_
 simp [hres]
 refine RVn_call (c_slices_Contains_string_string g rnd reservedL s (by decide)) ?_
 simp [hres]
 refine z _ ?_
 clear z Z
 refine AT_ret ?_
 simp [hres, Tryd.f49]
 simp [isRes]

theorem c_name_Is (s : Str) (hs : s.length ≤ 1099511627776) (hres : g 0 = some reservedA) : Valid Tryd.prog (G0 g rnd) 37 [.str s] (.bool (isName s)) := by

 refine valid_of [] Tryd.func37 rfl (by kernel_rfl) ?_
 refine sr fun Z z => ?_
 simp [Tryd.f37]
 refine z _ ?_
 clear z Z
 refine sr fun Z z => ?_
 simp
 refine z _ ?_
 clear z Z
 rcases s with _ | ⟨b, r⟩
 refine sr fun Z z => ?_
 simp
 refine z _ ?_
 clear z Z
 refine AT_ret ?_
 simp [Tryd.f37]
 first | rfl | (· simp [isName, hc, hga]) | (· simp only [isName, List.all_cons, hga]; simp [hc]) | (· simp [isName, hcb])
 by_cases hc : clsI (b.toNat : Int) = 1
 cases hga : (goodB b && r.all goodB)
 refine sr fun Z z => ?_
 simp [hc, hga]
 refine RVn_call (c_name_Class g rnd _) ?_
 simp [hc, hga]
 repeat refine sg ?_
 refine RVn_call (c_strings_ContainsFunc g rnd _ hs) ?_
 simp [hc, hga]
 repeat refine sg ?_
 refine z _ ?_
 clear z Z
 refine AT_ret ?_
 simp [Tryd.f37]
 first | rfl | (· simp [isName, hc, hga]) | (· simp only [isName, List.all_cons, hga]; simp [hc]) | (· simp [isName, hcb])
 refine sr fun Z z => ?_
 simp [hc, hga]
 refine RVn_call (c_name_Class g rnd _) ?_
 simp [hc, hga]
 repeat refine sg ?_
 refine RVn_call (c_strings_ContainsFunc g rnd _ hs) ?_
 simp [hc, hga]
 repeat refine sg ?_
 refine RVn_call (c_name_Reserved g rnd _ hres) ?_
 simp [hc, hga]
 repeat refine sg ?_
 refine z _ ?_
 clear z Z
 refine AT_ret ?_
 simp [Tryd.f37]
 first | rfl | (· simp [isName, hc, hga]) | (· simp only [isName, List.all_cons, hga]; simp [hc]) | (· simp [isName, hcb])
 have hcb : (clsI (b.toNat : Int) == 1) = false := by simpa using hc
 refine sr fun Z z => ?_
 simp [hcb]
 refine RVn_call (c_name_Class g rnd _) ?_
 simp [hcb]
 repeat refine sg ?_
 refine z _ ?_
 clear z Z
 refine AT_ret ?_
 simp [Tryd.f37]
 first | rfl | (· simp [isName, hc, hga]) | (· simp only [isName, List.all_cons, hga]; simp [hc]) | (· simp [isName, hcb])

end Go.Proofs.YtghmdnfdocdgfaaDoor
end

import Derived.Test.YtocmdbojefgpbaaGreatDoorPt
import Derived.Test.YtocmdbojefgpbaaGreatDoorPvPb
import Derived.Test.YtocmdbojefgpbaaGreatDoorPvY
import Derived.Test.YtocmdbojefgpbaaGreatDoorXTyI
import Derived.Test.YtocmdbojefgpbaaGreatDoorXShelf
import Derived.Test.YtocmdbojefgpbaaGreatDoorXNaC
section
/- Contracts. -/
set_option linter.all false
set_option maxHeartbeats 1000000
set_option maxRecDepth 10000
namespace Go.Proofs.YtocmdbojefgpbaaGreatDoor
open Go Go.Pv
variable (g : Nat → Option (List AV)) (rnd : Bool)

theorem c_name_Class (n : Int) : Valid Tryz.prog (G0 g rnd) 77 [.int .u8 n] (.int .i64 (clsI n)) := by

 refine valid_of [] Tryz.func77 rfl (by kernel_rfl) ?_
 rcases cls_cases n with hc | hc | hc | hc | hc | hc | hc | hc | hc | hc | hc | hc
 have f0 : 97 ≤ n := by omega
 have f1 : n ≤ 122 := by omega
 have f2 : 65 ≤ n := by omega
 have f3 : ¬ n ≤ 90 := by omega
 have f4 : 48 ≤ n := by omega
 have f5 : ¬ n ≤ 57 := by omega
 have e0 : (n == 95) = false := by simp; omega
 have e1 : (n == 9) = false := by simp; omega
 have e2 : (n == 10) = false := by simp; omega
 have e3 : (n == 13) = false := by simp; omega
 have e4 : (n == 32) = false := by simp; omega
 refine sr fun Z z => ?_
 simp [Tryz.f77, f0, f1, f2, f3, f4, f5, e0, e1, e2, e3, e4]
 refine z _ ?_
 clear z Z
 refine AT_seq_k fun K1 hK1 => ?_
 refine AT_block ?_
 refine AT_seq_k fun K2 hK2 => ?_
 refine sr fun Z z => ?_
 simp [f0, f1, f2, f3, f4, f5, e0, e1, e2, e3, e4]
 repeat refine sg ?_
 refine z _ ?_
 clear z Z
 refine cT (by simp [f0, f1, f2, f3, f4, f5, e0, e1, e2, e3, e4]) ?_
 refine AT_skip ?_
 try simp only [nrm, reduceIte, Nat.reduceEqDiff]
 refine hK2 _ ?_
 refine cT (by simp [f0, f1, f2, f3, f4, f5, e0, e1, e2, e3, e4]) ?_
 refine sr fun Z z => ?_
 simp [f0, f1, f2, f3, f4, f5, e0, e1, e2, e3, e4]
 refine z _ ?_
 clear z Z
 refine AT_ret ?_
 simp [Tryz.f77]
 first | (· unfold clsI; repeat (first | omega | split)) | decide
 have f0 : ¬ 97 ≤ n := by omega
 have f1 : n ≤ 122 := by omega
 have f2 : 65 ≤ n := by omega
 have f3 : n ≤ 90 := by omega
 have f4 : 48 ≤ n := by omega
 have f5 : ¬ n ≤ 57 := by omega
 have e0 : (n == 95) = false := by simp; omega
 have e1 : (n == 9) = false := by simp; omega
 have e2 : (n == 10) = false := by simp; omega
 have e3 : (n == 13) = false := by simp; omega
 have e4 : (n == 32) = false := by simp; omega
 refine sr fun Z z => ?_
 simp [f0, f1, f2, f3, f4, f5, e0, e1, e2, e3, e4]
 refine z _ ?_
 clear z Z
 refine AT_seq_k fun K3 hK3 => ?_
 refine AT_block ?_
 refine AT_seq_k fun K4 hK4 => ?_
 refine sr fun Z z => ?_
 simp [f0, f1, f2, f3, f4, f5, e0, e1, e2, e3, e4]
 repeat refine sg ?_
 refine z _ ?_
 clear z Z
 refine cF (by simp [f0, f1, f2, f3, f4, f5, e0, e1, e2, e3, e4]) ?_
 refine AT_region_q fun Z z => ?_
 simp [f0, f1, f2, f3, f4, f5, e0, e1, e2, e3, e4]
 repeat refine sg ?_
 refine z _ ?_
 clear z Z
 try simp only [nrm, reduceIte, Nat.reduceEqDiff]
 refine hK4 _ ?_
 refine cT (by simp [f0, f1, f2, f3, f4, f5, e0, e1, e2, e3, e4]) ?_
 refine sr fun Z z => ?_
 simp [f0, f1, f2, f3, f4, f5, e0, e1, e2, e3, e4]
 refine z _ ?_
 clear z Z
 refine AT_ret ?_
 simp [Tryz.f77]
 first | (· unfold clsI; repeat (first | omega | split)) | decide
 have f0 : ¬ 97 ≤ n := by omega
 have f1 : n ≤ 122 := by omega
 have f2 : ¬ 65 ≤ n := by omega
 have f3 : n ≤ 90 := by omega
 have f4 : 48 ≤ n := by omega
 have f5 : n ≤ 57 := by omega
 have e0 : (n == 95) = false := by simp; omega
 have e1 : (n == 9) = false := by simp; omega
 have e2 : (n == 10) = false := by simp; omega
 have e3 : (n == 13) = false := by simp; omega
 have e4 : (n == 32) = false := by simp; omega
 refine sr fun Z z => ?_
 simp [f0, f1, f2, f3, f4, f5, e0, e1, e2, e3, e4]
 refine z _ ?_
 clear z Z
 refine AT_seq_k fun K5 hK5 => ?_
 refine AT_block ?_
 refine AT_seq_k fun K6 hK6 => ?_
 refine sr fun Z z => ?_
 simp [f0, f1, f2, f3, f4, f5, e0, e1, e2, e3, e4]
 repeat refine sg ?_
 refine z _ ?_
 clear z Z
 refine cF (by simp [f0, f1, f2, f3, f4, f5, e0, e1, e2, e3, e4]) ?_
 refine AT_region_q fun Z z => ?_
 simp [f0, f1, f2, f3, f4, f5, e0, e1, e2, e3, e4]
 repeat refine sg ?_
 refine z _ ?_
 clear z Z
 try simp only [nrm, reduceIte, Nat.reduceEqDiff]
 refine hK6 _ ?_
 refine cF (by simp [f0, f1, f2, f3, f4, f5, e0, e1, e2, e3, e4]) ?_
 refine sr fun Z z => ?_
 simp [f0, f1, f2, f3, f4, f5, e0, e1, e2, e3, e4]
 repeat refine sg ?_
 refine z _ ?_
 clear z Z
 refine cT (by simp [f0, f1, f2, f3, f4, f5, e0, e1, e2, e3, e4]) ?_
 refine sr fun Z z => ?_
 simp [f0, f1, f2, f3, f4, f5, e0, e1, e2, e3, e4]
 refine z _ ?_
 clear z Z
 refine AT_ret ?_
 simp [Tryz.f77]
 first | (· unfold clsI; repeat (first | omega | split)) | decide
 subst hc
 refine sr fun Z z => ?_
 simp
 refine z _ ?_
 clear z Z
 refine AT_seq_k fun K7 hK7 => ?_
 refine AT_block ?_
 refine AT_seq_k fun K8 hK8 => ?_
 refine sr fun Z z => ?_
 simp
 repeat refine sg ?_
 refine z _ ?_
 clear z Z
 refine cF (by simp) ?_
 refine AT_region_q fun Z z => ?_
 simp
 repeat refine sg ?_
 refine z _ ?_
 clear z Z
 try simp only [nrm, reduceIte, Nat.reduceEqDiff]
 refine hK8 _ ?_
 refine cF (by simp) ?_
 refine sr fun Z z => ?_
 simp
 repeat refine sg ?_
 refine z _ ?_
 clear z Z
 refine cF (by simp) ?_
 refine sr fun Z z => ?_
 simp
 repeat refine sg ?_
 refine z _ ?_
 clear z Z
 refine cT (by simp) ?_
 refine sr fun Z z => ?_
 simp
 refine z _ ?_
 clear z Z
 refine AT_ret ?_
 simp [Tryz.f77]
 first | (· unfold clsI; repeat (first | omega | split)) | decide
 subst hc
 refine sr fun Z z => ?_
 simp
 refine z _ ?_
 clear z Z
 refine AT_seq_k fun K9 hK9 => ?_
 refine AT_block ?_
 refine AT_seq_k fun K10 hK10 => ?_
 refine sr fun Z z => ?_
 simp
 repeat refine sg ?_
 refine z _ ?_
 clear z Z
 refine cF (by simp) ?_
 refine AT_region_q fun Z z => ?_
 simp
 repeat refine sg ?_
 refine z _ ?_
 clear z Z
 try simp only [nrm, reduceIte, Nat.reduceEqDiff]
 refine hK10 _ ?_
 refine cF (by simp) ?_
 refine sr fun Z z => ?_
 simp
 repeat refine sg ?_
 refine z _ ?_
 clear z Z
 refine cF (by simp) ?_
 refine sr fun Z z => ?_
 simp
 repeat refine sg ?_
 refine z _ ?_
 clear z Z
 refine cF (by simp) ?_
 refine AT_seq_k fun K11 hK11 => ?_
 refine sr fun Z z => ?_
 simp
 repeat refine sg ?_
 refine z _ ?_
 clear z Z
 refine cT (by simp) ?_
 refine AT_skip ?_
 try simp only [nrm, reduceIte, Nat.reduceEqDiff]
 refine hK11 _ ?_
 refine cT (by simp) ?_
 refine sr fun Z z => ?_
 simp
 refine z _ ?_
 clear z Z
 refine AT_ret ?_
 simp [Tryz.f77]
 first | (· unfold clsI; repeat (first | omega | split)) | decide
 subst hc
 refine sr fun Z z => ?_
 simp
 refine z _ ?_
 clear z Z
 refine AT_seq_k fun K12 hK12 => ?_
 refine AT_block ?_
 refine AT_seq_k fun K13 hK13 => ?_
 refine sr fun Z z => ?_
 simp
 repeat refine sg ?_
 refine z _ ?_
 clear z Z
 refine cF (by simp) ?_
 refine AT_region_q fun Z z => ?_
 simp
 repeat refine sg ?_
 refine z _ ?_
 clear z Z
 try simp only [nrm, reduceIte, Nat.reduceEqDiff]
 refine hK13 _ ?_
 refine cF (by simp) ?_
 refine sr fun Z z => ?_
 simp
 repeat refine sg ?_
 refine z _ ?_
 clear z Z
 refine cF (by simp) ?_
 refine sr fun Z z => ?_
 simp
 repeat refine sg ?_
 refine z _ ?_
 clear z Z
 refine cF (by simp) ?_
 refine AT_seq_k fun K14 hK14 => ?_
 refine sr fun Z z => ?_
 simp
 repeat refine sg ?_
 refine z _ ?_
 clear z Z
 refine cF (by simp) ?_
 refine sr fun Z z => ?_
 simp
 repeat refine sg ?_
 refine z _ ?_
 clear z Z
 refine cT (by simp) ?_
 refine AT_skip ?_
 try simp only [nrm, reduceIte, Nat.reduceEqDiff]
 refine hK14 _ ?_
 refine cT (by simp) ?_
 refine sr fun Z z => ?_
 simp
 refine z _ ?_
 clear z Z
 refine AT_ret ?_
 simp [Tryz.f77]
 first | (· unfold clsI; repeat (first | omega | split)) | decide
 subst hc
 refine sr fun Z z => ?_
 simp
 refine z _ ?_
 clear z Z
 refine AT_seq_k fun K15 hK15 => ?_
 refine AT_block ?_
 refine AT_seq_k fun K16 hK16 => ?_
 refine sr fun Z z => ?_
 simp
 repeat refine sg ?_
 refine z _ ?_
 clear z Z
 refine cF (by simp) ?_
 refine AT_region_q fun Z z => ?_
 simp
 repeat refine sg ?_
 refine z _ ?_
 clear z Z
 try simp only [nrm, reduceIte, Nat.reduceEqDiff]
 refine hK16 _ ?_
 refine cF (by simp) ?_
 refine sr fun Z z => ?_
 simp
 repeat refine sg ?_
 refine z _ ?_
 clear z Z
 refine cF (by simp) ?_
 refine sr fun Z z => ?_
 simp
 repeat refine sg ?_
 refine z _ ?_
 clear z Z
 refine cF (by simp) ?_
 refine AT_seq_k fun K17 hK17 => ?_
 refine sr fun Z z => ?_
 simp
 repeat refine sg ?_
 refine z _ ?_
 clear z Z
 refine cF (by simp) ?_
 refine sr fun Z z => ?_
 simp
 repeat refine sg ?_
 refine z _ ?_
 clear z Z
 refine cF (by simp) ?_
 refine sr fun Z z => ?_
 simp
 repeat refine sg ?_
 refine z _ ?_
 clear z Z
 refine cT (by simp) ?_
 refine AT_skip ?_
 try simp only [nrm, reduceIte, Nat.reduceEqDiff]
 refine hK17 _ ?_
 refine cT (by simp) ?_
 refine sr fun Z z => ?_
 simp
 refine z _ ?_
 clear z Z
 refine AT_ret ?_
 simp [Tryz.f77]
 first | (· unfold clsI; repeat (first | omega | split)) | decide
 subst hc
 refine sr fun Z z => ?_
 simp
 refine z _ ?_
 clear z Z
 refine AT_seq_k fun K18 hK18 => ?_
 refine AT_block ?_
 refine AT_seq_k fun K19 hK19 => ?_
 refine sr fun Z z => ?_
 simp
 repeat refine sg ?_
 refine z _ ?_
 clear z Z
 refine cF (by simp) ?_
 refine AT_region_q fun Z z => ?_
 simp
 repeat refine sg ?_
 refine z _ ?_
 clear z Z
 try simp only [nrm, reduceIte, Nat.reduceEqDiff]
 refine hK19 _ ?_
 refine cF (by simp) ?_
 refine sr fun Z z => ?_
 simp
 repeat refine sg ?_
 refine z _ ?_
 clear z Z
 refine cF (by simp) ?_
 refine sr fun Z z => ?_
 simp
 repeat refine sg ?_
 refine z _ ?_
 clear z Z
 refine cF (by simp) ?_
 refine AT_seq_k fun K20 hK20 => ?_
 refine sr fun Z z => ?_
 simp
 repeat refine sg ?_
 refine z _ ?_
 clear z Z
 refine cF (by simp) ?_
 refine sr fun Z z => ?_
 simp
 repeat refine sg ?_
 refine z _ ?_
 clear z Z
 refine cF (by simp) ?_
 refine sr fun Z z => ?_
 simp
 repeat refine sg ?_
 refine z _ ?_
 clear z Z
 refine cF (by simp) ?_
 refine AT_region_q fun Z z => ?_
 simp
 repeat refine sg ?_
 refine z _ ?_
 clear z Z
 try simp only [nrm, reduceIte, Nat.reduceEqDiff]
 refine hK20 _ ?_
 refine cT (by simp) ?_
 refine sr fun Z z => ?_
 simp
 refine z _ ?_
 clear z Z
 refine AT_ret ?_
 simp [Tryz.f77]
 first | (· unfold clsI; repeat (first | omega | split)) | decide
 have f0 : 97 ≤ n := by omega
 have f1 : ¬ n ≤ 122 := by omega
 have f2 : 65 ≤ n := by omega
 have f3 : ¬ n ≤ 90 := by omega
 have f4 : 48 ≤ n := by omega
 have f5 : ¬ n ≤ 57 := by omega
 have e0 : (n == 95) = false := by simp; omega
 have e1 : (n == 9) = false := by simp; omega
 have e2 : (n == 10) = false := by simp; omega
 have e3 : (n == 13) = false := by simp; omega
 have e4 : (n == 32) = false := by simp; omega
 refine sr fun Z z => ?_
 simp [f0, f1, f2, f3, f4, f5, e0, e1, e2, e3, e4]
 refine z _ ?_
 clear z Z
 refine AT_seq_k fun K21 hK21 => ?_
 refine AT_block ?_
 refine AT_seq_k fun K22 hK22 => ?_
 refine sr fun Z z => ?_
 simp [f0, f1, f2, f3, f4, f5, e0, e1, e2, e3, e4]
 repeat refine sg ?_
 refine z _ ?_
 clear z Z
 refine cF (by simp [f0, f1, f2, f3, f4, f5, e0, e1, e2, e3, e4]) ?_
 refine AT_region_q fun Z z => ?_
 simp [f0, f1, f2, f3, f4, f5, e0, e1, e2, e3, e4]
 repeat refine sg ?_
 refine z _ ?_
 clear z Z
 try simp only [nrm, reduceIte, Nat.reduceEqDiff]
 refine hK22 _ ?_
 refine cF (by simp [f0, f1, f2, f3, f4, f5, e0, e1, e2, e3, e4]) ?_
 refine sr fun Z z => ?_
 simp [f0, f1, f2, f3, f4, f5, e0, e1, e2, e3, e4]
 repeat refine sg ?_
 refine z _ ?_
 clear z Z
 refine cF (by simp [f0, f1, f2, f3, f4, f5, e0, e1, e2, e3, e4]) ?_
 refine sr fun Z z => ?_
 simp [f0, f1, f2, f3, f4, f5, e0, e1, e2, e3, e4]
 repeat refine sg ?_
 refine z _ ?_
 clear z Z
 refine cF (by simp [f0, f1, f2, f3, f4, f5, e0, e1, e2, e3, e4]) ?_
 refine AT_seq_k fun K23 hK23 => ?_
 refine sr fun Z z => ?_
 simp [f0, f1, f2, f3, f4, f5, e0, e1, e2, e3, e4]
 repeat refine sg ?_
 refine z _ ?_
 clear z Z
 refine cF (by simp [f0, f1, f2, f3, f4, f5, e0, e1, e2, e3, e4]) ?_
 refine sr fun Z z => ?_
 simp [f0, f1, f2, f3, f4, f5, e0, e1, e2, e3, e4]
 repeat refine sg ?_
 refine z _ ?_
 clear z Z
 refine cF (by simp [f0, f1, f2, f3, f4, f5, e0, e1, e2, e3, e4]) ?_
 refine sr fun Z z => ?_
 simp [f0, f1, f2, f3, f4, f5, e0, e1, e2, e3, e4]
 repeat refine sg ?_
 refine z _ ?_
 clear z Z
 refine cF (by simp [f0, f1, f2, f3, f4, f5, e0, e1, e2, e3, e4]) ?_
 refine AT_region_q fun Z z => ?_
 simp [f0, f1, f2, f3, f4, f5, e0, e1, e2, e3, e4]
 repeat refine sg ?_
 refine z _ ?_
 clear z Z
 try simp only [nrm, reduceIte, Nat.reduceEqDiff]
 refine hK23 _ ?_
 refine cF (by simp [f0, f1, f2, f3, f4, f5, e0, e1, e2, e3, e4]) ?_
 refine AT_skip ?_
 try simp only [nrm, reduceIte, Nat.reduceEqDiff]
 refine hK21 _ ?_
 refine sr fun Z z => ?_
 simp [f0, f1, f2, f3, f4, f5, e0, e1, e2, e3, e4]
 refine z _ ?_
 clear z Z
 refine AT_ret ?_
 simp [Tryz.f77]
 first | (· unfold clsI; repeat (first | omega | split)) | decide
 have f0 : ¬ 97 ≤ n := by omega
 have f1 : n ≤ 122 := by omega
 have f2 : 65 ≤ n := by omega
 have f3 : ¬ n ≤ 90 := by omega
 have f4 : 48 ≤ n := by omega
 have f5 : ¬ n ≤ 57 := by omega
 have e0 : (n == 95) = false := by simp; omega
 have e1 : (n == 9) = false := by simp; omega
 have e2 : (n == 10) = false := by simp; omega
 have e3 : (n == 13) = false := by simp; omega
 have e4 : (n == 32) = false := by simp; omega
 refine sr fun Z z => ?_
 simp [f0, f1, f2, f3, f4, f5, e0, e1, e2, e3, e4]
 refine z _ ?_
 clear z Z
 refine AT_seq_k fun K24 hK24 => ?_
 refine AT_block ?_
 refine AT_seq_k fun K25 hK25 => ?_
 refine sr fun Z z => ?_
 simp [f0, f1, f2, f3, f4, f5, e0, e1, e2, e3, e4]
 repeat refine sg ?_
 refine z _ ?_
 clear z Z
 refine cF (by simp [f0, f1, f2, f3, f4, f5, e0, e1, e2, e3, e4]) ?_
 refine AT_region_q fun Z z => ?_
 simp [f0, f1, f2, f3, f4, f5, e0, e1, e2, e3, e4]
 repeat refine sg ?_
 refine z _ ?_
 clear z Z
 try simp only [nrm, reduceIte, Nat.reduceEqDiff]
 refine hK25 _ ?_
 refine cF (by simp [f0, f1, f2, f3, f4, f5, e0, e1, e2, e3, e4]) ?_
 refine sr fun Z z => ?_
 simp [f0, f1, f2, f3, f4, f5, e0, e1, e2, e3, e4]
 repeat refine sg ?_
 refine z _ ?_
 clear z Z
 refine cF (by simp [f0, f1, f2, f3, f4, f5, e0, e1, e2, e3, e4]) ?_
 refine sr fun Z z => ?_
 simp [f0, f1, f2, f3, f4, f5, e0, e1, e2, e3, e4]
 repeat refine sg ?_
 refine z _ ?_
 clear z Z
 refine cF (by simp [f0, f1, f2, f3, f4, f5, e0, e1, e2, e3, e4]) ?_
 refine AT_seq_k fun K26 hK26 => ?_
 refine sr fun Z z => ?_
 simp [f0, f1, f2, f3, f4, f5, e0, e1, e2, e3, e4]
 repeat refine sg ?_
 refine z _ ?_
 clear z Z
 refine cF (by simp [f0, f1, f2, f3, f4, f5, e0, e1, e2, e3, e4]) ?_
 refine sr fun Z z => ?_
 simp [f0, f1, f2, f3, f4, f5, e0, e1, e2, e3, e4]
 repeat refine sg ?_
 refine z _ ?_
 clear z Z
 refine cF (by simp [f0, f1, f2, f3, f4, f5, e0, e1, e2, e3, e4]) ?_
 refine sr fun Z z => ?_
 simp [f0, f1, f2, f3, f4, f5, e0, e1, e2, e3, e4]
 repeat refine sg ?_
 refine z _ ?_
 clear z Z
 refine cF (by simp [f0, f1, f2, f3, f4, f5, e0, e1, e2, e3, e4]) ?_
 refine AT_region_q fun Z z => ?_
 simp [f0, f1, f2, f3, f4, f5, e0, e1, e2, e3, e4]
 repeat refine sg ?_
 refine z _ ?_
 clear z Z
 try simp only [nrm, reduceIte, Nat.reduceEqDiff]
 refine hK26 _ ?_
 refine cF (by simp [f0, f1, f2, f3, f4, f5, e0, e1, e2, e3, e4]) ?_
 refine AT_skip ?_
 try simp only [nrm, reduceIte, Nat.reduceEqDiff]
 refine hK24 _ ?_
 refine sr fun Z z => ?_
 simp [f0, f1, f2, f3, f4, f5, e0, e1, e2, e3, e4]
 refine z _ ?_
 clear z Z
 refine AT_ret ?_
 simp [Tryz.f77]
 first | (· unfold clsI; repeat (first | omega | split)) | decide
 have f0 : ¬ 97 ≤ n := by omega
 have f1 : n ≤ 122 := by omega
 have f2 : ¬ 65 ≤ n := by omega
 have f3 : n ≤ 90 := by omega
 have f4 : 48 ≤ n := by omega
 have f5 : ¬ n ≤ 57 := by omega
 have e0 : (n == 95) = false := by simp; omega
 have e1 : (n == 9) = false := by simp; omega
 have e2 : (n == 10) = false := by simp; omega
 have e3 : (n == 13) = false := by simp; omega
 have e4 : (n == 32) = false := by simp; omega
 refine sr fun Z z => ?_
 simp [f0, f1, f2, f3, f4, f5, e0, e1, e2, e3, e4]
 refine z _ ?_
 clear z Z
 refine AT_seq_k fun K27 hK27 => ?_
 refine AT_block ?_
 refine AT_seq_k fun K28 hK28 => ?_
 refine sr fun Z z => ?_
 simp [f0, f1, f2, f3, f4, f5, e0, e1, e2, e3, e4]
 repeat refine sg ?_
 refine z _ ?_
 clear z Z
 refine cF (by simp [f0, f1, f2, f3, f4, f5, e0, e1, e2, e3, e4]) ?_
 refine AT_region_q fun Z z => ?_
 simp [f0, f1, f2, f3, f4, f5, e0, e1, e2, e3, e4]
 repeat refine sg ?_
 refine z _ ?_
 clear z Z
 try simp only [nrm, reduceIte, Nat.reduceEqDiff]
 refine hK28 _ ?_
 refine cF (by simp [f0, f1, f2, f3, f4, f5, e0, e1, e2, e3, e4]) ?_
 refine sr fun Z z => ?_
 simp [f0, f1, f2, f3, f4, f5, e0, e1, e2, e3, e4]
 repeat refine sg ?_
 refine z _ ?_
 clear z Z
 refine cF (by simp [f0, f1, f2, f3, f4, f5, e0, e1, e2, e3, e4]) ?_
 refine sr fun Z z => ?_
 simp [f0, f1, f2, f3, f4, f5, e0, e1, e2, e3, e4]
 repeat refine sg ?_
 refine z _ ?_
 clear z Z
 refine cF (by simp [f0, f1, f2, f3, f4, f5, e0, e1, e2, e3, e4]) ?_
 refine AT_seq_k fun K29 hK29 => ?_
 refine sr fun Z z => ?_
 simp [f0, f1, f2, f3, f4, f5, e0, e1, e2, e3, e4]
 repeat refine sg ?_
 refine z _ ?_
 clear z Z
 refine cF (by simp [f0, f1, f2, f3, f4, f5, e0, e1, e2, e3, e4]) ?_
 refine sr fun Z z => ?_
 simp [f0, f1, f2, f3, f4, f5, e0, e1, e2, e3, e4]
 repeat refine sg ?_
 refine z _ ?_
 clear z Z
 refine cF (by simp [f0, f1, f2, f3, f4, f5, e0, e1, e2, e3, e4]) ?_
 refine sr fun Z z => ?_
 simp [f0, f1, f2, f3, f4, f5, e0, e1, e2, e3, e4]
 repeat refine sg ?_
 refine z _ ?_
 clear z Z
 refine cF (by simp [f0, f1, f2, f3, f4, f5, e0, e1, e2, e3, e4]) ?_
 refine AT_region_q fun Z z => ?_
 simp [f0, f1, f2, f3, f4, f5, e0, e1, e2, e3, e4]
 repeat refine sg ?_
 refine z _ ?_
 clear z Z
 try simp only [nrm, reduceIte, Nat.reduceEqDiff]
 refine hK29 _ ?_
 refine cF (by simp [f0, f1, f2, f3, f4, f5, e0, e1, e2, e3, e4]) ?_
 refine AT_skip ?_
 try simp only [nrm, reduceIte, Nat.reduceEqDiff]
 refine hK27 _ ?_
 refine sr fun Z z => ?_
 simp [f0, f1, f2, f3, f4, f5, e0, e1, e2, e3, e4]
 refine z _ ?_
 clear z Z
 refine AT_ret ?_
 simp [Tryz.f77]
 first | (· unfold clsI; repeat (first | omega | split)) | decide
 have f0 : ¬ 97 ≤ n := by omega
 have f1 : n ≤ 122 := by omega
 have f2 : ¬ 65 ≤ n := by omega
 have f3 : n ≤ 90 := by omega
 have f4 : ¬ 48 ≤ n := by omega
 have f5 : n ≤ 57 := by omega
 have e0 : (n == 95) = false := by simp; omega
 have e1 : (n == 9) = false := by simp; omega
 have e2 : (n == 10) = false := by simp; omega
 have e3 : (n == 13) = false := by simp; omega
 have e4 : (n == 32) = false := by simp; omega
 refine sr fun Z z => ?_
 simp [f0, f1, f2, f3, f4, f5, e0, e1, e2, e3, e4]
 refine z _ ?_
 clear z Z
 refine AT_seq_k fun K30 hK30 => ?_
 refine AT_block ?_
 refine AT_seq_k fun K31 hK31 => ?_
 refine sr fun Z z => ?_
 simp [f0, f1, f2, f3, f4, f5, e0, e1, e2, e3, e4]
 repeat refine sg ?_
 refine z _ ?_
 clear z Z
 refine cF (by simp [f0, f1, f2, f3, f4, f5, e0, e1, e2, e3, e4]) ?_
 refine AT_region_q fun Z z => ?_
 simp [f0, f1, f2, f3, f4, f5, e0, e1, e2, e3, e4]
 repeat refine sg ?_
 refine z _ ?_
 clear z Z
 try simp only [nrm, reduceIte, Nat.reduceEqDiff]
 refine hK31 _ ?_
 refine cF (by simp [f0, f1, f2, f3, f4, f5, e0, e1, e2, e3, e4]) ?_
 refine sr fun Z z => ?_
 simp [f0, f1, f2, f3, f4, f5, e0, e1, e2, e3, e4]
 repeat refine sg ?_
 refine z _ ?_
 clear z Z
 refine cF (by simp [f0, f1, f2, f3, f4, f5, e0, e1, e2, e3, e4]) ?_
 refine sr fun Z z => ?_
 simp [f0, f1, f2, f3, f4, f5, e0, e1, e2, e3, e4]
 repeat refine sg ?_
 refine z _ ?_
 clear z Z
 refine cF (by simp [f0, f1, f2, f3, f4, f5, e0, e1, e2, e3, e4]) ?_
 refine AT_seq_k fun K32 hK32 => ?_
 refine sr fun Z z => ?_
 simp [f0, f1, f2, f3, f4, f5, e0, e1, e2, e3, e4]
 repeat refine sg ?_
 refine z _ ?_
 clear z Z
 refine cF (by simp [f0, f1, f2, f3, f4, f5, e0, e1, e2, e3, e4]) ?_
 refine sr fun Z z => ?_
 simp [f0, f1, f2, f3, f4, f5, e0, e1, e2, e3, e4]
 repeat refine sg ?_
 refine z _ ?_
 clear z Z
 refine cF (by simp [f0, f1, f2, f3, f4, f5, e0, e1, e2, e3, e4]) ?_
 refine sr fun Z z => ?_
 simp [f0, f1, f2, f3, f4, f5, e0, e1, e2, e3, e4]
 repeat refine sg ?_
 refine z _ ?_
 clear z Z
 refine cF (by simp [f0, f1, f2, f3, f4, f5, e0, e1, e2, e3, e4]) ?_
 refine AT_region_q fun Z z => ?_
 simp [f0, f1, f2, f3, f4, f5, e0, e1, e2, e3, e4]
 repeat refine sg ?_
 refine z _ ?_
 clear z Z
 try simp only [nrm, reduceIte, Nat.reduceEqDiff]
 refine hK32 _ ?_
 refine cF (by simp [f0, f1, f2, f3, f4, f5, e0, e1, e2, e3, e4]) ?_
 refine AT_skip ?_
 try simp only [nrm, reduceIte, Nat.reduceEqDiff]
 refine hK30 _ ?_
 refine sr fun Z z => ?_
 simp [f0, f1, f2, f3, f4, f5, e0, e1, e2, e3, e4]
 refine z _ ?_
 clear z Z
 refine AT_ret ?_
 simp [Tryz.f77]
 first | (· unfold clsI; repeat (first | omega | split)) | decide

theorem c_ref01x_Class (n : Int) : Valid Tryz.prog (G0 g rnd) 46 [.int .u8 n] (.int .i64 (clsI n)) := by

 refine valid_of [] Tryz.func46 rfl (by kernel_rfl) ?_
 rcases cls_cases n with hc | hc | hc | hc | hc | hc | hc | hc | hc | hc | hc | hc
 have f0 : 97 ≤ n := by omega
 have f1 : n ≤ 122 := by omega
 have f2 : 65 ≤ n := by omega
 have f3 : ¬ n ≤ 90 := by omega
 have f4 : 48 ≤ n := by omega
 have f5 : ¬ n ≤ 57 := by omega
 have e0 : (n == 95) = false := by simp; omega
 have e1 : (n == 9) = false := by simp; omega
 have e2 : (n == 10) = false := by simp; omega
 have e3 : (n == 13) = false := by simp; omega
 have e4 : (n == 32) = false := by simp; omega
 refine sr fun Z z => ?_
 simp [Tryz.f46, f0, f1, f2, f3, f4, f5, e0, e1, e2, e3, e4]
 refine z _ ?_
 clear z Z
 refine AT_seq_k fun K1 hK1 => ?_
 refine sr fun Z z => ?_
 simp [f0, f1, f2, f3, f4, f5, e0, e1, e2, e3, e4]
 repeat refine sg ?_
 refine z _ ?_
 clear z Z
 refine cT (by simp [f0, f1, f2, f3, f4, f5, e0, e1, e2, e3, e4]) ?_
 refine sr fun Z z => ?_
 simp [f0, f1, f2, f3, f4, f5, e0, e1, e2, e3, e4]
 refine z _ ?_
 clear z Z
 refine AT_ret ?_
 simp [Tryz.f46]
 first | (· unfold clsI; repeat (first | omega | split)) | decide
 have f0 : ¬ 97 ≤ n := by omega
 have f1 : n ≤ 122 := by omega
 have f2 : 65 ≤ n := by omega
 have f3 : n ≤ 90 := by omega
 have f4 : 48 ≤ n := by omega
 have f5 : ¬ n ≤ 57 := by omega
 have e0 : (n == 95) = false := by simp; omega
 have e1 : (n == 9) = false := by simp; omega
 have e2 : (n == 10) = false := by simp; omega
 have e3 : (n == 13) = false := by simp; omega
 have e4 : (n == 32) = false := by simp; omega
 refine sr fun Z z => ?_
 simp [f0, f1, f2, f3, f4, f5, e0, e1, e2, e3, e4]
 refine z _ ?_
 clear z Z
 refine AT_seq_k fun K2 hK2 => ?_
 refine sr fun Z z => ?_
 simp [f0, f1, f2, f3, f4, f5, e0, e1, e2, e3, e4]
 repeat refine sg ?_
 refine z _ ?_
 clear z Z
 refine cT (by simp [f0, f1, f2, f3, f4, f5, e0, e1, e2, e3, e4]) ?_
 refine sr fun Z z => ?_
 simp [f0, f1, f2, f3, f4, f5, e0, e1, e2, e3, e4]
 refine z _ ?_
 clear z Z
 refine AT_ret ?_
 simp [Tryz.f46]
 first | (· unfold clsI; repeat (first | omega | split)) | decide
 have f0 : ¬ 97 ≤ n := by omega
 have f1 : n ≤ 122 := by omega
 have f2 : ¬ 65 ≤ n := by omega
 have f3 : n ≤ 90 := by omega
 have f4 : 48 ≤ n := by omega
 have f5 : n ≤ 57 := by omega
 have e0 : (n == 95) = false := by simp; omega
 have e1 : (n == 9) = false := by simp; omega
 have e2 : (n == 10) = false := by simp; omega
 have e3 : (n == 13) = false := by simp; omega
 have e4 : (n == 32) = false := by simp; omega
 refine sr fun Z z => ?_
 simp [f0, f1, f2, f3, f4, f5, e0, e1, e2, e3, e4]
 refine z _ ?_
 clear z Z
 refine AT_seq_k fun K3 hK3 => ?_
 refine sr fun Z z => ?_
 simp [f0, f1, f2, f3, f4, f5, e0, e1, e2, e3, e4]
 repeat refine sg ?_
 refine z _ ?_
 clear z Z
 refine cF (by simp [f0, f1, f2, f3, f4, f5, e0, e1, e2, e3, e4]) ?_
 refine AT_skip ?_
 try simp only [nrm, reduceIte, Nat.reduceEqDiff]
 refine hK3 _ ?_
 refine AT_seq_k fun K4 hK4 => ?_
 refine sr fun Z z => ?_
 simp [f0, f1, f2, f3, f4, f5, e0, e1, e2, e3, e4]
 repeat refine sg ?_
 refine z _ ?_
 clear z Z
 refine cT (by simp [f0, f1, f2, f3, f4, f5, e0, e1, e2, e3, e4]) ?_
 refine sr fun Z z => ?_
 simp [f0, f1, f2, f3, f4, f5, e0, e1, e2, e3, e4]
 refine z _ ?_
 clear z Z
 refine AT_ret ?_
 simp [Tryz.f46]
 first | (· unfold clsI; repeat (first | omega | split)) | decide
 subst hc
 refine sr fun Z z => ?_
 simp
 refine z _ ?_
 clear z Z
 refine AT_seq_k fun K5 hK5 => ?_
 refine sr fun Z z => ?_
 simp
 repeat refine sg ?_
 refine z _ ?_
 clear z Z
 refine cF (by simp) ?_
 refine AT_skip ?_
 try simp only [nrm, reduceIte, Nat.reduceEqDiff]
 refine hK5 _ ?_
 refine AT_seq_k fun K6 hK6 => ?_
 refine sr fun Z z => ?_
 simp
 repeat refine sg ?_
 refine z _ ?_
 clear z Z
 refine cF (by simp) ?_
 refine AT_skip ?_
 try simp only [nrm, reduceIte, Nat.reduceEqDiff]
 refine hK6 _ ?_
 refine AT_seq_k fun K7 hK7 => ?_
 refine sr fun Z z => ?_
 simp
 repeat refine sg ?_
 refine z _ ?_
 clear z Z
 refine cT (by simp) ?_
 refine sr fun Z z => ?_
 simp
 refine z _ ?_
 clear z Z
 refine AT_ret ?_
 simp [Tryz.f46]
 first | (· unfold clsI; repeat (first | omega | split)) | decide
 subst hc
 refine sr fun Z z => ?_
 simp
 refine z _ ?_
 clear z Z
 refine AT_seq_k fun K8 hK8 => ?_
 refine sr fun Z z => ?_
 simp
 repeat refine sg ?_
 refine z _ ?_
 clear z Z
 refine cF (by simp) ?_
 refine AT_skip ?_
 try simp only [nrm, reduceIte, Nat.reduceEqDiff]
 refine hK8 _ ?_
 refine AT_seq_k fun K9 hK9 => ?_
 refine sr fun Z z => ?_
 simp
 repeat refine sg ?_
 refine z _ ?_
 clear z Z
 refine cF (by simp) ?_
 refine AT_skip ?_
 try simp only [nrm, reduceIte, Nat.reduceEqDiff]
 refine hK9 _ ?_
 refine AT_seq_k fun K10 hK10 => ?_
 refine sr fun Z z => ?_
 simp
 repeat refine sg ?_
 refine z _ ?_
 clear z Z
 refine cF (by simp) ?_
 refine AT_skip ?_
 try simp only [nrm, reduceIte, Nat.reduceEqDiff]
 refine hK10 _ ?_
 refine AT_seq_k fun K11 hK11 => ?_
 refine sr fun Z z => ?_
 simp
 repeat refine sg ?_
 refine z _ ?_
 clear z Z
 refine cT (by simp) ?_
 refine sr fun Z z => ?_
 simp
 refine z _ ?_
 clear z Z
 refine AT_ret ?_
 simp [Tryz.f46]
 first | (· unfold clsI; repeat (first | omega | split)) | decide
 subst hc
 refine sr fun Z z => ?_
 simp
 refine z _ ?_
 clear z Z
 refine AT_seq_k fun K12 hK12 => ?_
 refine sr fun Z z => ?_
 simp
 repeat refine sg ?_
 refine z _ ?_
 clear z Z
 refine cF (by simp) ?_
 refine AT_skip ?_
 try simp only [nrm, reduceIte, Nat.reduceEqDiff]
 refine hK12 _ ?_
 refine AT_seq_k fun K13 hK13 => ?_
 refine sr fun Z z => ?_
 simp
 repeat refine sg ?_
 refine z _ ?_
 clear z Z
 refine cF (by simp) ?_
 refine AT_skip ?_
 try simp only [nrm, reduceIte, Nat.reduceEqDiff]
 refine hK13 _ ?_
 refine AT_seq_k fun K14 hK14 => ?_
 refine sr fun Z z => ?_
 simp
 repeat refine sg ?_
 refine z _ ?_
 clear z Z
 refine cF (by simp) ?_
 refine AT_skip ?_
 try simp only [nrm, reduceIte, Nat.reduceEqDiff]
 refine hK14 _ ?_
 refine AT_seq_k fun K15 hK15 => ?_
 refine sr fun Z z => ?_
 simp
 repeat refine sg ?_
 refine z _ ?_
 clear z Z
 refine cT (by simp) ?_
 refine sr fun Z z => ?_
 simp
 refine z _ ?_
 clear z Z
 refine AT_ret ?_
 simp [Tryz.f46]
 first | (· unfold clsI; repeat (first | omega | split)) | decide
 subst hc
 refine sr fun Z z => ?_
 simp
 refine z _ ?_
 clear z Z
 refine AT_seq_k fun K16 hK16 => ?_
 refine sr fun Z z => ?_
 simp
 repeat refine sg ?_
 refine z _ ?_
 clear z Z
 refine cF (by simp) ?_
 refine AT_skip ?_
 try simp only [nrm, reduceIte, Nat.reduceEqDiff]
 refine hK16 _ ?_
 refine AT_seq_k fun K17 hK17 => ?_
 refine sr fun Z z => ?_
 simp
 repeat refine sg ?_
 refine z _ ?_
 clear z Z
 refine cF (by simp) ?_
 refine AT_skip ?_
 try simp only [nrm, reduceIte, Nat.reduceEqDiff]
 refine hK17 _ ?_
 refine AT_seq_k fun K18 hK18 => ?_
 refine sr fun Z z => ?_
 simp
 repeat refine sg ?_
 refine z _ ?_
 clear z Z
 refine cF (by simp) ?_
 refine AT_skip ?_
 try simp only [nrm, reduceIte, Nat.reduceEqDiff]
 refine hK18 _ ?_
 refine AT_seq_k fun K19 hK19 => ?_
 refine sr fun Z z => ?_
 simp
 repeat refine sg ?_
 refine z _ ?_
 clear z Z
 refine cT (by simp) ?_
 refine sr fun Z z => ?_
 simp
 refine z _ ?_
 clear z Z
 refine AT_ret ?_
 simp [Tryz.f46]
 first | (· unfold clsI; repeat (first | omega | split)) | decide
 subst hc
 refine sr fun Z z => ?_
 simp
 refine z _ ?_
 clear z Z
 refine AT_seq_k fun K20 hK20 => ?_
 refine sr fun Z z => ?_
 simp
 repeat refine sg ?_
 refine z _ ?_
 clear z Z
 refine cF (by simp) ?_
 refine AT_skip ?_
 try simp only [nrm, reduceIte, Nat.reduceEqDiff]
 refine hK20 _ ?_
 refine AT_seq_k fun K21 hK21 => ?_
 refine sr fun Z z => ?_
 simp
 repeat refine sg ?_
 refine z _ ?_
 clear z Z
 refine cF (by simp) ?_
 refine AT_skip ?_
 try simp only [nrm, reduceIte, Nat.reduceEqDiff]
 refine hK21 _ ?_
 refine AT_seq_k fun K22 hK22 => ?_
 refine sr fun Z z => ?_
 simp
 repeat refine sg ?_
 refine z _ ?_
 clear z Z
 refine cF (by simp) ?_
 refine AT_skip ?_
 try simp only [nrm, reduceIte, Nat.reduceEqDiff]
 refine hK22 _ ?_
 refine AT_seq_k fun K23 hK23 => ?_
 refine sr fun Z z => ?_
 simp
 repeat refine sg ?_
 refine z _ ?_
 clear z Z
 refine cT (by simp) ?_
 refine sr fun Z z => ?_
 simp
 refine z _ ?_
 clear z Z
 refine AT_ret ?_
 simp [Tryz.f46]
 first | (· unfold clsI; repeat (first | omega | split)) | decide
 have f0 : 97 ≤ n := by omega
 have f1 : ¬ n ≤ 122 := by omega
 have f2 : 65 ≤ n := by omega
 have f3 : ¬ n ≤ 90 := by omega
 have f4 : 48 ≤ n := by omega
 have f5 : ¬ n ≤ 57 := by omega
 have e0 : (n == 95) = false := by simp; omega
 have e1 : (n == 9) = false := by simp; omega
 have e2 : (n == 10) = false := by simp; omega
 have e3 : (n == 13) = false := by simp; omega
 have e4 : (n == 32) = false := by simp; omega
 refine sr fun Z z => ?_
 simp [f0, f1, f2, f3, f4, f5, e0, e1, e2, e3, e4]
 refine z _ ?_
 clear z Z
 refine AT_seq_k fun K24 hK24 => ?_
 refine sr fun Z z => ?_
 simp [f0, f1, f2, f3, f4, f5, e0, e1, e2, e3, e4]
 repeat refine sg ?_
 refine z _ ?_
 clear z Z
 refine cF (by simp [f0, f1, f2, f3, f4, f5, e0, e1, e2, e3, e4]) ?_
 refine AT_skip ?_
 try simp only [nrm, reduceIte, Nat.reduceEqDiff]
 refine hK24 _ ?_
 refine AT_seq_k fun K25 hK25 => ?_
 refine sr fun Z z => ?_
 simp [f0, f1, f2, f3, f4, f5, e0, e1, e2, e3, e4]
 repeat refine sg ?_
 refine z _ ?_
 clear z Z
 refine cF (by simp [f0, f1, f2, f3, f4, f5, e0, e1, e2, e3, e4]) ?_
 refine AT_skip ?_
 try simp only [nrm, reduceIte, Nat.reduceEqDiff]
 refine hK25 _ ?_
 refine AT_seq_k fun K26 hK26 => ?_
 refine sr fun Z z => ?_
 simp [f0, f1, f2, f3, f4, f5, e0, e1, e2, e3, e4]
 repeat refine sg ?_
 refine z _ ?_
 clear z Z
 refine cF (by simp [f0, f1, f2, f3, f4, f5, e0, e1, e2, e3, e4]) ?_
 refine AT_skip ?_
 try simp only [nrm, reduceIte, Nat.reduceEqDiff]
 refine hK26 _ ?_
 refine AT_seq_k fun K27 hK27 => ?_
 refine sr fun Z z => ?_
 simp [f0, f1, f2, f3, f4, f5, e0, e1, e2, e3, e4]
 repeat refine sg ?_
 refine z _ ?_
 clear z Z
 refine cF (by simp [f0, f1, f2, f3, f4, f5, e0, e1, e2, e3, e4]) ?_
 refine AT_skip ?_
 try simp only [nrm, reduceIte, Nat.reduceEqDiff]
 refine hK27 _ ?_
 refine sr fun Z z => ?_
 simp [f0, f1, f2, f3, f4, f5, e0, e1, e2, e3, e4]
 refine z _ ?_
 clear z Z
 refine AT_ret ?_
 simp [Tryz.f46]
 first | (· unfold clsI; repeat (first | omega | split)) | decide
 have f0 : ¬ 97 ≤ n := by omega
 have f1 : n ≤ 122 := by omega
 have f2 : 65 ≤ n := by omega
 have f3 : ¬ n ≤ 90 := by omega
 have f4 : 48 ≤ n := by omega
 have f5 : ¬ n ≤ 57 := by omega
 have e0 : (n == 95) = false := by simp; omega
 have e1 : (n == 9) = false := by simp; omega
 have e2 : (n == 10) = false := by simp; omega
 have e3 : (n == 13) = false := by simp; omega
 have e4 : (n == 32) = false := by simp; omega
 refine sr fun Z z => ?_
 simp [f0, f1, f2, f3, f4, f5, e0, e1, e2, e3, e4]
 refine z _ ?_
 clear z Z
 refine AT_seq_k fun K28 hK28 => ?_
 refine sr fun Z z => ?_
 simp [f0, f1, f2, f3, f4, f5, e0, e1, e2, e3, e4]
 repeat refine sg ?_
 refine z _ ?_
 clear z Z
 refine cF (by simp [f0, f1, f2, f3, f4, f5, e0, e1, e2, e3, e4]) ?_
 refine AT_skip ?_
 try simp only [nrm, reduceIte, Nat.reduceEqDiff]
 refine hK28 _ ?_
 refine AT_seq_k fun K29 hK29 => ?_
 refine sr fun Z z => ?_
 simp [f0, f1, f2, f3, f4, f5, e0, e1, e2, e3, e4]
 repeat refine sg ?_
 refine z _ ?_
 clear z Z
 refine cF (by simp [f0, f1, f2, f3, f4, f5, e0, e1, e2, e3, e4]) ?_
 refine AT_skip ?_
 try simp only [nrm, reduceIte, Nat.reduceEqDiff]
 refine hK29 _ ?_
 refine AT_seq_k fun K30 hK30 => ?_
 refine sr fun Z z => ?_
 simp [f0, f1, f2, f3, f4, f5, e0, e1, e2, e3, e4]
 repeat refine sg ?_
 refine z _ ?_
 clear z Z
 refine cF (by simp [f0, f1, f2, f3, f4, f5, e0, e1, e2, e3, e4]) ?_
 refine AT_skip ?_
 try simp only [nrm, reduceIte, Nat.reduceEqDiff]
 refine hK30 _ ?_
 refine AT_seq_k fun K31 hK31 => ?_
 refine sr fun Z z => ?_
 simp [f0, f1, f2, f3, f4, f5, e0, e1, e2, e3, e4]
 repeat refine sg ?_
 refine z _ ?_
 clear z Z
 refine cF (by simp [f0, f1, f2, f3, f4, f5, e0, e1, e2, e3, e4]) ?_
 refine AT_skip ?_
 try simp only [nrm, reduceIte, Nat.reduceEqDiff]
 refine hK31 _ ?_
 refine sr fun Z z => ?_
 simp [f0, f1, f2, f3, f4, f5, e0, e1, e2, e3, e4]
 refine z _ ?_
 clear z Z
 refine AT_ret ?_
 simp [Tryz.f46]
 first | (· unfold clsI; repeat (first | omega | split)) | decide
 have f0 : ¬ 97 ≤ n := by omega
 have f1 : n ≤ 122 := by omega
 have f2 : ¬ 65 ≤ n := by omega
 have f3 : n ≤ 90 := by omega
 have f4 : 48 ≤ n := by omega
 have f5 : ¬ n ≤ 57 := by omega
 have e0 : (n == 95) = false := by simp; omega
 have e1 : (n == 9) = false := by simp; omega
 have e2 : (n == 10) = false := by simp; omega
 have e3 : (n == 13) = false := by simp; omega
 have e4 : (n == 32) = false := by simp; omega
 refine sr fun Z z => ?_
 simp [f0, f1, f2, f3, f4, f5, e0, e1, e2, e3, e4]
 refine z _ ?_
 clear z Z
 refine AT_seq_k fun K32 hK32 => ?_
 refine sr fun Z z => ?_
 simp [f0, f1, f2, f3, f4, f5, e0, e1, e2, e3, e4]
 repeat refine sg ?_
 refine z _ ?_
 clear z Z
 refine cF (by simp [f0, f1, f2, f3, f4, f5, e0, e1, e2, e3, e4]) ?_
 refine AT_skip ?_
 try simp only [nrm, reduceIte, Nat.reduceEqDiff]
 refine hK32 _ ?_
 refine AT_seq_k fun K33 hK33 => ?_
 refine sr fun Z z => ?_
 simp [f0, f1, f2, f3, f4, f5, e0, e1, e2, e3, e4]
 repeat refine sg ?_
 refine z _ ?_
 clear z Z
 refine cF (by simp [f0, f1, f2, f3, f4, f5, e0, e1, e2, e3, e4]) ?_
 refine AT_skip ?_
 try simp only [nrm, reduceIte, Nat.reduceEqDiff]
 refine hK33 _ ?_
 refine AT_seq_k fun K34 hK34 => ?_
 refine sr fun Z z => ?_
 simp [f0, f1, f2, f3, f4, f5, e0, e1, e2, e3, e4]
 repeat refine sg ?_
 refine z _ ?_
 clear z Z
 refine cF (by simp [f0, f1, f2, f3, f4, f5, e0, e1, e2, e3, e4]) ?_
 refine AT_skip ?_
 try simp only [nrm, reduceIte, Nat.reduceEqDiff]
 refine hK34 _ ?_
 refine AT_seq_k fun K35 hK35 => ?_
 refine sr fun Z z => ?_
 simp [f0, f1, f2, f3, f4, f5, e0, e1, e2, e3, e4]
 repeat refine sg ?_
 refine z _ ?_
 clear z Z
 refine cF (by simp [f0, f1, f2, f3, f4, f5, e0, e1, e2, e3, e4]) ?_
 refine AT_skip ?_
 try simp only [nrm, reduceIte, Nat.reduceEqDiff]
 refine hK35 _ ?_
 refine sr fun Z z => ?_
 simp [f0, f1, f2, f3, f4, f5, e0, e1, e2, e3, e4]
 refine z _ ?_
 clear z Z
 refine AT_ret ?_
 simp [Tryz.f46]
 first | (· unfold clsI; repeat (first | omega | split)) | decide
 have f0 : ¬ 97 ≤ n := by omega
 have f1 : n ≤ 122 := by omega
 have f2 : ¬ 65 ≤ n := by omega
 have f3 : n ≤ 90 := by omega
 have f4 : ¬ 48 ≤ n := by omega
 have f5 : n ≤ 57 := by omega
 have e0 : (n == 95) = false := by simp; omega
 have e1 : (n == 9) = false := by simp; omega
 have e2 : (n == 10) = false := by simp; omega
 have e3 : (n == 13) = false := by simp; omega
 have e4 : (n == 32) = false := by simp; omega
 refine sr fun Z z => ?_
 simp [f0, f1, f2, f3, f4, f5, e0, e1, e2, e3, e4]
 refine z _ ?_
 clear z Z
 refine AT_seq_k fun K36 hK36 => ?_
 refine sr fun Z z => ?_
 simp [f0, f1, f2, f3, f4, f5, e0, e1, e2, e3, e4]
 repeat refine sg ?_
 refine z _ ?_
 clear z Z
 refine cF (by simp [f0, f1, f2, f3, f4, f5, e0, e1, e2, e3, e4]) ?_
 refine AT_skip ?_
 try simp only [nrm, reduceIte, Nat.reduceEqDiff]
 refine hK36 _ ?_
 refine AT_seq_k fun K37 hK37 => ?_
 refine sr fun Z z => ?_
 simp [f0, f1, f2, f3, f4, f5, e0, e1, e2, e3, e4]
 repeat refine sg ?_
 refine z _ ?_
 clear z Z
 refine cF (by simp [f0, f1, f2, f3, f4, f5, e0, e1, e2, e3, e4]) ?_
 refine AT_skip ?_
 try simp only [nrm, reduceIte, Nat.reduceEqDiff]
 refine hK37 _ ?_
 refine AT_seq_k fun K38 hK38 => ?_
 refine sr fun Z z => ?_
 simp [f0, f1, f2, f3, f4, f5, e0, e1, e2, e3, e4]
 repeat refine sg ?_
 refine z _ ?_
 clear z Z
 refine cF (by simp [f0, f1, f2, f3, f4, f5, e0, e1, e2, e3, e4]) ?_
 refine AT_skip ?_
 try simp only [nrm, reduceIte, Nat.reduceEqDiff]
 refine hK38 _ ?_
 refine AT_seq_k fun K39 hK39 => ?_
 refine sr fun Z z => ?_
 simp [f0, f1, f2, f3, f4, f5, e0, e1, e2, e3, e4]
 repeat refine sg ?_
 refine z _ ?_
 clear z Z
 refine cF (by simp [f0, f1, f2, f3, f4, f5, e0, e1, e2, e3, e4]) ?_
 refine AT_skip ?_
 try simp only [nrm, reduceIte, Nat.reduceEqDiff]
 refine hK39 _ ?_
 refine sr fun Z z => ?_
 simp [f0, f1, f2, f3, f4, f5, e0, e1, e2, e3, e4]
 refine z _ ?_
 clear z Z
 refine AT_ret ?_
 simp [Tryz.f46]
 first | (· unfold clsI; repeat (first | omega | split)) | decide

end Go.Proofs.YtocmdbojefgpbaaGreatDoor
end

section
/- Contracts. -/
set_option linter.all false
set_option maxHeartbeats 1000000
set_option maxRecDepth 10000
namespace Go.Proofs.YtocmdbojefgpbaaGreatDoor
open Go Go.Pv
variable (g : Nat → Option (List AV)) (rnd : Bool)

theorem c_name_Is_1 (n : Int) (h0 : 0 ≤ n) : Valid Tryz.prog (G0 g rnd) 76 [.int .i32 n] (.bool (wrR n)) := by

 refine valid_of [] Tryz.func76 rfl (by kernel_rfl) ?_
 by_cases h127 : 127 < n
 refine sr fun Z z => ?_
 simp [Tryz.f76, h127]
 refine z _ ?_
 clear z Z
 refine sr fun Z z => ?_
 simp [h127]
 repeat refine sg ?_
 try (
  refine RVn_call (c_name_Class g rnd n) ?_
  simp [h127]
  repeat refine sg ?_)
 try (
  refine RVn_call (c_name_Class g rnd n) ?_
  simp [h127]
  repeat refine sg ?_)
 refine z _ ?_
 clear z Z
 refine AT_ret ?_
 simp [Tryz.f76]
 simp [wrR, *]
 have hw : IntKind.u8.wrap n = n := by rw [IntKind.wrap_u8]; omega
 by_cases h1 : clsI n < 1
 refine sr fun Z z => ?_
 simp [h127, hw, h1]
 refine z _ ?_
 clear z Z
 refine sr fun Z z => ?_
 simp [h127, hw, h1]
 repeat refine sg ?_
 try (
  refine RVn_call (c_name_Class g rnd n) ?_
  simp [h127, hw, h1]
  repeat refine sg ?_)
 try (
  refine RVn_call (c_name_Class g rnd n) ?_
  simp [h127, hw, h1]
  repeat refine sg ?_)
 refine z _ ?_
 clear z Z
 refine AT_ret ?_
 simp [Tryz.f76]
 simp [wrR, *]
 refine sr fun Z z => ?_
 simp [h127, hw, h1]
 refine z _ ?_
 clear z Z
 refine sr fun Z z => ?_
 simp [h127, hw, h1]
 repeat refine sg ?_
 try (
  refine RVn_call (c_name_Class g rnd n) ?_
  simp [h127, hw, h1]
  repeat refine sg ?_)
 try (
  refine RVn_call (c_name_Class g rnd n) ?_
  simp [h127, hw, h1]
  repeat refine sg ?_)
 refine z _ ?_
 clear z Z
 refine AT_ret ?_
 simp [Tryz.f76]
 simp [wrR, *]

theorem c_strings_indexFunc (s : Str) (hs : s.length ≤ 1099511627776) : Valid Tryz.prog (G0 g rnd) 130 [.str s, .func 76 [], .bool true] (.int .i64 (badI s 0)) := by

 refine valid_of [] Tryz.func130 rfl (by kernel_rfl) ?_
 refine sr fun Z z => ?_
 simp [Tryz.f130]
 refine z _ ?_
 clear z Z
 refine AT_seq_k fun K1 hK1 => ?_
 refine sr fun Z z => ?_
 simp
 repeat refine sg ?_
 refine z _ ?_
 clear z Z
 refine AT_block ?_
 refine AT_loop_q [1,2,10] [] (fun j st => ∃ k, k ≤ s.length ∧ badI s 0 = badI (s.drop k) k ∧ j = s.length - k ∧ st = { n := 21, tm := [(1, .v (.func 76 []) none), (2, .v (.bool true) none), (10, .it (.str s k))], bx := [], tb := [], sh := [], hint := [] }) (s.length) (by first | rfl | simp) ?_ ?_
 exact ⟨0, by simp⟩
 rintro j st ⟨k, hk, hc, rfl, rfl⟩ K2 hK2
 by_cases hk2 : k < s.length
 have hbd := badI_drop s k k hk2
 by_cases hgb : goodB s[k] = true
 have hda := dec_ascii s k hk2 (good_ascii hgb)
 have hwr := good_wr hgb
 refine sr fun Z z => ?_
 simp [hk2, hda, hwr]
 repeat refine sg ?_
 refine z _ ?_
 clear z Z
 refine AT_seq_k fun K3 hK3 => ?_
 refine cT (by simp [hk2, hda, hwr]) ?_
 refine AT_skip ?_
 try simp only [nrm, reduceIte, Nat.reduceEqDiff]
 refine hK3 _ ?_
 refine AT_block ?_
 refine sr fun Z z => ?_
 simp [hk2, hda, hwr]
 repeat refine sg ?_
 refine z _ ?_
 clear z Z
 refine sr fun Z z => ?_
 simp [hk2, hda, hwr]
 repeat refine sg ?_
 refine RVn_call (c_name_Is_1 g rnd _ (by omega)) ?_
 simp [hk2, hda, hwr]
 repeat refine sg ?_
 refine z _ ?_
 clear z Z
 refine cF (by simp [hk2, hda, hwr]) ?_
 refine AT_skip ?_
 try simp only [nrm, reduceIte, Nat.reduceEqDiff]
 refine hK2 _ (by first | rfl | simp) (s.length - (k+1)) (by omega) ?_
 refine ⟨k+1, by omega, ?_, by omega, by simp⟩
 rw [hc, hbd, if_pos hgb]
 obtain ⟨rr, qq, hda, hwr⟩ := dec_bad s k hk2 (by simpa using hgb)
 refine sr fun Z z => ?_
 simp [hk2, hda, hwr]
 repeat refine sg ?_
 refine z _ ?_
 clear z Z
 refine AT_seq_k fun K4 hK4 => ?_
 refine cT (by simp [hk2, hda, hwr]) ?_
 refine AT_skip ?_
 try simp only [nrm, reduceIte, Nat.reduceEqDiff]
 refine hK4 _ ?_
 refine AT_block ?_
 refine sr fun Z z => ?_
 simp [hk2, hda, hwr]
 repeat refine sg ?_
 refine z _ ?_
 clear z Z
 refine sr fun Z z => ?_
 simp [hk2, hda, hwr]
 repeat refine sg ?_
 refine RVn_call (c_name_Is_1 g rnd _ (by omega)) ?_
 simp [hk2, hda, hwr]
 repeat refine sg ?_
 refine z _ ?_
 clear z Z
 refine cT (by simp [hk2, hda, hwr]) ?_
 refine sr fun Z z => ?_
 simp [hk2, hda, hwr]
 refine z _ ?_
 clear z Z
 refine AT_ret ?_
 simp [Tryz.f130]
 first | (rw [hc, hbd, if_neg hgb]) | (rw [hc, List.drop_eq_nil_of_le (by omega)]; rfl)
 refine sr fun Z z => ?_
 simp [hk2]
 repeat refine sg ?_
 refine z _ ?_
 clear z Z
 refine AT_seq_k fun K5 hK5 => ?_
 refine cF (by simp [hk2]) ?_
 refine AT_exit ?_
 try simp only [nrm, reduceIte, Nat.reduceEqDiff]
 refine hK1 _ ?_
 refine sr fun Z z => ?_
 simp [hk2]
 refine z _ ?_
 clear z Z
 refine AT_ret ?_
 simp [Tryz.f130]
 first | (rw [hc, hbd, if_neg hgb]) | (rw [hc, List.drop_eq_nil_of_le (by omega)]; rfl)

theorem c_strings_IndexFunc (s : Str) (hs : s.length ≤ 1099511627776) : Valid Tryz.prog (G0 g rnd) 110 [.str s, .func 76 []] (.int .i64 (badI s 0)) := by

 refine valid_of [] Tryz.func110 rfl (by kernel_rfl) ?_
 refine sr fun Z z => ?_
 simp [Tryz.f110]
 refine z _ ?_
 clear z Z
 refine sr fun Z z => ?_
 simp
 repeat refine sg ?_
 refine RVn_call (c_strings_indexFunc g rnd s hs) ?_
 simp
 repeat refine sg ?_
 refine z _ ?_
 clear z Z
 refine AT_ret ?_
 simp [Tryz.f110]

theorem c_strings_ContainsFunc (s : Str) (hs : s.length ≤ 1099511627776) : Valid Tryz.prog (G0 g rnd) 78 [.str s, .func 76 []] (.bool (!s.all goodB)) := by

 refine valid_of [] Tryz.func78 rfl (by kernel_rfl) ?_
 refine sr fun Z z => ?_
 simp [Tryz.f78]
 refine z _ ?_
 clear z Z
 refine sr fun Z z => ?_
 simp
 repeat refine sg ?_
 refine RVn_call (c_strings_IndexFunc g rnd s hs) ?_
 simp
 repeat refine sg ?_
 refine z _ ?_
 clear z Z
 refine AT_ret ?_
 simp [Tryz.f78]
 exact badI_neg s 0

theorem c_slices_Contains_string_string (l : List Str) (x : Str) (hl : l.length ≤ 140737488355328) : Valid Tryz.prog (G0 g rnd) 111 [.slice (l.map encS), .str x] (.bool (l.contains x)) := by

 refine valid_of [] Tryz.func111 rfl (by kernel_rfl) ?_
 refine sr fun Z z => ?_
 simp [Tryz.f111]
 refine z _ ?_
 clear z Z
 refine sr fun Z z => ?_
 simp
 repeat refine sg ?_
 refine RVn_call (c_slices_Index_string_string g rnd l x hl) ?_
 simp
 repeat refine sg ?_
 refine z _ ?_
 clear z Z
 refine AT_ret ?_
 simp [Tryz.f111]
 exact idxF_mem l x 0

theorem c_name_Reserved (s : Str) (hres : g 0 = some reservedA) : Valid Tryz.prog (G0 g rnd) 79 [.str s] (.bool (isRes s)) := by

 refine valid_of [] Tryz.func79 rfl (by kernel_rfl) ?_
 refine sr fun Z z => ?_
 simp [hres, Tryz.f79]
 refine z _ ?_
 clear z Z
 refine sr fun Z z => ?_
 simp [hres]
 repeat refine sg ?_
 refine RVn_call (c_slices_Contains_string_string g rnd reservedL s (by decide)) ?_
 simp [hres]
 repeat refine sg ?_
 refine z _ ?_
 clear z Z
 refine AT_ret ?_
 simp [hres, Tryz.f79]
 simp [isRes]

theorem c_name_Is (s : Str) (hs : s.length ≤ 1099511627776) (hres : g 0 = some reservedA) : Valid Tryz.prog (G0 g rnd) 59 [.str s] (.bool (isName s)) := by

 refine valid_of [] Tryz.func59 rfl (by kernel_rfl) ?_
 refine sr fun Z z => ?_
 simp [Tryz.f59]
 refine z _ ?_
 clear z Z
 refine sr fun Z z => ?_
 simp
 refine z _ ?_
 clear z Z
 rcases s with _ | ⟨b, r⟩
 refine sr fun Z z => ?_
 simp
 repeat refine sg ?_
 try (
  refine RVn_call (c_name_Class g rnd _) ?_
  simp
  repeat refine sg ?_)
 try (
  refine RVn_call (c_strings_ContainsFunc g rnd _ hs) ?_
  simp
  repeat refine sg ?_)
 try (
  refine RVn_call (c_name_Reserved g rnd _ hres) ?_
  simp
  repeat refine sg ?_)
 refine z _ ?_
 clear z Z
 refine AT_ret ?_
 simp [Tryz.f59]
 first | rfl | (· simp [isName, hc, hga]) | (· simp only [isName, List.all_cons, hga]; simp [hc]) | (· simp [isName, hcb])
 by_cases hc : clsI (b.toNat : Int) = 1
 cases hga : (goodB b && r.all goodB)
 refine sr fun Z z => ?_
 simp [hc, hga]
 repeat refine sg ?_
 try (
  refine RVn_call (c_name_Class g rnd _) ?_
  simp [hc, hga]
  repeat refine sg ?_)
 try (
  refine RVn_call (c_strings_ContainsFunc g rnd _ hs) ?_
  simp [hc, hga]
  repeat refine sg ?_)
 try (
  refine RVn_call (c_name_Reserved g rnd _ hres) ?_
  simp [hc, hga]
  repeat refine sg ?_)
 refine z _ ?_
 clear z Z
 refine AT_ret ?_
 simp [Tryz.f59]
 first | rfl | (· simp [isName, hc, hga]) | (· simp only [isName, List.all_cons, hga]; simp [hc]) | (· simp [isName, hcb])
 refine sr fun Z z => ?_
 simp [hc, hga]
 repeat refine sg ?_
 try (
  refine RVn_call (c_name_Class g rnd _) ?_
  simp [hc, hga]
  repeat refine sg ?_)
 try (
  refine RVn_call (c_strings_ContainsFunc g rnd _ hs) ?_
  simp [hc, hga]
  repeat refine sg ?_)
 try (
  refine RVn_call (c_name_Reserved g rnd _ hres) ?_
  simp [hc, hga]
  repeat refine sg ?_)
 refine z _ ?_
 clear z Z
 refine AT_ret ?_
 simp [Tryz.f59]
 first | rfl | (· simp [isName, hc, hga]) | (· simp only [isName, List.all_cons, hga]; simp [hc]) | (· simp [isName, hcb])
 have hcb : (clsI (b.toNat : Int) == 1) = false := by simpa using hc
 refine sr fun Z z => ?_
 simp [hcb]
 repeat refine sg ?_
 try (
  refine RVn_call (c_name_Class g rnd _) ?_
  simp [hcb]
  repeat refine sg ?_)
 try (
  refine RVn_call (c_strings_ContainsFunc g rnd _ hs) ?_
  simp [hcb]
  repeat refine sg ?_)
 try (
  refine RVn_call (c_name_Reserved g rnd _ hres) ?_
  simp [hcb]
  repeat refine sg ?_)
 refine z _ ?_
 clear z Z
 refine AT_ret ?_
 simp [Tryz.f59]
 first | rfl | (· simp [isName, hc, hga]) | (· simp only [isName, List.all_cons, hga]; simp [hc]) | (· simp [isName, hcb])

theorem c_ref01x_Reserved (s : Str) : Valid Tryz.prog (G0 g rnd) 47 [.str s] (.bool (isRes s)) := by

 refine valid_of [] Tryz.func47 rfl (by kernel_rfl) ?_
 by_cases h1 : s ∈ reservedL
 have hr : isRes s = true := by simp [isRes, h1]
 simp only [reservedL, List.mem_cons, List.not_mem_nil, or_false] at h1
 rcases h1 with rfl | rfl | rfl | rfl | rfl | rfl | rfl
 refine sr fun Z z => ?_
 simp [Tryz.f47]
 refine z _ ?_
 clear z Z
 refine AT_seq_k fun K1 hK1 => ?_
 refine sr fun Z z => ?_
 simp
 repeat refine sg ?_
 refine z _ ?_
 clear z Z
 refine cT (by simp) ?_
 refine sr fun Z z => ?_
 simp
 refine z _ ?_
 clear z Z
 refine AT_ret ?_
 simp [Tryz.f47]
 first | exact hr.symm | (· simp [hr]) | (· rw [hr]; simp)
 refine sr fun Z z => ?_
 simp
 refine z _ ?_
 clear z Z
 refine AT_seq_k fun K2 hK2 => ?_
 refine sr fun Z z => ?_
 simp
 repeat refine sg ?_
 refine z _ ?_
 clear z Z
 refine cT (by simp) ?_
 refine sr fun Z z => ?_
 simp
 refine z _ ?_
 clear z Z
 refine AT_ret ?_
 simp [Tryz.f47]
 first | exact hr.symm | (· simp [hr]) | (· rw [hr]; simp)
 refine sr fun Z z => ?_
 simp
 refine z _ ?_
 clear z Z
 refine AT_seq_k fun K3 hK3 => ?_
 refine sr fun Z z => ?_
 simp
 repeat refine sg ?_
 refine z _ ?_
 clear z Z
 refine cT (by simp) ?_
 refine sr fun Z z => ?_
 simp
 refine z _ ?_
 clear z Z
 refine AT_ret ?_
 simp [Tryz.f47]
 first | exact hr.symm | (· simp [hr]) | (· rw [hr]; simp)
 refine sr fun Z z => ?_
 simp
 refine z _ ?_
 clear z Z
 refine AT_seq_k fun K4 hK4 => ?_
 refine sr fun Z z => ?_
 simp
 repeat refine sg ?_
 refine z _ ?_
 clear z Z
 refine cT (by simp) ?_
 refine sr fun Z z => ?_
 simp
 refine z _ ?_
 clear z Z
 refine AT_ret ?_
 simp [Tryz.f47]
 first | exact hr.symm | (· simp [hr]) | (· rw [hr]; simp)
 refine sr fun Z z => ?_
 simp
 refine z _ ?_
 clear z Z
 refine AT_seq_k fun K5 hK5 => ?_
 refine sr fun Z z => ?_
 simp
 repeat refine sg ?_
 refine z _ ?_
 clear z Z
 refine cF (by simp) ?_
 refine AT_skip ?_
 try simp only [nrm, reduceIte, Nat.reduceEqDiff]
 refine hK5 _ ?_
 refine sr fun Z z => ?_
 simp
 repeat refine sg ?_
 refine z _ ?_
 clear z Z
 refine AT_ret ?_
 simp [Tryz.f47]
 first | exact hr.symm | (· simp [hr]) | (· rw [hr]; simp)
 refine sr fun Z z => ?_
 simp
 refine z _ ?_
 clear z Z
 refine AT_seq_k fun K6 hK6 => ?_
 refine sr fun Z z => ?_
 simp
 repeat refine sg ?_
 refine z _ ?_
 clear z Z
 refine cF (by simp) ?_
 refine AT_skip ?_
 try simp only [nrm, reduceIte, Nat.reduceEqDiff]
 refine hK6 _ ?_
 refine sr fun Z z => ?_
 simp
 repeat refine sg ?_
 refine z _ ?_
 clear z Z
 refine AT_ret ?_
 simp [Tryz.f47]
 first | exact hr.symm | (· simp [hr]) | (· rw [hr]; simp)
 refine sr fun Z z => ?_
 simp
 refine z _ ?_
 clear z Z
 refine AT_seq_k fun K7 hK7 => ?_
 refine sr fun Z z => ?_
 simp
 repeat refine sg ?_
 refine z _ ?_
 clear z Z
 refine cF (by simp) ?_
 refine AT_skip ?_
 try simp only [nrm, reduceIte, Nat.reduceEqDiff]
 refine hK7 _ ?_
 refine sr fun Z z => ?_
 simp
 repeat refine sg ?_
 refine z _ ?_
 clear z Z
 refine AT_ret ?_
 simp [Tryz.f47]
 first | exact hr.symm | (· simp [hr]) | (· rw [hr]; simp)
 have hr : isRes s = false := by simp [isRes, h1]
 simp only [reservedL, List.mem_cons, List.not_mem_nil, or_false, not_or] at h1
 obtain ⟨q1, q2, q3, q4, q5, q6, q7⟩ := h1
 have e1 : (s == [112, 97, 99, 107, 97, 103, 101]) = false := by simpa using q1
 have e2 : (s == [109, 97, 105, 110]) = false := by simpa using q2
 have e3 : (s == [116, 121, 112, 101]) = false := by simpa using q3
 have e4 : (s == [115, 116, 114, 117, 99, 116]) = false := by simpa using q4
 have e5 : (s == [105, 110, 116, 101, 114, 102, 97, 99, 101]) = false := by simpa using q5
 have e6 : (s == [102, 117, 110, 99]) = false := by simpa using q6
 have e7 : (s == [114, 101, 116, 117, 114, 110]) = false := by simpa using q7
 refine sr fun Z z => ?_
 simp [e1, e2, e3, e4, e5, e6, e7]
 refine z _ ?_
 clear z Z
 refine AT_seq_k fun K8 hK8 => ?_
 refine sr fun Z z => ?_
 simp [e1, e2, e3, e4, e5, e6, e7]
 repeat refine sg ?_
 refine z _ ?_
 clear z Z
 refine cF (by simp [e1, e2, e3, e4, e5, e6, e7]) ?_
 refine AT_skip ?_
 try simp only [nrm, reduceIte, Nat.reduceEqDiff]
 refine hK8 _ ?_
 refine sr fun Z z => ?_
 simp [e1, e2, e3, e4, e5, e6, e7]
 repeat refine sg ?_
 refine z _ ?_
 clear z Z
 refine AT_ret ?_
 simp [Tryz.f47]
 first | exact hr.symm | (· simp [hr]) | (· rw [hr]; simp)

theorem c_ref01x_Is (s : Str) (hs : s.length ≤ 140737488355328) : Valid Tryz.prog (G0 g rnd) 27 [.str s] (.bool (isName s)) := by

 refine valid_of [] Tryz.func27 rfl (by kernel_rfl) ?_
 refine sr fun Z z => ?_
 simp [Tryz.f27]
 refine z _ ?_
 clear z Z
 refine AT_seq_k fun K1 hK1 => ?_
 rcases Nat.eq_zero_or_pos s.length with hp | hp
 have hlb : ((s.length : Int) == 0) = true := by simpa using hp
 refine sr fun Z z => ?_
 simp [hlb]
 repeat (refine ⟨by first | omega | exact List.ne_nil_of_length_pos hp | (simp at *; omega), ?_⟩)
 try (
  refine RVn_call (c_ref01x_Class g rnd _) ?_
  simp [hlb]
  repeat (refine ⟨by first | omega | exact List.ne_nil_of_length_pos hp | (simp at *; omega), ?_⟩))
 refine z _ ?_
 clear z Z
 refine cT (by simp [hlb]) ?_
 refine sr fun Z z => ?_
 simp [hlb]
 refine z _ ?_
 clear z Z
 refine AT_ret ?_
 simp [Tryz.f27]
 first
 | (have : s = [] := List.eq_nil_of_length_eq_zero hp
    subst this; rfl)
 | exact isName_first hp hc
 | exact isName_bad (by rw [hbi, hbd, if_neg (by simp [hgb])]; omega)
 | exact (isName_good hp hc (by rw [hbi, List.drop_eq_nil_of_le (by omega)]; rfl)).symm
 | (have := isName_good hp hc (by rw [hbi, List.drop_eq_nil_of_le (by omega)]; rfl); rw [this]; simp)
 have hlb : ((s.length : Int) == 0) = false := beq_eq_false_iff_ne.2 (by omega)
 by_cases hc : clsI (s[0].toNat : Int) = 1
 refine sr fun Z z => ?_
 simp [hlb, hp, hc]
 repeat (refine ⟨by first | omega | exact List.ne_nil_of_length_pos hp | (simp at *; omega), ?_⟩)
 try (
  refine RVn_call (c_ref01x_Class g rnd _) ?_
  simp [hlb, hp, hc]
  repeat (refine ⟨by first | omega | exact List.ne_nil_of_length_pos hp | (simp at *; omega), ?_⟩))
 refine z _ ?_
 clear z Z
 refine cF (by simp [hlb, hp, hc]) ?_
 refine AT_skip ?_
 try simp only [nrm, reduceIte, Nat.reduceEqDiff]
 refine hK1 _ ?_
 refine AT_seq_k fun K2 hK2 => ?_
 refine sr fun Z z => ?_
 simp [hlb, hp, hc]
 refine z _ ?_
 clear z Z
 refine AT_block ?_
 refine AT_loop_q [0,3] [] (fun j st => ∃ k, k ≤ s.length ∧ badI s 0 = badI (s.drop k) k ∧ j = s.length - k ∧ st = { n := 33, tm := [(0, .v (.str s) none), (3, .v (.int .i64 k) none)], bx := [], tb := [], sh := [], hint := [] }) (s.length) (by first | rfl | simp) ?_ ?_
 exact ⟨0, by simp⟩
 rintro j st ⟨k, hk, hbi, rfl, rfl⟩ K3 hK3
 refine AT_seq_k fun K4 hK4 => ?_
 refine sr fun Z z => ?_
 simp [hlb, hp, hc]
 repeat (refine ⟨by first | omega | exact List.ne_nil_of_length_pos hp | (simp at *; omega), ?_⟩)
 refine z _ ?_
 clear z Z
 refine AT_cond (g := none) rfl (fun hb17 => ?_) (fun hb17 => ?_)
 try simp [hlb, hp, hc] at hb17
 refine AT_skip ?_
 try simp only [nrm, reduceIte, Nat.reduceEqDiff]
 refine hK4 _ ?_
 refine AT_seq_k fun K5 hK5 => ?_
 refine AT_block ?_
 refine sr fun Z z => ?_
 have hk17 : k < s.length := by omega
 have hbd := badI_drop s k k hk17
 simp [hlb, hp, hc, hb17]
 repeat (refine ⟨by first | omega | exact List.ne_nil_of_length_pos hp | (simp at *; omega), ?_⟩)
 refine RVn_call (c_ref01x_Class g rnd _) ?_
 simp [hlb, hp, hc, hb17]
 repeat (refine ⟨by first | omega | exact List.ne_nil_of_length_pos hp | (simp at *; omega), ?_⟩)
 refine z _ ?_
 clear z Z
 cases hgb : goodB (s[k])
 have hgc := hgb
 simp only [goodB, Bool.and_eq_false_iff, decide_eq_false_iff_not] at hgc
 by_cases h0 : clsI (s[k].toNat : Int) = 0
 have h0b : (clsI (s[k].toNat : Int) == 0) = true := by simpa using h0
 refine sr fun Z z => ?_
 simp [hlb, hp, hc, hb17, h0b]
 repeat (refine ⟨by first | omega | exact List.ne_nil_of_length_pos hp | (simp at *; omega), ?_⟩)
 refine z _ ?_
 clear z Z
 refine cT (by simp [hlb, hp, hc, hb17, h0b]) ?_
 refine sr fun Z z => ?_
 simp [hlb, hp, hc, hb17, h0b]
 refine z _ ?_
 clear z Z
 refine AT_ret ?_
 simp [Tryz.f27]
 first
 | (have : s = [] := List.eq_nil_of_length_eq_zero hp
    subst this; rfl)
 | exact isName_first hp hc
 | exact isName_bad (by rw [hbi, hbd, if_neg (by simp [hgb])]; omega)
 | exact (isName_good hp hc (by rw [hbi, List.drop_eq_nil_of_le (by omega)]; rfl)).symm
 | (have := isName_good hp hc (by rw [hbi, List.drop_eq_nil_of_le (by omega)]; rfl); rw [this]; simp)
 have h0b : (clsI (s[k].toNat : Int) == 0) = false := by simpa using h0
 have h4b : (clsI (s[k].toNat : Int) == 4) = true := by have := clsI_range (s[k].toNat : Int); simp; omega
 refine sr fun Z z => ?_
 simp [hlb, hp, hc, hb17, h0b, h4b]
 repeat (refine ⟨by first | omega | exact List.ne_nil_of_length_pos hp | (simp at *; omega), ?_⟩)
 refine z _ ?_
 clear z Z
 refine cT (by simp [hlb, hp, hc, hb17, h0b, h4b]) ?_
 refine sr fun Z z => ?_
 simp [hlb, hp, hc, hb17, h0b, h4b]
 refine z _ ?_
 clear z Z
 refine AT_ret ?_
 simp [Tryz.f27]
 first
 | (have : s = [] := List.eq_nil_of_length_eq_zero hp
    subst this; rfl)
 | exact isName_first hp hc
 | exact isName_bad (by rw [hbi, hbd, if_neg (by simp [hgb])]; omega)
 | exact (isName_good hp hc (by rw [hbi, List.drop_eq_nil_of_le (by omega)]; rfl)).symm
 | (have := isName_good hp hc (by rw [hbi, List.drop_eq_nil_of_le (by omega)]; rfl); rw [this]; simp)
 have hgc := hgb
 simp only [goodB, Bool.and_eq_true, decide_eq_true_eq] at hgc
 have h0b : (clsI (s[k].toNat : Int) == 0) = false := by simp; omega
 have h4b : (clsI (s[k].toNat : Int) == 4) = false := by simp; omega
 refine sr fun Z z => ?_
 simp [hlb, hp, hc, hb17, h0b, h4b]
 repeat (refine ⟨by first | omega | exact List.ne_nil_of_length_pos hp | (simp at *; omega), ?_⟩)
 refine z _ ?_
 clear z Z
 refine cF (by simp [hlb, hp, hc, hb17, h0b, h4b]) ?_
 refine AT_skip ?_
 try simp only [nrm, reduceIte, Nat.reduceEqDiff]
 refine hK5 _ ?_
 refine AT_region_q fun Z z => ?_
 simp [hlb, hp, hc, hb17, h0b, h4b]
 repeat (refine ⟨by first | omega | exact List.ne_nil_of_length_pos hp | (simp at *; omega), ?_⟩)
 refine z _ ?_
 clear z Z
 try simp only [nrm, reduceIte, Nat.reduceEqDiff]
 refine hK3 _ (by first | rfl | simp) (s.length - (k+1)) (by omega) ?_
 refine ⟨k+1, by omega, ?_, by omega, by simp⟩
 rw [hbi, hbd, if_pos hgb]
 try simp [hlb, hp, hc] at hb17
 refine AT_exit ?_
 try simp only [nrm, reduceIte, Nat.reduceEqDiff]
 refine hK2 _ ?_
 refine sr fun Z z => ?_
 simp [hlb, hp, hc, hb17]
 repeat (refine ⟨by first | omega | exact List.ne_nil_of_length_pos hp | (simp at *; omega), ?_⟩)
 refine RVn_call (c_ref01x_Reserved g rnd _) ?_
 simp [hlb, hp, hc, hb17]
 repeat (refine ⟨by first | omega | exact List.ne_nil_of_length_pos hp | (simp at *; omega), ?_⟩)
 refine z _ ?_
 clear z Z
 refine AT_ret ?_
 simp [Tryz.f27]
 first
 | (have : s = [] := List.eq_nil_of_length_eq_zero hp
    subst this; rfl)
 | exact isName_first hp hc
 | exact isName_bad (by rw [hbi, hbd, if_neg (by simp [hgb])]; omega)
 | exact (isName_good hp hc (by rw [hbi, List.drop_eq_nil_of_le (by omega)]; rfl)).symm
 | (have := isName_good hp hc (by rw [hbi, List.drop_eq_nil_of_le (by omega)]; rfl); rw [this]; simp)
 have hcb : (clsI (s[0].toNat : Int) != 1) = true := by simpa using hc
 refine sr fun Z z => ?_
 simp [hlb, hp, hcb]
 repeat (refine ⟨by first | omega | exact List.ne_nil_of_length_pos hp | (simp at *; omega), ?_⟩)
 try (
  refine RVn_call (c_ref01x_Class g rnd _) ?_
  simp [hlb, hp, hcb]
  repeat (refine ⟨by first | omega | exact List.ne_nil_of_length_pos hp | (simp at *; omega), ?_⟩))
 refine z _ ?_
 clear z Z
 refine cT (by simp [hlb, hp, hcb]) ?_
 refine sr fun Z z => ?_
 simp [hlb, hp, hcb]
 refine z _ ?_
 clear z Z
 refine AT_ret ?_
 simp [Tryz.f27]
 first
 | (have : s = [] := List.eq_nil_of_length_eq_zero hp
    subst this; rfl)
 | exact isName_first hp hc
 | exact isName_bad (by rw [hbi, hbd, if_neg (by simp [hgb])]; omega)
 | exact (isName_good hp hc (by rw [hbi, List.drop_eq_nil_of_le (by omega)]; rfl)).symm
 | (have := isName_good hp hc (by rw [hbi, List.drop_eq_nil_of_le (by omega)]; rfl); rw [this]; simp)

end Go.Proofs.YtocmdbojefgpbaaGreatDoor
end

section
/- Contracts. -/
set_option linter.all false
set_option maxHeartbeats 1000000
set_option maxRecDepth 10000
namespace Go.Proofs.YtocmdbojefgpbaaGreatDoor
open Go Go.Pv
variable (g : Nat → Option (List AV)) (rnd : Bool)

theorem below_grown (w : World) (k : Nat) (os : Array Obj) : RowKit.Below w.heap.size w (Sort.grow (w.drewN k) os) :=
  ⟨rfl, rfl, rfl, by show w.heap.size ≤ (w.heap ++ os).size; rw [Array.size_append]; omega, fun j hj => by show (w.heap ++ os)[j]? = w.heap[j]?; rw [Array.getElem?_append_left hj]⟩

theorem c_strconv_Itoa (n : Int) (h0 : -9223372036854775808 ≤ n) (h1 : n ≤ 9223372036854775807) (htab : g 3 = some pow10A) : Valid Tryz.prog (G0 g rnd) 32 [.int .i64 n] (.str (Lib.itoa n)) := by
  refine valid_callsG (by kernel_rfl) fun lim w cargs hgl hargs => ?_
  obtain ⟨v, rfl⟩ : ∃ v, cargs = [v] := by
    have := hargs.1
    match cargs, this with
    | [v], _ => exact ⟨v, rfl⟩
  have hv := rep_int hargs.head
  subst hv
  refine (Any.strconv_Itoa Tryz.laysM171 n h0 h1 w (tab_of (by kernel_rfl) (by decide) (hgl 3 pow10A htab))).mono fun e w2 => ?_
  rintro ⟨rfl, k, os, rfl⟩
  exact ⟨_, rfl, below_grown w k os, fun _ _ => .str _⟩

theorem errCell {G : Nat} {T : Nat} {gl : Gl} {lim : Lim} {w : World} {x : AV} (h : gl.g G = some [.iface T x]) (hgl : GlOk gl lim w.heap) : ∃ v, w.cell? ⟨G, 0, none⟩ = some (.iface T v) := by
  obtain ⟨b, off, vs, hp, hv, hc⟩ := Rep.ro_iff.1 (hgl G _ h).1
  simp only [Value.pointer.injEq, Option.some.injEq, Addr.mk.injEq, and_true] at hp
  obtain ⟨rfl, rfl⟩ := hp
  obtain ⟨u, hu, hr⟩ := hv.get (j := 0) (x := .iface T x) rfl
  have h2 := (hc 0 u hu).2
  cases hr with
  | iface t v y hy => exact ⟨v, by rw [cell?_eq]; exact h2⟩

theorem c_strconv_Atoi (l : Str) (hl : l.length ≤ 281474976710656) (hers : ∃ x, g 1 = some [.iface 159 x]) (herr : ∃ x, g 2 = some [.iface 159 x]) : Valid Tryz.prog (G0 g rnd) 51 [.str l] (atoiAV 115 l) := by
  refine valid_callsG (by kernel_rfl) fun lim w cargs hgl hargs => ?_
  obtain ⟨v, rfl⟩ : ∃ v, cargs = [v] := by
    have := hargs.1
    match cargs, this with
    | [v], _ => exact ⟨v, rfl⟩
  have hv := rep_str hargs.head
  subst hv
  obtain ⟨xs, hxs⟩ := hers
  obtain ⟨xr, hxr⟩ := herr
  obtain ⟨vs, hvs⟩ := errCell hxs hgl
  obtain ⟨vr, hvr⟩ := errCell hxr hgl
  have hsz : (⟨l.toArray⟩ : ByteArray).size ≤ 281474976710656 := by simpa [ByteArray.size] using hl
  unfold atoiAV
  cases h : Lib.atoiAll l
  case ok v =>
    refine (Any.strconv_Atoi_ok Tryz.laysC172 ⟨l.toArray⟩ (by omega) v (by simpa using h) w).mono fun e w2 => ?_
    rintro ⟨rfl, hw⟩
    refine ⟨_, rfl, ?_, fun _ _ => Rep.tup_iff.2 ⟨_, rfl, .cons (.int _ _) (.cons .nilIface (.nil _ _))⟩⟩
    rcases hw with rfl | ⟨t, rfl⟩
    · exact RowKit.Below.refl _ _
    · exact Lib.bytesWorld_below w _ t
  case range =>
    refine (Any.strconv_Atoi_range Tryz.laysC172 ⟨l.toArray⟩ hsz (by simpa using h) _ w hvr (.inr ⟨_, _, rfl⟩)).mono fun e w2 => ?_
    rintro ⟨N, rfl, -, -, hb⟩
    exact ⟨_, rfl, hb, fun _ _ => Rep.tup_iff.2 ⟨_, rfl, .cons (.int _ _) (.cons (.iface _ _ _ (rep_any _ _ _ _)) (.nil _ _))⟩⟩
  · refine (Any.strconv_Atoi_syntax Tryz.laysC172 ⟨l.toArray⟩ hsz (by simpa using h) _ w hvs (.inr ⟨_, _, rfl⟩)).mono fun e w2 => ?_
    rintro ⟨N, rfl, -, -, hb⟩
    exact ⟨_, rfl, hb, fun _ _ => Rep.tup_iff.2 ⟨_, rfl, .cons (.int _ _) (.cons (.iface _ _ _ (rep_any _ _ _ _)) (.nil _ _))⟩⟩

theorem c_strings_CutPrefix (s p : Str) : Valid Tryz.prog (G0 g rnd) 50 [.str s, .str p] (.tup [.str (Lib.trimPrefix s p), .bool (Lib.hasPrefix s p)]) := by
  refine valid_callsG (by kernel_rfl) fun lim w cargs hgl hargs => ?_
  obtain ⟨v, u, rfl⟩ : ∃ v u, cargs = [v, u] := by
    have := hargs.1
    match cargs, this with
    | [v, u], _ => exact ⟨v, u, rfl⟩
  have hv := rep_str hargs.head
  have hu := rep_str hargs.tail.head
  subst hv; subst hu
  refine (Any.strings_CutPrefix Tryz.lays103 ⟨s.toArray⟩ ⟨p.toArray⟩ w).mono fun e w2 => ?_
  rintro ⟨rfl, rfl⟩
  exact ⟨_, rfl, RowKit.Below.refl _ _, fun _ _ => Rep.tup_iff.2 ⟨_, rfl, .cons (.str _) (.cons (.bool _) (.nil _ _))⟩⟩

end Go.Proofs.YtocmdbojefgpbaaGreatDoor
end

/- The law: a clone of a program shares no memory. -/
import Derived.Test.YtdifpfehijnmiaaGreatDoorPt
import Derived.Test.YtdifpfehijnmiaaGreatDoorPvPb
import Derived.Test.YtdifpfehijnmiaaGreatDoorPvY
import Derived.Test.YtdifpfehijnmiaaGreatDoorXDcN
import Derived.Test.YtdifpfehijnmiaaGreatDoorXQcA
import Derived.Test.YtdifpfehijnmiaaGreatDoorXDcP
import Derived.Test.YtdifpfehijnmiaaGreatDoorXDcP
set_option linter.all false
set_option maxHeartbeats 1000000
set_option maxRecDepth 10000
namespace Go.Proofs.YtdifpfehijnmiaaGreatDoor
open Go Go.Pv
variable (g : Nat → Option (List AV)) (rnd : Bool)

open Go.RowKit
theorem rep_gp {lim : Lim} {h : Array Obj} {v : Value} {b o : Nat} (r : Rep lim h v (.gp b o)) : v = .pointer (some ⟨b, o, none⟩) := by cases r; rfl

theorem c_law06x_DeclClones (p : Pg) (hf : fitPg p) (hres : g 0 = some reservedA) (hp : GlPlain (GT g)) : ValidT Tryz.prog (GT g) 6 [.agg (encPZ p)] (.bool true) := by

 refine validT_of [] Tryz.func6 rfl (by kernel_rfl) ?_
 refine sr fun Z z => ?_
 simp [Tryz.f6]
 refine z _ ?_
 clear z Z
 refine AT_seq_k fun K1 hK1 => ?_
 by_cases hc : cntPg p ≤ 600
 have hwp := fewPg_wt hc
 refine sr fun Z z => ?_
 simp [hc]
 refine RVn_call ((c_law06x_awake g false hres).gl rfl) ?_
 simp [hc]
 refine RVn_call ((Valid.atM rfl (c_ref06x_Few g false p hf) (by simp [AV.rgL, AV.rgLL, AV.rg, encPZ_plain, encPR_plain, encPg_plain]))) ?_
 simp [hc]
 refine z _ ?_
 clear z Z
 refine cF (by simp [hc]) ?_
 refine AT_skip ?_
 refine hK1 _ ?_
 refine sr fun Z z => ?_
 simp [hc]
 refine RVn_call ((Valid.newP hp rfl 1 (c_decl_Clone_m g false p (by omega)) (by simp [AV.rgL, AV.rgLL, AV.rg, encPZ_plain, encPR_plain, encPg_plain]))) ?_
 simp [hc]
 refine z _ ?_
 clear z Z
 refine sr fun Z z => ?_
 simp [hc]
 refine RVn_call ((Valid.newP hp rfl 2 (c_decl_Clone_m g false p (by omega)) (by simp [AV.rgL, AV.rgLL, AV.rg, encPZ_plain, encPR_plain, encPg_plain]))) ?_
 simp [hc]
 refine z _ ?_
 clear z Z
 refine AT_seq_k fun K2 hK2 => ?_
 refine sr fun Z z => ?_
 simp [hc]
 refine z _ ?_
 clear z Z
 refine AT_keep [1,3,4,5] [1,3,4] (by first | rfl | simp) ?_
 simp
 refine AT_esc 3 rfl (by simp) (noClP_of (by simp)) fun b3 => ?_
 simp
 refine AT_changed (c0 := encPR tyM 1 p) [1, 3, 4] [1, 4] 1 b3 7 (by first | rfl | simp) rfl rfl rfl (by simp [look]) (by decide) (by simp [AS.keep, pick, look]; simp only [AS.killOk, List.all_cons, List.all_nil, encPR_oo, encPZ_oo, Bool.and_true, Bool.true_and] <;> rfl) rfl rfl ?h1 (fun lim a w hsz hrep hn => ?h2)
 case h2 =>
   have hx3 := rep_gp (hrep 3 (.gp b3 0) none (by simp [look]))
   have hx5 := rep_int (hrep 5 (.int .i64 0) none (by simp [look]))
   replace hsz : a.tmps.size = 120 := hsz
   refine wp_of_eq (c := dB 0) (by kernel_rfl) (Code.wp_mono (fun e a2 w2 hh => ?_) (dcl_loop (df := a.defers) (x1 := a.tmps.getD 1 undef) (x4 := a.tmps.getD 4 undef) p hn (by omega) a ⟨hsz, rfl, rfl, hx3, rfl, hx5⟩))
   obtain ⟨rfl, ⟨i, hf⟩, hw⟩ := hh
   refine ⟨rfl, hw.al, hw.fr, hf.size.trans hsz.symm, hf.df, fun t ht => ?_⟩
   rcases Nat.decEq t 1 with t1 | t1
   · rcases Nat.decEq t 3 with t3 | t3
     · rcases Nat.decEq t 4 with t4 | t4
       · exfalso
         simp [AS.keep, pick, look, AS.kill, Ne.symm t1, Ne.symm t3, Ne.symm t4] at ht
       · subst t4; exact hf.h4
     · subst t3; exact hf.h3.trans hx3.symm
   · subst t1; exact hf.h1
 simp [AS.keep, pick, look, AS.kill, TV.kill, AV.kill, AV.off, encPR_kill, encPZ_kill]
 refine hK2 _ ?_
 refine sr fun Z z => ?_
 simp [hc]
 refine RVn_call ((Valid.atM rfl (c_ref06x_Program_x g false p (by omega)) (by simp [AV.rgL, AV.rgLL, AV.rg, encPZ_plain, encPR_plain, encPg_plain]))) ?_
 simp [hc]
 refine z _ ?_
 clear z Z
 refine AT_ret ?_
 simp [Tryz.f6]
 refine sr fun Z z => ?_
 simp [hc]
 refine RVn_call ((c_law06x_awake g false hres).gl rfl) ?_
 simp [hc]
 refine RVn_call ((Valid.atM rfl (c_ref06x_Few g false p hf) (by simp [AV.rgL, AV.rgLL, AV.rg, encPZ_plain, encPR_plain, encPg_plain]))) ?_
 simp [hc]
 refine z _ ?_
 clear z Z
 refine cT (by simp [hc]) ?_
 refine sr fun Z z => ?_
 simp [hc]
 refine RVn_call ((c_law06x_awake g false hres).gl rfl) ?_
 simp [hc]
 refine z _ ?_
 clear z Z
 refine AT_ret ?_
 simp [Tryz.f6]

end Go.Proofs.YtdifpfehijnmiaaGreatDoor

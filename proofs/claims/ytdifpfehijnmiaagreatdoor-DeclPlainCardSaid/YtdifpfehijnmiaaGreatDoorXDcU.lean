/- The laws: types, depth, plain. -/
import Derived.Test.YtdifpfehijnmiaaGreatDoorPt
import Derived.Test.YtdifpfehijnmiaaGreatDoorPvXa
import Derived.Test.YtdifpfehijnmiaaGreatDoorPvY
import Derived.Test.YtdifpfehijnmiaaGreatDoorXDcO
import Derived.Test.YtdifpfehijnmiaaGreatDoorXDcP
import Derived.Test.YtdifpfehijnmiaaGreatDoorXDcP
set_option linter.all false
set_option maxHeartbeats 1000000
set_option maxRecDepth 10000
namespace Go.Proofs.YtdifpfehijnmiaaGreatDoor
open Go Go.Pv
variable (g : Nat → Option (List AV)) (rnd : Bool)

theorem c_law06x_DeclPlain (p : Pg) (hf : fitPg p) (hres : g 0 = some reservedA) : Valid Tryz.prog (G0 g rnd) 5 [.agg (encPg p)] (.bool true) := by

 refine valid_of [] Tryz.func5 rfl (by kernel_rfl) ?_
 refine sr fun Z z => ?_
 simp [row_map, encPg, Tryz.f5]
 refine z _ ?_
 clear z Z
 refine AT_seq_k fun K1 hK1 => ?_
 by_cases hc : cntPg p ≤ 600
 have hwp := fewPg_wt hc
 cases hr : rightPg p
 refine sr fun Z z => ?_
 simp [row_map, encPg, hc, hr]
 refine RVn_call (c_law06x_awake g rnd hres) ?_
 simp [row_map, encPg, hc, hr]
 repeat refine sg ?_
 refine RVn_call ((by have h := c_ref06x_Few g rnd p hf; simp only [encPg] at h; exact h)) ?_
 simp [row_map, encPg, hc, hr]
 repeat refine sg ?_
 refine RVn_call ((by have h := c_ref06x_Right g rnd p (by omega); simp only [encPg] at h; exact h)) ?_
 simp [row_map, encPg, hc, hr]
 repeat refine sg ?_
 refine z _ ?_
 clear z Z
 refine AT_cond (b := true) (g := none) (by simp [hc, hr]) (fun hb => ?_) (fun hb => ?_)
 clear hb
 refine sr fun Z z => ?_
 simp [row_map, encPg, hc, hr]
 refine RVn_call (c_law06x_awake g rnd hres) ?_
 simp [row_map, encPg, hc, hr]
 refine z _ ?_
 clear z Z
 refine AT_ret ?_
 simp [row_map, encPg, Tryz.f5]
 skip
 cases hb
 refine sr fun Z z => ?_
 simp [row_map, encPg, hc, hr]
 refine RVn_call (c_law06x_awake g rnd hres) ?_
 simp [row_map, encPg, hc, hr]
 repeat refine sg ?_
 refine RVn_call ((by have h := c_ref06x_Few g rnd p hf; simp only [encPg] at h; exact h)) ?_
 simp [row_map, encPg, hc, hr]
 repeat refine sg ?_
 refine RVn_call ((by have h := c_ref06x_Right g rnd p (by omega); simp only [encPg] at h; exact h)) ?_
 simp [row_map, encPg, hc, hr]
 repeat refine sg ?_
 refine z _ ?_
 clear z Z
 refine AT_cond (b := false) (g := none) (by simp [hc, hr]) (fun hb => ?_) (fun hb => ?_)
 cases hb
 clear hb
 refine AT_skip ?_
 simp only [nrm, reduceIte, Nat.reduceEqDiff]
 refine hK1 _ ?_
 refine AT_seq_draw Pt.mixed (by kernel_rfl) fun Z z => ?_
 simp [row_map, encPg, hc, hr]
 refine RVdn_call ((by have h := c_decl_Plain g rnd p (by omega); simp only [encPg] at h; exact h)) ?_
 simp [row_map, encPg, hc, hr]
 refine RVdn_call ((by have h := c_ref06x_Plain g rnd p (by omega); simp only [encPg] at h; exact h)) ?_
 simp [row_map, encPg, hc, hr]
 refine z _ ?_
 clear z Z
 refine AT_ret ?_
 simp [row_map, encPg, Tryz.f5]
 skip
 refine sr fun Z z => ?_
 simp [row_map, encPg, hc]
 refine RVn_call (c_law06x_awake g rnd hres) ?_
 simp [row_map, encPg, hc]
 repeat refine sg ?_
 refine RVn_call ((by have h := c_ref06x_Few g rnd p hf; simp only [encPg] at h; exact h)) ?_
 simp [row_map, encPg, hc]
 repeat refine sg ?_
 refine z _ ?_
 clear z Z
 refine AT_cond (b := true) (g := none) (by simp [hc]) (fun hb => ?_) (fun hb => ?_)
 clear hb
 refine sr fun Z z => ?_
 simp [row_map, encPg, hc]
 refine RVn_call (c_law06x_awake g rnd hres) ?_
 simp [row_map, encPg, hc]
 refine z _ ?_
 clear z Z
 refine AT_ret ?_
 simp [row_map, encPg, Tryz.f5]
 skip
 cases hb

end Go.Proofs.YtdifpfehijnmiaaGreatDoor

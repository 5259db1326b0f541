/- The laws: types, depth, plain. -/
import Derived.Test.YtdifpfehijnmiaaGreatDoorPt
import Derived.Test.YtdifpfehijnmiaaGreatDoorPvXa
import Derived.Test.YtdifpfehijnmiaaGreatDoorPvY
import Derived.Test.YtdifpfehijnmiaaGreatDoorXDcO
import Derived.Test.YtdifpfehijnmiaaGreatDoorXDcP
import Derived.Test.YtdifpfehijnmiaaGreatDoorXDcP
set_option linter.all false
set_option maxHeartbeats 1000000
set_option maxRecDepth 10000
namespace Go.Proofs.YtdifpfehijnmiaaGreatDoor
open Go Go.Pv
variable (g : Nat → Option (List AV)) (rnd : Bool)

theorem c_law06x_DeclTypes (p : Pg) (hf : fitPg p) (hres : g 0 = some reservedA) : Valid Tryz.prog (G0 g rnd) 4 [.agg (encPg p)] (.bool true) := by
 have hwt := wts_tysP p
 have hlt := wts_len (tysP p)
 refine valid_of [] Tryz.func4 rfl (by kernel_rfl) ?_
 refine sr fun Z z => ?_
 simp [row_map, encPg, Tryz.f4]
 refine z _ ?_
 clear z Z
 refine AT_seq_k fun K1 hK1 => ?_
 by_cases hc : cntPg p ≤ 600
 have hwp := fewPg_wt hc
 cases hr : rightPg p
 refine sr fun Z z => ?_
 simp [row_map, encPg, hc, hr]
 refine RVn_call (c_law06x_awake g rnd hres) ?_
 simp [row_map, encPg, hc, hr]
 repeat refine sg ?_
 refine RVn_call ((by have h := c_ref06x_Few g rnd p hf; simp only [encPg] at h; exact h)) ?_
 simp [row_map, encPg, hc, hr]
 repeat refine sg ?_
 refine RVn_call ((by have h := c_ref06x_Right g rnd p (by omega); simp only [encPg] at h; exact h)) ?_
 simp [row_map, encPg, hc, hr]
 repeat refine sg ?_
 refine z _ ?_
 clear z Z
 refine AT_cond (b := true) (g := none) (by simp [hc, hr]) (fun hb => ?_) (fun hb => ?_)
 clear hb
 refine sr fun Z z => ?_
 simp [row_map, encPg, hc, hr]
 refine RVn_call (c_law06x_awake g rnd hres) ?_
 simp [row_map, encPg, hc, hr]
 refine z _ ?_
 clear z Z
 refine AT_ret ?_
 simp [row_map, encPg, Tryz.f4]
 skip
 cases hb
 refine sr fun Z z => ?_
 simp [row_map, encPg, hc, hr]
 refine RVn_call (c_law06x_awake g rnd hres) ?_
 simp [row_map, encPg, hc, hr]
 repeat refine sg ?_
 refine RVn_call ((by have h := c_ref06x_Few g rnd p hf; simp only [encPg] at h; exact h)) ?_
 simp [row_map, encPg, hc, hr]
 repeat refine sg ?_
 refine RVn_call ((by have h := c_ref06x_Right g rnd p (by omega); simp only [encPg] at h; exact h)) ?_
 simp [row_map, encPg, hc, hr]
 repeat refine sg ?_
 refine z _ ?_
 clear z Z
 refine AT_cond (b := false) (g := none) (by simp [hc, hr]) (fun hb => ?_) (fun hb => ?_)
 cases hb
 clear hb
 refine AT_skip ?_
 simp only [nrm, reduceIte, Nat.reduceEqDiff]
 refine hK1 _ ?_
 refine sr fun Z z => ?_
 simp [row_map, encPg, hc, hr]
 refine RVn_call ((by have h := c_decl_Types g rnd p (by omega); simp only [encPg] at h; exact h)) ?_
 simp [row_map, encPg, hc, hr]
 refine z _ ?_
 clear z Z
 refine sr fun Z z => ?_
 simp [row_map, encPg, hc, hr]
 refine RVn_call ((by have h := c_ref06x_Types g rnd p (by omega); simp only [encPg] at h; exact h)) ?_
 simp [row_map, encPg, hc, hr]
 refine z _ ?_
 clear z Z
 refine AT_seq_k fun K2 hK2 => ?_
 refine sr fun Z z => ?_
 simp [row_map, encPg, hc, hr]
 refine z _ ?_
 clear z Z
 refine AT_cond (b := false) (g := none) (by simp [hc, hr]) (fun hb => ?_) (fun hb => ?_)
 cases hb
 clear hb
 refine AT_skip ?_
 simp only [nrm, reduceIte, Nat.reduceEqDiff]
 refine hK2 _ ?_
 refine AT_seq_k fun K3 hK3 => ?_
 refine sr fun Z z => ?_
 simp [row_map, encPg, hc, hr]
 refine z _ ?_
 clear z Z
 refine AT_block ?_
 refine AT_loop_q [1,3,4,5] [1] (fun j s => ∃ k, k ≤ (tysP p).length ∧ j = (tysP p).length - k ∧ s = { n := 49, tm := [(1, .lp 1 0), (3, .v (.slice ((tysP p).map encTy)) none), (4, .v (.slice ((tysP p).map encTy)) none), (5, .v (.int .i64 k) none)], bx := [(1, encPg p)], tb := [], sh := [], hint := [] }) ((tysP p).length) (by first | rfl | simp) ?_ ?_
 exact ⟨0, by simp [encPg]⟩
 rintro j s ⟨k, hk, rfl, rfl⟩ K4 hK4
 refine AT_seq_k fun K5 hK5 => ?_
 refine sr fun Z z => ?_
 simp [row_map, encPg, hc, hr]
 refine z _ ?_
 clear z Z
 refine AT_cond (g := none) rfl (fun hb31 => ?_) (fun hb31 => ?_)
 simp [row_map, encPg, hc, hr] at hb31
 refine AT_skip ?_
 simp only [nrm, reduceIte, Nat.reduceEqDiff]
 refine hK5 _ ?_
 refine AT_seq_k fun K6 hK6 => ?_
 refine AT_block ?_
 refine AT_seq_draw Pt.mixed (by kernel_rfl) fun Z z => ?_
 have hk9 : k < (tysP p).length := by omega
 have hm9 := wts_mem (l := tysP p) (t := (tysP p)[k]) (by simp)
 have hee := eqT_refl (tysP p)[k]
 simp [row_map, encPg, hee, hc, hr, hb31]
 refine RVdn_call (c_ref04x_Equal g rnd (tysP p)[k] (tysP p)[k] (by omega)) ?_
 simp [row_map, encPg, hee, hc, hr, hb31]
 refine z _ ?_
 clear z Z
 refine AT_cond (b := false) (g := none) (by simp [hc, hr, hb31]) (fun hb => ?_) (fun hb => ?_)
 cases hb
 clear hb
 refine AT_skip ?_
 simp only [nrm, reduceIte, Nat.reduceEqDiff]
 refine hK6 _ ?_
 refine AT_region_q fun Z z => ?_
 simp [row_map, encPg, hc, hr, hb31]
 repeat refine sg ?_
 refine z _ ?_
 clear z Z
 simp only [nrm, reduceIte, Nat.reduceEqDiff]
 refine hK4 _ (by first | rfl | simp) ((tysP p).length - (k+1)) (by omega) ?_
 exact ⟨k+1, by omega, by omega, by simp [encPg]⟩
 simp [row_map, encPg, hc, hr] at hb31
 refine AT_exit ?_
 simp only [nrm, reduceIte, Nat.reduceEqDiff]
 refine hK3 _ ?_
 refine AT_seq_draw Pt.mixed (by kernel_rfl) fun Z z => ?_
 simp [row_map, encPg, hc, hr, hb31]
 refine RVdn_call ((by have h := c_decl_Depth g rnd p (by omega); simp only [encPg] at h; exact h)) ?_
 simp [row_map, encPg, hc, hr, hb31]
 refine RVdn_call ((by have h := c_ref06x_Depth g rnd p (by omega); simp only [encPg] at h; exact h)) ?_
 simp [row_map, encPg, hc, hr, hb31]
 refine z _ ?_
 clear z Z
 refine AT_ret ?_
 simp [row_map, encPg, Tryz.f4]
 skip
 refine sr fun Z z => ?_
 simp [row_map, encPg, hc]
 refine RVn_call (c_law06x_awake g rnd hres) ?_
 simp [row_map, encPg, hc]
 repeat refine sg ?_
 refine RVn_call ((by have h := c_ref06x_Few g rnd p hf; simp only [encPg] at h; exact h)) ?_
 simp [row_map, encPg, hc]
 repeat refine sg ?_
 refine z _ ?_
 clear z Z
 refine AT_cond (b := true) (g := none) (by simp [hc]) (fun hb => ?_) (fun hb => ?_)
 clear hb
 refine sr fun Z z => ?_
 simp [row_map, encPg, hc]
 refine RVn_call (c_law06x_awake g rnd hres) ?_
 simp [row_map, encPg, hc]
 refine z _ ?_
 clear z Z
 refine AT_ret ?_
 simp [row_map, encPg, Tryz.f4]
 skip
 cases hb

end Go.Proofs.YtdifpfehijnmiaaGreatDoor

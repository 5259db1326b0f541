import Derived.Test.YtocmdbojefgpbaaGreatDoorPt
import Derived.Test.YtocmdbojefgpbaaGreatDoorPvPa
import Derived.Test.YtocmdbojefgpbaaGreatDoorPvY
import Derived.Test.YtocmdbojefgpbaaGreatDoorPvKd
import Derived.Test.YtocmdbojefgpbaaGreatDoorXNaC
import Derived.Test.YtocmdbojefgpbaaGreatDoorXTyD
section
/- Contracts: expressions, counted and compared. -/
set_option linter.all false
set_option maxHeartbeats 1000000
set_option maxRecDepth 10000
namespace Go.Proofs.YtocmdbojefgpbaaGreatDoor
open Go Go.Pv
variable (g : Nat → Option (List AV)) (rnd : Bool)

theorem c_ref04x_Same (t u : Ty) (hw : wt t ≤ 1099511627776) : Valid Tryz.prog (G0 g rnd) 14 [.agg (encTy t), .agg (encTy u)] (.bool (cmpT t u == 0)) := by

 refine valid_of [] Tryz.func14 rfl (by kernel_rfl) ?_
 refine sr fun Z z => ?_
 simp [Tryz.f14]
 apply z
 refine sr fun Z z => ?_
 simp
 refine RVn_call (c_ref04x_Compare g rnd t u hw) ?_
 simp
 apply z
 refine AT_ret ?_
 simp [Tryz.f14]

end Go.Proofs.YtocmdbojefgpbaaGreatDoor
end

section
/- Contracts. -/
set_option linter.all false
set_option maxHeartbeats 1000000
set_option maxRecDepth 10000
namespace Go.Proofs.YtocmdbojefgpbaaGreatDoor
open Go Go.Pv
variable (g : Nat → Option (List AV)) (rnd : Bool)

theorem c_slices_Index_string_string (l : List Str) (x : Str) (hl : l.length ≤ 140737488355328) : Valid Tryz.prog (G0 g rnd) 112 [.slice (l.map encS), .str x] (.int .i64 (idxF l x 0)) := by

 refine valid_of [] Tryz.func112 rfl (by kernel_rfl) ?_
 refine sr fun Z z => ?_
 simp [Tryz.f112]
 apply z
 refine AT_seq_k fun K1 hK1 => ?_
 refine sr fun Z z => ?_
 simp
 apply z
 refine AT_block ?_
 refine AT_loop_q [0,1,6,7,8] [] (fun j s => ∃ k, k ≤ l.length ∧ idxF l x 0 = idxF (l.drop k) x k ∧ j = l.length - k ∧ s = { n := 19, tm := [(0, .v (.slice (l.map encS)) none), (1, .v (.str x) none), (6, .v (.slice (l.map encS)) none), (7, .v (.int .i64 l.length) none), (8, .v (.int .i64 k) none)], bx := [], tb := [], sh := [], hint := [] }) (l.length) (by first | rfl | simp) ?_ ?_
 exact ⟨0, by simp⟩
 rintro j s ⟨k, hk, hc, rfl, rfl⟩ K2 hK2
 refine sr fun Z z => ?_
 simp
 apply z
 refine AT_seq_k fun K3 hK3 => ?_
 refine AT_cond (g := none) rfl (fun hb9 => ?_) (fun hb9 => ?_)
 simp at hb9
 refine AT_skip ?_
 refine hK3 _ ?_
 refine AT_seq_k fun K4 hK4 => ?_
 refine AT_block ?_
 refine sr fun Z z => ?_
 simp [hb9]
 apply z
 refine sr fun Z z => ?_
 have hd := List.drop_eq_getElem_cons hb9
 simp [row_map, hb9]
 apply z
 refine AT_cond (g := none) rfl (fun hb16 => ?_) (fun hb16 => ?_)
 simp at hb16
 refine sr fun Z z => ?_
 simp
 apply z
 refine AT_ret ?_
 simp [Tryz.f112]
 first | (rw [hc, hd, idxF, if_pos hb16]) | (rw [hc, List.drop_eq_nil_of_le hb9]; rfl)
 simp at hb16
 refine AT_skip ?_
 refine hK4 _ ?_
 refine AT_region_q fun Z z => ?_
 simp
 repeat refine sg ?_
 apply z
 refine hK2 _ (by first | rfl | simp) (l.length - (k+1)) (by omega) ?_
 refine ⟨k+1, by omega, ?_, by omega, by simp⟩
 rw [hc, hd, idxF, if_neg hb16]
 simp at hb9
 refine AT_exit ?_
 refine hK1 _ ?_
 refine sr fun Z z => ?_
 simp
 apply z
 refine AT_ret ?_
 simp [Tryz.f112]
 first | (rw [hc, hd, idxF, if_pos hb16]) | (rw [hc, List.drop_eq_nil_of_le hb9]; rfl)

end Go.Proofs.YtocmdbojefgpbaaGreatDoor
end

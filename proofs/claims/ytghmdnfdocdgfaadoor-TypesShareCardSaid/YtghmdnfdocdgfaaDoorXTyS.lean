import Derived.Test.YtghmdnfdocdgfaaDoorPt
import Derived.Test.YtghmdnfdocdgfaaDoorPvPb
import Derived.Test.YtghmdnfdocdgfaaDoorPvY
import Derived.Test.YtghmdnfdocdgfaaDoorXTyR
import Derived.Test.YtghmdnfdocdgfaaDoorXTyD
section
/- Contracts. -/
set_option linter.all false
set_option maxHeartbeats 1000000
set_option maxRecDepth 10000
namespace Go.Proofs.YtghmdnfdocdgfaaDoor
open Go Go.Pv
variable (g : Nat → Option (List AV)) (rnd : Bool)

theorem c_ref04x_Count : ∀ t : Ty, fit t → ∀ j0 : Nat, j0 ≤ 1000000000000000 → Valid Tryd.prog (G0 g rnd) 31 [.agg (encTy t), .int .i64 j0] (.int .i64 (cnt t j0)) := by
 intro t
 induction t using Ty.ind with
 | h n ts p ih =>
 intro hf j0 hj
 rw [fit] at hf
 obtain ⟨hf1, hf2, hf3⟩ := hf
 refine valid_of [] Tryd.func31 rfl (by kernel_rfl) ?_
 refine sr fun Z z => ?_
 simp [row_map, tdiv50, Tryd.f31]
 refine z _ ?_
 clear z Z
 refine sr fun Z z => ?_
 simp [row_map, tdiv50]
 repeat refine sg ?_
 refine z _ ?_
 clear z Z
 refine AT_seq_k fun K1 hK1 => ?_
 refine sr fun Z z => ?_
 simp [row_map, tdiv50]
 refine z _ ?_
 clear z Z
 refine AT_block ?_
 refine AT_loop_q [2,1,5] [2] (fun j s => ∃ k c, k ≤ ts.length ∧ cnts ts (j0 + 1 + n.length / 50) = cnts (ts.drop k) c ∧ j = ts.length - k ∧ s = { n := 32, tm := [(2, .lp 2 0), (1, .v (.int .i64 (c : Nat)) none), (5, .v (.int .i64 k) none)], bx := [(2, encTy (.mk n ts p))], tb := [], sh := [], hint := [] }) (ts.length) (by first | rfl | simp) ?_ ?_
 exact ⟨0, j0 + 1 + n.length / 50, by simp⟩
 rintro j s ⟨k, c, hk, hc, rfl, rfl⟩ K2 hK2
 refine AT_seq_k fun K3 hK3 => ?_
 by_cases hkt : k < ts.length
 refine sr fun Z z => ?_
 simp [row_map, tdiv50, hkt]
 refine z _ ?_
 clear z Z
 refine AT_cond (g := none) rfl (fun hb21 => ?_) (fun hb21 => ?_)
 simp [row_map, tdiv50, hkt] at hb21
 refine AT_skip ?_
 refine hK3 _ ?_
 refine AT_seq_k fun K4 hK4 => ?_
 refine AT_block ?_
 refine AT_region_q fun Z z => ?_
 simp [row_map, tdiv50, hkt]
 refine RVn_call (ih ts[k] (by simp) (fits_mem hf3 (by simp)) c (by omega)) ?_
 simp [row_map, tdiv50, hkt]
 refine z _ ?_
 clear z Z
 refine hK4 _ ?_
 refine AT_region_q fun Z z => ?_
 simp [row_map, tdiv50, hkt]
 repeat refine sg ?_
 refine z _ ?_
 clear z Z
 refine hK2 _ (by first | rfl | simp) (ts.length - (k+1)) (by omega) ?_
 refine ⟨k+1, cnt ts[k] c, by omega, ?_, by omega, by simp⟩
 rw [hc, List.drop_eq_getElem_cons hkt, cnts_cons, if_pos (by omega)]
 simp [row_map, tdiv50, hkt] at hb21
 refine AT_exit ?_
 refine hK1 _ ?_
 refine sr fun Z z => ?_
 simp [row_map, tdiv50, hkt]
 refine z _ ?_
 clear z Z
 refine AT_ret ?_
 simp [row_map, tdiv50, Tryd.f31]
 (rw [show cnt (.mk n ts p) j0 = cnts ts (j0 + 1 + n.length / 50) by simp [cnt], hc, List.drop_eq_getElem_cons hkt, cnts_cons, if_neg (by omega)])
 refine sr fun Z z => ?_
 simp [row_map, tdiv50, hkt]
 refine z _ ?_
 clear z Z
 refine cF (by simp [hkt]) ?_
 refine AT_exit ?_
 refine hK1 _ ?_
 refine sr fun Z z => ?_
 simp [row_map, tdiv50, hkt]
 refine z _ ?_
 clear z Z
 refine AT_ret ?_
 simp [row_map, tdiv50, Tryd.f31]
 (rw [show cnt (.mk n ts p) j0 = cnts ts (j0 + 1 + n.length / 50) by simp [cnt], hc, List.drop_eq_nil_of_le (by omega)]; rfl)

theorem c_ref04x_Few (t : Ty) (hf : fit t) : Valid Tryd.prog (G0 g rnd) 10 [.agg (encTy t)] (.bool (decide (cnt t 0 ≤ 200))) := by

 refine valid_of [] Tryd.func10 rfl (by kernel_rfl) ?_
 refine sr fun Z z => ?_
 simp [Tryd.f10]
 refine z _ ?_
 clear z Z
 refine sr fun Z z => ?_
 simp
 refine RVn_call (c_ref04x_Count g rnd t hf 0 (by omega)) ?_
 simp
 refine z _ ?_
 clear z Z
 refine AT_ret ?_
 simp [Tryd.f10]
 omega

end Go.Proofs.YtghmdnfdocdgfaaDoor
end

section
/- Contracts. -/
set_option linter.all false
set_option maxHeartbeats 1000000
set_option maxRecDepth 10000
namespace Go.Proofs.YtghmdnfdocdgfaaDoor
open Go Go.Pv
variable (g : Nat → Option (List AV)) (rnd : Bool)

end Go.Proofs.YtghmdnfdocdgfaaDoor
end

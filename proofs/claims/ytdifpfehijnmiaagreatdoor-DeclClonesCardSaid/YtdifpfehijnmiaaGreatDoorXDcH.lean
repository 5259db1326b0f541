/- Contracts: the types of a signature. -/
import Derived.Test.YtdifpfehijnmiaaGreatDoorPt
import Derived.Test.YtdifpfehijnmiaaGreatDoorPvPb
import Derived.Test.YtdifpfehijnmiaaGreatDoorPvY
import Derived.Test.YtdifpfehijnmiaaGreatDoorXDcG
import Derived.Test.YtdifpfehijnmiaaGreatDoorPvP
set_option linter.all false
set_option maxHeartbeats 1000000
set_option maxRecDepth 10000
namespace Go.Proofs.YtdifpfehijnmiaaGreatDoor
open Go Go.Pv
variable (g : Nat → Option (List AV)) (rnd : Bool)

theorem c_decl_sig_z (s : Sg) (hw : wtG s ≤ 400000000) : Valid Tryz.prog (G0 g false) 58 [.agg (encG s)] (.slice ((tysG s).map encTy)) := by
 have hw2 : s.name.length + 1 + wtFs s.fms + wtFs s.pms + wt s.res ≤ 400000000 := hw
 have hf1 := wtFs_len s.fms
 have hf2 := wtFs_len s.pms
 have e9 := encTy_def s.res
 refine valid_of [] Tryz.func58 rfl (by kernel_rfl) ?_
 refine sr fun Z z => ?_
 simp [encG, Tryz.f58]
 refine z _ ?_
 clear z Z
 have q2 := c_decl_formals g false s.fms (by omega)
 have q5 := c_decl_params g false s.pms (by omega)
 have q7 := c_slices_Concat_api_Type_api_Type g false [s.fms.map Fm.ty, s.pms.map Fm.ty] (by simp) (by simp; omega)
 simp [encTL] at q7 q2 q5
 refine AT_seq_any [2] [] (fun z9 => z9 = { n := 15, tm := [(2, .v (.slice ((tysG s).map encTy)) (some (10, 28)))], bx := [], tb := [], sh := [], hint := [] }) Pt.mixed (fun K hK hQ => ?_) ?_
 refine ANY_take 0 (by rfl) hQ rfl rfl (by simp) (.inr ⟨_, _, _, _, _, _, rfl, rfl, Pt.foff_30_1, rfl⟩) (by kernel_rfl) (by kernel_rfl) (by kernel_rfl) ?_
 refine ANY_take 3 (by rfl) hQ rfl rfl (by simp) (.inr ⟨_, _, _, _, _, _, rfl, rfl, Pt.foff_30_2, rfl⟩) (by kernel_rfl) (by kernel_rfl) (by kernel_rfl) ?_
 refine ANY_take 8 (by rfl) hQ rfl rfl (by simp) (.inr ⟨_, _, _, _, _, _, rfl, rfl, Pt.foff_30_3, rfl⟩) (by kernel_rfl) (by kernel_rfl) (by kernel_rfl) ?_
 refine ANY_ready [1, 4, 9] (by kernel_rfl) (by simp) ?_
 refine AnyAll.cons rfl (fun Z hZ => ?_) ?_
 simp [encG]
 refine hZ _ ?_
 clear hZ Z
 refine ANY_ready [2, 4, 9] (by kernel_rfl) (by simp) ?_
 refine AnyAll.cons rfl (fun Z hZ => ?_) ?_
 simp [encG]
 refine RVn_call (q2) ?_
 simp [encG]
 refine hZ _ ?_
 clear hZ Z
 refine ANY_ready [4, 9] (by kernel_rfl) (by simp) ?_
 refine AnyAll.cons rfl (fun Z hZ => ?_) ?_
 simp [encG]
 refine hZ _ ?_
 clear hZ Z
 refine ANY_ready [5, 9] (by kernel_rfl) (by simp) ?_
 refine AnyAll.cons rfl (fun Z hZ => ?_) ?_
 simp [encG]
 refine RVn_call (q5) ?_
 simp [encG]
 refine hZ _ ?_
 clear hZ Z
 refine ANY_ready [6, 9] (by kernel_rfl) (by simp) ?_
 refine AnyAll.cons rfl (fun Z hZ => ?_) ?_
 simp [encG]
 refine hZ _ ?_
 clear hZ Z
 refine ANY_ready [7, 9] (by kernel_rfl) (by simp) ?_
 refine AnyAll.cons rfl (fun Z hZ => ?_) ?_
 simp [encG]
 refine RVn_callO 10 (by simp) (q7) ?_
 simp [encG]
 refine hZ _ ?_
 clear hZ Z
 refine ANY_one 9 (by kernel_rfl) rfl fun Z hZ => ?_
 simp [encG]
 refine hZ _ ?_
 clear hZ Z
 refine ANY_one 10 (by kernel_rfl) rfl fun Z hZ => ?_
 simp [encG]
 refine hZ _ ?_
 clear hZ Z
 refine ANY_one 11 (by kernel_rfl) rfl fun Z hZ => ?_
 simp [encG]
 repeat refine sg ?_
 refine hZ _ ?_
 clear hZ Z
 refine ANY_one 12 (by kernel_rfl) rfl fun Z hZ => ?_
 simp [encG]
 refine hZ _ ?_
 clear hZ Z
 refine ANY_done (by kernel_rfl) ?_
 refine hK _ (by first | rfl | simp) ?_
 simp [tysG, e9]
 refine AnyAll.cons rfl (fun Z hZ => ?_) ?_
 simp [encG]
 refine hZ _ ?_
 clear hZ Z
 refine ANY_ready [7, 10] (by kernel_rfl) (by simp) ?_
 refine AnyAll.cons rfl (fun Z hZ => ?_) ?_
 simp [encG]
 refine RVn_callO 10 (by simp) (q7) ?_
 simp [encG]
 refine hZ _ ?_
 clear hZ Z
 refine ANY_one 10 (by kernel_rfl) rfl fun Z hZ => ?_
 simp [encG]
 refine hZ _ ?_
 clear hZ Z
 refine ANY_one 11 (by kernel_rfl) rfl fun Z hZ => ?_
 simp [encG]
 repeat refine sg ?_
 refine hZ _ ?_
 clear hZ Z
 refine ANY_one 12 (by kernel_rfl) rfl fun Z hZ => ?_
 simp [encG]
 refine hZ _ ?_
 clear hZ Z
 refine ANY_done (by kernel_rfl) ?_
 refine hK _ (by first | rfl | simp) ?_
 simp [tysG, e9]
 refine AnyAll.cons rfl (fun Z hZ => ?_) ?_
 simp [encG]
 refine hZ _ ?_
 clear hZ Z
 refine ANY_one 7 (by kernel_rfl) rfl fun Z hZ => ?_
 simp [encG]
 refine RVn_callO 10 (by simp) (q7) ?_
 simp [encG]
 refine hZ _ ?_
 clear hZ Z
 refine ANY_one 11 (by kernel_rfl) rfl fun Z hZ => ?_
 simp [encG]
 repeat refine sg ?_
 refine hZ _ ?_
 clear hZ Z
 refine ANY_one 12 (by kernel_rfl) rfl fun Z hZ => ?_
 simp [encG]
 refine hZ _ ?_
 clear hZ Z
 refine ANY_done (by kernel_rfl) ?_
 refine hK _ (by first | rfl | simp) ?_
 simp [tysG, e9]
 exact AnyAll.nil
 exact AnyAll.nil
 refine AnyAll.cons rfl (fun Z hZ => ?_) ?_
 simp [encG]
 refine hZ _ ?_
 clear hZ Z
 refine ANY_ready [6, 10] (by kernel_rfl) (by simp) ?_
 refine AnyAll.cons rfl (fun Z hZ => ?_) ?_
 simp [encG]
 refine hZ _ ?_
 clear hZ Z
 refine ANY_ready [7, 10] (by kernel_rfl) (by simp) ?_
 refine AnyAll.cons rfl (fun Z hZ => ?_) ?_
 simp [encG]
 refine RVn_callO 10 (by simp) (q7) ?_
 simp [encG]
 refine hZ _ ?_
 clear hZ Z
 refine ANY_one 10 (by kernel_rfl) rfl fun Z hZ => ?_
 simp [encG]
 refine hZ _ ?_
 clear hZ Z
 refine ANY_one 11 (by kernel_rfl) rfl fun Z hZ => ?_
 simp [encG]
 repeat refine sg ?_
 refine hZ _ ?_
 clear hZ Z
 refine ANY_one 12 (by kernel_rfl) rfl fun Z hZ => ?_
 simp [encG]
 refine hZ _ ?_
 clear hZ Z
 refine ANY_done (by kernel_rfl) ?_
 refine hK _ (by first | rfl | simp) ?_
 simp [tysG, e9]
 refine AnyAll.cons rfl (fun Z hZ => ?_) ?_
 simp [encG]
 refine hZ _ ?_
 clear hZ Z
 refine ANY_one 7 (by kernel_rfl) rfl fun Z hZ => ?_
 simp [encG]
 refine RVn_callO 10 (by simp) (q7) ?_
 simp [encG]
 refine hZ _ ?_
 clear hZ Z
 refine ANY_one 11 (by kernel_rfl) rfl fun Z hZ => ?_
 simp [encG]
 repeat refine sg ?_
 refine hZ _ ?_
 clear hZ Z
 refine ANY_one 12 (by kernel_rfl) rfl fun Z hZ => ?_
 simp [encG]
 refine hZ _ ?_
 clear hZ Z
 refine ANY_done (by kernel_rfl) ?_
 refine hK _ (by first | rfl | simp) ?_
 simp [tysG, e9]
 exact AnyAll.nil
 refine AnyAll.cons rfl (fun Z hZ => ?_) ?_
 simp [encG]
 refine hZ _ ?_
 clear hZ Z
 refine ANY_one 6 (by kernel_rfl) rfl fun Z hZ => ?_
 simp [encG]
 refine hZ _ ?_
 clear hZ Z
 refine ANY_one 7 (by kernel_rfl) rfl fun Z hZ => ?_
 simp [encG]
 refine RVn_callO 10 (by simp) (q7) ?_
 simp [encG]
 refine hZ _ ?_
 clear hZ Z
 refine ANY_one 11 (by kernel_rfl) rfl fun Z hZ => ?_
 simp [encG]
 repeat refine sg ?_
 refine hZ _ ?_
 clear hZ Z
 refine ANY_one 12 (by kernel_rfl) rfl fun Z hZ => ?_
 simp [encG]
 refine hZ _ ?_
 clear hZ Z
 refine ANY_done (by kernel_rfl) ?_
 refine hK _ (by first | rfl | simp) ?_
 simp [tysG, e9]
 exact AnyAll.nil
 exact AnyAll.nil
 refine AnyAll.cons rfl (fun Z hZ => ?_) ?_
 simp [encG]
 refine hZ _ ?_
 clear hZ Z
 refine ANY_ready [5, 10] (by kernel_rfl) (by simp) ?_
 refine AnyAll.cons rfl (fun Z hZ => ?_) ?_
 simp [encG]
 refine RVn_call (q5) ?_
 simp [encG]
 refine hZ _ ?_
 clear hZ Z
 refine ANY_ready [6, 10] (by kernel_rfl) (by simp) ?_
 refine AnyAll.cons rfl (fun Z hZ => ?_) ?_
 simp [encG]
 refine hZ _ ?_
 clear hZ Z
 refine ANY_ready [7, 10] (by kernel_rfl) (by simp) ?_
 refine AnyAll.cons rfl (fun Z hZ => ?_) ?_
 simp [encG]
 refine RVn_callO 10 (by simp) (q7) ?_
 simp [encG]
 refine hZ _ ?_
 clear hZ Z
 refine ANY_one 10 (by kernel_rfl) rfl fun Z hZ => ?_
 simp [encG]
 refine hZ _ ?_
 clear hZ Z
 refine ANY_one 11 (by kernel_rfl) rfl fun Z hZ => ?_
 simp [encG]
 repeat refine sg ?_
 refine hZ _ ?_
 clear hZ Z
 refine ANY_one 12 (by kernel_rfl) rfl fun Z hZ => ?_
 simp [encG]
 refine hZ _ ?_
 clear hZ Z
 refine ANY_done (by kernel_rfl) ?_
 refine hK _ (by first | rfl | simp) ?_
 simp [tysG, e9]
 refine AnyAll.cons rfl (fun Z hZ => ?_) ?_
 simp [encG]
 refine hZ _ ?_
 clear hZ Z
 refine ANY_one 7 (by kernel_rfl) rfl fun Z hZ => ?_
 simp [encG]
 refine RVn_callO 10 (by simp) (q7) ?_
 simp [encG]
 refine hZ _ ?_
 clear hZ Z
 refine ANY_one 11 (by kernel_rfl) rfl fun Z hZ => ?_
 simp [encG]
 repeat refine sg ?_
 refine hZ _ ?_
 clear hZ Z
 refine ANY_one 12 (by kernel_rfl) rfl fun Z hZ => ?_
 simp [encG]
 refine hZ _ ?_
 clear hZ Z
 refine ANY_done (by kernel_rfl) ?_
 refine hK _ (by first | rfl | simp) ?_
 simp [tysG, e9]
 exact AnyAll.nil
 refine AnyAll.cons rfl (fun Z hZ => ?_) ?_
 simp [encG]
 refine hZ _ ?_
 clear hZ Z
 refine ANY_one 6 (by kernel_rfl) rfl fun Z hZ => ?_
 simp [encG]
 refine hZ _ ?_
 clear hZ Z
 refine ANY_one 7 (by kernel_rfl) rfl fun Z hZ => ?_
 simp [encG]
 refine RVn_callO 10 (by simp) (q7) ?_
 simp [encG]
 refine hZ _ ?_
 clear hZ Z
 refine ANY_one 11 (by kernel_rfl) rfl fun Z hZ => ?_
 simp [encG]
 repeat refine sg ?_
 refine hZ _ ?_
 clear hZ Z
 refine ANY_one 12 (by kernel_rfl) rfl fun Z hZ => ?_
 simp [encG]
 refine hZ _ ?_
 clear hZ Z
 refine ANY_done (by kernel_rfl) ?_
 refine hK _ (by first | rfl | simp) ?_
 simp [tysG, e9]
 exact AnyAll.nil
 refine AnyAll.cons rfl (fun Z hZ => ?_) ?_
 simp [encG]
 refine hZ _ ?_
 clear hZ Z
 refine ANY_one 5 (by kernel_rfl) rfl fun Z hZ => ?_
 simp [encG]
 refine RVn_call (q5) ?_
 simp [encG]
 refine hZ _ ?_
 clear hZ Z
 refine ANY_one 6 (by kernel_rfl) rfl fun Z hZ => ?_
 simp [encG]
 refine hZ _ ?_
 clear hZ Z
 refine ANY_one 7 (by kernel_rfl) rfl fun Z hZ => ?_
 simp [encG]
 refine RVn_callO 10 (by simp) (q7) ?_
 simp [encG]
 refine hZ _ ?_
 clear hZ Z
 refine ANY_one 11 (by kernel_rfl) rfl fun Z hZ => ?_
 simp [encG]
 repeat refine sg ?_
 refine hZ _ ?_
 clear hZ Z
 refine ANY_one 12 (by kernel_rfl) rfl fun Z hZ => ?_
 simp [encG]
 refine hZ _ ?_
 clear hZ Z
 refine ANY_done (by kernel_rfl) ?_
 refine hK _ (by first | rfl | simp) ?_
 simp [tysG, e9]
 exact AnyAll.nil
 exact AnyAll.nil
 refine AnyAll.cons rfl (fun Z hZ => ?_) ?_
 simp [encG]
 refine hZ _ ?_
 clear hZ Z
 refine ANY_ready [4, 10] (by kernel_rfl) (by simp) ?_
 refine AnyAll.cons rfl (fun Z hZ => ?_) ?_
 simp [encG]
 refine hZ _ ?_
 clear hZ Z
 refine ANY_ready [5, 10] (by kernel_rfl) (by simp) ?_
 refine AnyAll.cons rfl (fun Z hZ => ?_) ?_
 simp [encG]
 refine RVn_call (q5) ?_
 simp [encG]
 refine hZ _ ?_
 clear hZ Z
 refine ANY_ready [6, 10] (by kernel_rfl) (by simp) ?_
 refine AnyAll.cons rfl (fun Z hZ => ?_) ?_
 simp [encG]
 refine hZ _ ?_
 clear hZ Z
 refine ANY_ready [7, 10] (by kernel_rfl) (by simp) ?_
 refine AnyAll.cons rfl (fun Z hZ => ?_) ?_
 simp [encG]
 refine RVn_callO 10 (by simp) (q7) ?_
 simp [encG]
 refine hZ _ ?_
 clear hZ Z
 refine ANY_one 10 (by kernel_rfl) rfl fun Z hZ => ?_
 simp [encG]
 refine hZ _ ?_
 clear hZ Z
 refine ANY_one 11 (by kernel_rfl) rfl fun Z hZ => ?_
 simp [encG]
 repeat refine sg ?_
 refine hZ _ ?_
 clear hZ Z
 refine ANY_one 12 (by kernel_rfl) rfl fun Z hZ => ?_
 simp [encG]
 refine hZ _ ?_
 clear hZ Z
 refine ANY_done (by kernel_rfl) ?_
 refine hK _ (by first | rfl | simp) ?_
 simp [tysG, e9]
 refine AnyAll.cons rfl (fun Z hZ => ?_) ?_
 simp [encG]
 refine hZ _ ?_
 clear hZ Z
 refine ANY_one 7 (by kernel_rfl) rfl fun Z hZ => ?_
 simp [encG]
 refine RVn_callO 10 (by simp) (q7) ?_
 simp [encG]
 refine hZ _ ?_
 clear hZ Z
 refine ANY_one 11 (by kernel_rfl) rfl fun Z hZ => ?_
 simp [encG]
 repeat refine sg ?_
 refine hZ _ ?_
 clear hZ Z
 refine ANY_one 12 (by kernel_rfl) rfl fun Z hZ => ?_
 simp [encG]
 refine hZ _ ?_
 clear hZ Z
 refine ANY_done (by kernel_rfl) ?_
 refine hK _ (by first | rfl | simp) ?_
 simp [tysG, e9]
 exact AnyAll.nil
 refine AnyAll.cons rfl (fun Z hZ => ?_) ?_
 simp [encG]
 refine hZ _ ?_
 clear hZ Z
 refine ANY_one 6 (by kernel_rfl) rfl fun Z hZ => ?_
 simp [encG]
 refine hZ _ ?_
 clear hZ Z
 refine ANY_one 7 (by kernel_rfl) rfl fun Z hZ => ?_
 simp [encG]
 refine RVn_callO 10 (by simp) (q7) ?_
 simp [encG]
 refine hZ _ ?_
 clear hZ Z
 refine ANY_one 11 (by kernel_rfl) rfl fun Z hZ => ?_
 simp [encG]
 repeat refine sg ?_
 refine hZ _ ?_
 clear hZ Z
 refine ANY_one 12 (by kernel_rfl) rfl fun Z hZ => ?_
 simp [encG]
 refine hZ _ ?_
 clear hZ Z
 refine ANY_done (by kernel_rfl) ?_
 refine hK _ (by first | rfl | simp) ?_
 simp [tysG, e9]
 exact AnyAll.nil
 refine AnyAll.cons rfl (fun Z hZ => ?_) ?_
 simp [encG]
 refine hZ _ ?_
 clear hZ Z
 refine ANY_one 5 (by kernel_rfl) rfl fun Z hZ => ?_
 simp [encG]
 refine RVn_call (q5) ?_
 simp [encG]
 refine hZ _ ?_
 clear hZ Z
 refine ANY_one 6 (by kernel_rfl) rfl fun Z hZ => ?_
 simp [encG]
 refine hZ _ ?_
 clear hZ Z
 refine ANY_one 7 (by kernel_rfl) rfl fun Z hZ => ?_
 simp [encG]
 refine RVn_callO 10 (by simp) (q7) ?_
 simp [encG]
 refine hZ _ ?_
 clear hZ Z
 refine ANY_one 11 (by kernel_rfl) rfl fun Z hZ => ?_
 simp [encG]
 repeat refine sg ?_
 refine hZ _ ?_
 clear hZ Z
 refine ANY_one 12 (by kernel_rfl) rfl fun Z hZ => ?_
 simp [encG]
 refine hZ _ ?_
 clear hZ Z
 refine ANY_done (by kernel_rfl) ?_
 refine hK _ (by first | rfl | simp) ?_
 simp [tysG, e9]
 exact AnyAll.nil
 refine AnyAll.cons rfl (fun Z hZ => ?_) ?_
 simp [encG]
 refine hZ _ ?_
 clear hZ Z
 refine ANY_one 4 (by kernel_rfl) rfl fun Z hZ => ?_
 simp [encG]
 refine hZ _ ?_
 clear hZ Z
 refine ANY_one 5 (by kernel_rfl) rfl fun Z hZ => ?_
 simp [encG]
 refine RVn_call (q5) ?_
 simp [encG]
 refine hZ _ ?_
 clear hZ Z
 refine ANY_one 6 (by kernel_rfl) rfl fun Z hZ => ?_
 simp [encG]
 refine hZ _ ?_
 clear hZ Z
 refine ANY_one 7 (by kernel_rfl) rfl fun Z hZ => ?_
 simp [encG]
 refine RVn_callO 10 (by simp) (q7) ?_
 simp [encG]
 refine hZ _ ?_
 clear hZ Z
 refine ANY_one 11 (by kernel_rfl) rfl fun Z hZ => ?_
 simp [encG]
 repeat refine sg ?_
 refine hZ _ ?_
 clear hZ Z
 refine ANY_one 12 (by kernel_rfl) rfl fun Z hZ => ?_
 simp [encG]
 refine hZ _ ?_
 clear hZ Z
 refine ANY_done (by kernel_rfl) ?_
 refine hK _ (by first | rfl | simp) ?_
 simp [tysG, e9]
 exact AnyAll.nil
 exact AnyAll.nil
 refine AnyAll.cons rfl (fun Z hZ => ?_) ?_
 simp [encG]
 refine hZ _ ?_
 clear hZ Z
 refine ANY_ready [2, 9] (by kernel_rfl) (by simp) ?_
 refine AnyAll.cons rfl (fun Z hZ => ?_) ?_
 simp [encG]
 refine RVn_call (q2) ?_
 simp [encG]
 refine hZ _ ?_
 clear hZ Z
 refine ANY_ready [5, 9] (by kernel_rfl) (by simp) ?_
 refine AnyAll.cons rfl (fun Z hZ => ?_) ?_
 simp [encG]
 refine RVn_call (q5) ?_
 simp [encG]
 refine hZ _ ?_
 clear hZ Z
 refine ANY_ready [6, 9] (by kernel_rfl) (by simp) ?_
 refine AnyAll.cons rfl (fun Z hZ => ?_) ?_
 simp [encG]
 refine hZ _ ?_
 clear hZ Z
 refine ANY_ready [7, 9] (by kernel_rfl) (by simp) ?_
 refine AnyAll.cons rfl (fun Z hZ => ?_) ?_
 simp [encG]
 refine RVn_callO 10 (by simp) (q7) ?_
 simp [encG]
 refine hZ _ ?_
 clear hZ Z
 refine ANY_one 9 (by kernel_rfl) rfl fun Z hZ => ?_
 simp [encG]
 refine hZ _ ?_
 clear hZ Z
 refine ANY_one 10 (by kernel_rfl) rfl fun Z hZ => ?_
 simp [encG]
 refine hZ _ ?_
 clear hZ Z
 refine ANY_one 11 (by kernel_rfl) rfl fun Z hZ => ?_
 simp [encG]
 repeat refine sg ?_
 refine hZ _ ?_
 clear hZ Z
 refine ANY_one 12 (by kernel_rfl) rfl fun Z hZ => ?_
 simp [encG]
 refine hZ _ ?_
 clear hZ Z
 refine ANY_done (by kernel_rfl) ?_
 refine hK _ (by first | rfl | simp) ?_
 simp [tysG, e9]
 refine AnyAll.cons rfl (fun Z hZ => ?_) ?_
 simp [encG]
 refine hZ _ ?_
 clear hZ Z
 refine ANY_ready [7, 10] (by kernel_rfl) (by simp) ?_
 refine AnyAll.cons rfl (fun Z hZ => ?_) ?_
 simp [encG]
 refine RVn_callO 10 (by simp) (q7) ?_
 simp [encG]
 refine hZ _ ?_
 clear hZ Z
 refine ANY_one 10 (by kernel_rfl) rfl fun Z hZ => ?_
 simp [encG]
 refine hZ _ ?_
 clear hZ Z
 refine ANY_one 11 (by kernel_rfl) rfl fun Z hZ => ?_
 simp [encG]
 repeat refine sg ?_
 refine hZ _ ?_
 clear hZ Z
 refine ANY_one 12 (by kernel_rfl) rfl fun Z hZ => ?_
 simp [encG]
 refine hZ _ ?_
 clear hZ Z
 refine ANY_done (by kernel_rfl) ?_
 refine hK _ (by first | rfl | simp) ?_
 simp [tysG, e9]
 refine AnyAll.cons rfl (fun Z hZ => ?_) ?_
 simp [encG]
 refine hZ _ ?_
 clear hZ Z
 refine ANY_one 7 (by kernel_rfl) rfl fun Z hZ => ?_
 simp [encG]
 refine RVn_callO 10 (by simp) (q7) ?_
 simp [encG]
 refine hZ _ ?_
 clear hZ Z
 refine ANY_one 11 (by kernel_rfl) rfl fun Z hZ => ?_
 simp [encG]
 repeat refine sg ?_
 refine hZ _ ?_
 clear hZ Z
 refine ANY_one 12 (by kernel_rfl) rfl fun Z hZ => ?_
 simp [encG]
 refine hZ _ ?_
 clear hZ Z
 refine ANY_done (by kernel_rfl) ?_
 refine hK _ (by first | rfl | simp) ?_
 simp [tysG, e9]
 exact AnyAll.nil
 exact AnyAll.nil
 refine AnyAll.cons rfl (fun Z hZ => ?_) ?_
 simp [encG]
 refine hZ _ ?_
 clear hZ Z
 refine ANY_ready [6, 10] (by kernel_rfl) (by simp) ?_
 refine AnyAll.cons rfl (fun Z hZ => ?_) ?_
 simp [encG]
 refine hZ _ ?_
 clear hZ Z
 refine ANY_ready [7, 10] (by kernel_rfl) (by simp) ?_
 refine AnyAll.cons rfl (fun Z hZ => ?_) ?_
 simp [encG]
 refine RVn_callO 10 (by simp) (q7) ?_
 simp [encG]
 refine hZ _ ?_
 clear hZ Z
 refine ANY_one 10 (by kernel_rfl) rfl fun Z hZ => ?_
 simp [encG]
 refine hZ _ ?_
 clear hZ Z
 refine ANY_one 11 (by kernel_rfl) rfl fun Z hZ => ?_
 simp [encG]
 repeat refine sg ?_
 refine hZ _ ?_
 clear hZ Z
 refine ANY_one 12 (by kernel_rfl) rfl fun Z hZ => ?_
 simp [encG]
 refine hZ _ ?_
 clear hZ Z
 refine ANY_done (by kernel_rfl) ?_
 refine hK _ (by first | rfl | simp) ?_
 simp [tysG, e9]
 refine AnyAll.cons rfl (fun Z hZ => ?_) ?_
 simp [encG]
 refine hZ _ ?_
 clear hZ Z
 refine ANY_one 7 (by kernel_rfl) rfl fun Z hZ => ?_
 simp [encG]
 refine RVn_callO 10 (by simp) (q7) ?_
 simp [encG]
 refine hZ _ ?_
 clear hZ Z
 refine ANY_one 11 (by kernel_rfl) rfl fun Z hZ => ?_
 simp [encG]
 repeat refine sg ?_
 refine hZ _ ?_
 clear hZ Z
 refine ANY_one 12 (by kernel_rfl) rfl fun Z hZ => ?_
 simp [encG]
 refine hZ _ ?_
 clear hZ Z
 refine ANY_done (by kernel_rfl) ?_
 refine hK _ (by first | rfl | simp) ?_
 simp [tysG, e9]
 exact AnyAll.nil
 refine AnyAll.cons rfl (fun Z hZ => ?_) ?_
 simp [encG]
 refine hZ _ ?_
 clear hZ Z
 refine ANY_one 6 (by kernel_rfl) rfl fun Z hZ => ?_
 simp [encG]
 refine hZ _ ?_
 clear hZ Z
 refine ANY_one 7 (by kernel_rfl) rfl fun Z hZ => ?_
 simp [encG]
 refine RVn_callO 10 (by simp) (q7) ?_
 simp [encG]
 refine hZ _ ?_
 clear hZ Z
 refine ANY_one 11 (by kernel_rfl) rfl fun Z hZ => ?_
 simp [encG]
 repeat refine sg ?_
 refine hZ _ ?_
 clear hZ Z
 refine ANY_one 12 (by kernel_rfl) rfl fun Z hZ => ?_
 simp [encG]
 refine hZ _ ?_
 clear hZ Z
 refine ANY_done (by kernel_rfl) ?_
 refine hK _ (by first | rfl | simp) ?_
 simp [tysG, e9]
 exact AnyAll.nil
 exact AnyAll.nil
 refine AnyAll.cons rfl (fun Z hZ => ?_) ?_
 simp [encG]
 refine hZ _ ?_
 clear hZ Z
 refine ANY_ready [5, 10] (by kernel_rfl) (by simp) ?_
 refine AnyAll.cons rfl (fun Z hZ => ?_) ?_
 simp [encG]
 refine RVn_call (q5) ?_
 simp [encG]
 refine hZ _ ?_
 clear hZ Z
 refine ANY_ready [6, 10] (by kernel_rfl) (by simp) ?_
 refine AnyAll.cons rfl (fun Z hZ => ?_) ?_
 simp [encG]
 refine hZ _ ?_
 clear hZ Z
 refine ANY_ready [7, 10] (by kernel_rfl) (by simp) ?_
 refine AnyAll.cons rfl (fun Z hZ => ?_) ?_
 simp [encG]
 refine RVn_callO 10 (by simp) (q7) ?_
 simp [encG]
 refine hZ _ ?_
 clear hZ Z
 refine ANY_one 10 (by kernel_rfl) rfl fun Z hZ => ?_
 simp [encG]
 refine hZ _ ?_
 clear hZ Z
 refine ANY_one 11 (by kernel_rfl) rfl fun Z hZ => ?_
 simp [encG]
 repeat refine sg ?_
 refine hZ _ ?_
 clear hZ Z
 refine ANY_one 12 (by kernel_rfl) rfl fun Z hZ => ?_
 simp [encG]
 refine hZ _ ?_
 clear hZ Z
 refine ANY_done (by kernel_rfl) ?_
 refine hK _ (by first | rfl | simp) ?_
 simp [tysG, e9]
 refine AnyAll.cons rfl (fun Z hZ => ?_) ?_
 simp [encG]
 refine hZ _ ?_
 clear hZ Z
 refine ANY_one 7 (by kernel_rfl) rfl fun Z hZ => ?_
 simp [encG]
 refine RVn_callO 10 (by simp) (q7) ?_
 simp [encG]
 refine hZ _ ?_
 clear hZ Z
 refine ANY_one 11 (by kernel_rfl) rfl fun Z hZ => ?_
 simp [encG]
 repeat refine sg ?_
 refine hZ _ ?_
 clear hZ Z
 refine ANY_one 12 (by kernel_rfl) rfl fun Z hZ => ?_
 simp [encG]
 refine hZ _ ?_
 clear hZ Z
 refine ANY_done (by kernel_rfl) ?_
 refine hK _ (by first | rfl | simp) ?_
 simp [tysG, e9]
 exact AnyAll.nil
 refine AnyAll.cons rfl (fun Z hZ => ?_) ?_
 simp [encG]
 refine hZ _ ?_
 clear hZ Z
 refine ANY_one 6 (by kernel_rfl) rfl fun Z hZ => ?_
 simp [encG]
 refine hZ _ ?_
 clear hZ Z
 refine ANY_one 7 (by kernel_rfl) rfl fun Z hZ => ?_
 simp [encG]
 refine RVn_callO 10 (by simp) (q7) ?_
 simp [encG]
 refine hZ _ ?_
 clear hZ Z
 refine ANY_one 11 (by kernel_rfl) rfl fun Z hZ => ?_
 simp [encG]
 repeat refine sg ?_
 refine hZ _ ?_
 clear hZ Z
 refine ANY_one 12 (by kernel_rfl) rfl fun Z hZ => ?_
 simp [encG]
 refine hZ _ ?_
 clear hZ Z
 refine ANY_done (by kernel_rfl) ?_
 refine hK _ (by first | rfl | simp) ?_
 simp [tysG, e9]
 exact AnyAll.nil
 refine AnyAll.cons rfl (fun Z hZ => ?_) ?_
 simp [encG]
 refine hZ _ ?_
 clear hZ Z
 refine ANY_one 5 (by kernel_rfl) rfl fun Z hZ => ?_
 simp [encG]
 refine RVn_call (q5) ?_
 simp [encG]
 refine hZ _ ?_
 clear hZ Z
 refine ANY_one 6 (by kernel_rfl) rfl fun Z hZ => ?_
 simp [encG]
 refine hZ _ ?_
 clear hZ Z
 refine ANY_one 7 (by kernel_rfl) rfl fun Z hZ => ?_
 simp [encG]
 refine RVn_callO 10 (by simp) (q7) ?_
 simp [encG]
 refine hZ _ ?_
 clear hZ Z
 refine ANY_one 11 (by kernel_rfl) rfl fun Z hZ => ?_
 simp [encG]
 repeat refine sg ?_
 refine hZ _ ?_
 clear hZ Z
 refine ANY_one 12 (by kernel_rfl) rfl fun Z hZ => ?_
 simp [encG]
 refine hZ _ ?_
 clear hZ Z
 refine ANY_done (by kernel_rfl) ?_
 refine hK _ (by first | rfl | simp) ?_
 simp [tysG, e9]
 exact AnyAll.nil
 exact AnyAll.nil
 refine AnyAll.cons rfl (fun Z hZ => ?_) ?_
 simp [encG]
 refine hZ _ ?_
 clear hZ Z
 refine ANY_ready [2, 10] (by kernel_rfl) (by simp) ?_
 refine AnyAll.cons rfl (fun Z hZ => ?_) ?_
 simp [encG]
 refine RVn_call (q2) ?_
 simp [encG]
 refine hZ _ ?_
 clear hZ Z
 refine ANY_ready [5, 10] (by kernel_rfl) (by simp) ?_
 refine AnyAll.cons rfl (fun Z hZ => ?_) ?_
 simp [encG]
 refine RVn_call (q5) ?_
 simp [encG]
 refine hZ _ ?_
 clear hZ Z
 refine ANY_ready [6, 10] (by kernel_rfl) (by simp) ?_
 refine AnyAll.cons rfl (fun Z hZ => ?_) ?_
 simp [encG]
 refine hZ _ ?_
 clear hZ Z
 refine ANY_ready [7, 10] (by kernel_rfl) (by simp) ?_
 refine AnyAll.cons rfl (fun Z hZ => ?_) ?_
 simp [encG]
 refine RVn_callO 10 (by simp) (q7) ?_
 simp [encG]
 refine hZ _ ?_
 clear hZ Z
 refine ANY_one 10 (by kernel_rfl) rfl fun Z hZ => ?_
 simp [encG]
 refine hZ _ ?_
 clear hZ Z
 refine ANY_one 11 (by kernel_rfl) rfl fun Z hZ => ?_
 simp [encG]
 repeat refine sg ?_
 refine hZ _ ?_
 clear hZ Z
 refine ANY_one 12 (by kernel_rfl) rfl fun Z hZ => ?_
 simp [encG]
 refine hZ _ ?_
 clear hZ Z
 refine ANY_done (by kernel_rfl) ?_
 refine hK _ (by first | rfl | simp) ?_
 simp [tysG, e9]
 refine AnyAll.cons rfl (fun Z hZ => ?_) ?_
 simp [encG]
 refine hZ _ ?_
 clear hZ Z
 refine ANY_one 7 (by kernel_rfl) rfl fun Z hZ => ?_
 simp [encG]
 refine RVn_callO 10 (by simp) (q7) ?_
 simp [encG]
 refine hZ _ ?_
 clear hZ Z
 refine ANY_one 11 (by kernel_rfl) rfl fun Z hZ => ?_
 simp [encG]
 repeat refine sg ?_
 refine hZ _ ?_
 clear hZ Z
 refine ANY_one 12 (by kernel_rfl) rfl fun Z hZ => ?_
 simp [encG]
 refine hZ _ ?_
 clear hZ Z
 refine ANY_done (by kernel_rfl) ?_
 refine hK _ (by first | rfl | simp) ?_
 simp [tysG, e9]
 exact AnyAll.nil
 refine AnyAll.cons rfl (fun Z hZ => ?_) ?_
 simp [encG]
 refine hZ _ ?_
 clear hZ Z
 refine ANY_one 6 (by kernel_rfl) rfl fun Z hZ => ?_
 simp [encG]
 refine hZ _ ?_
 clear hZ Z
 refine ANY_one 7 (by kernel_rfl) rfl fun Z hZ => ?_
 simp [encG]
 refine RVn_callO 10 (by simp) (q7) ?_
 simp [encG]
 refine hZ _ ?_
 clear hZ Z
 refine ANY_one 11 (by kernel_rfl) rfl fun Z hZ => ?_
 simp [encG]
 repeat refine sg ?_
 refine hZ _ ?_
 clear hZ Z
 refine ANY_one 12 (by kernel_rfl) rfl fun Z hZ => ?_
 simp [encG]
 refine hZ _ ?_
 clear hZ Z
 refine ANY_done (by kernel_rfl) ?_
 refine hK _ (by first | rfl | simp) ?_
 simp [tysG, e9]
 exact AnyAll.nil
 refine AnyAll.cons rfl (fun Z hZ => ?_) ?_
 simp [encG]
 refine hZ _ ?_
 clear hZ Z
 refine ANY_one 5 (by kernel_rfl) rfl fun Z hZ => ?_
 simp [encG]
 refine RVn_call (q5) ?_
 simp [encG]
 refine hZ _ ?_
 clear hZ Z
 refine ANY_one 6 (by kernel_rfl) rfl fun Z hZ => ?_
 simp [encG]
 refine hZ _ ?_
 clear hZ Z
 refine ANY_one 7 (by kernel_rfl) rfl fun Z hZ => ?_
 simp [encG]
 refine RVn_callO 10 (by simp) (q7) ?_
 simp [encG]
 refine hZ _ ?_
 clear hZ Z
 refine ANY_one 11 (by kernel_rfl) rfl fun Z hZ => ?_
 simp [encG]
 repeat refine sg ?_
 refine hZ _ ?_
 clear hZ Z
 refine ANY_one 12 (by kernel_rfl) rfl fun Z hZ => ?_
 simp [encG]
 refine hZ _ ?_
 clear hZ Z
 refine ANY_done (by kernel_rfl) ?_
 refine hK _ (by first | rfl | simp) ?_
 simp [tysG, e9]
 exact AnyAll.nil
 refine AnyAll.cons rfl (fun Z hZ => ?_) ?_
 simp [encG]
 refine hZ _ ?_
 clear hZ Z
 refine ANY_one 2 (by kernel_rfl) rfl fun Z hZ => ?_
 simp [encG]
 refine RVn_call (q2) ?_
 simp [encG]
 refine hZ _ ?_
 clear hZ Z
 refine ANY_one 5 (by kernel_rfl) rfl fun Z hZ => ?_
 simp [encG]
 refine RVn_call (q5) ?_
 simp [encG]
 refine hZ _ ?_
 clear hZ Z
 refine ANY_one 6 (by kernel_rfl) rfl fun Z hZ => ?_
 simp [encG]
 refine hZ _ ?_
 clear hZ Z
 refine ANY_one 7 (by kernel_rfl) rfl fun Z hZ => ?_
 simp [encG]
 refine RVn_callO 10 (by simp) (q7) ?_
 simp [encG]
 refine hZ _ ?_
 clear hZ Z
 refine ANY_one 11 (by kernel_rfl) rfl fun Z hZ => ?_
 simp [encG]
 repeat refine sg ?_
 refine hZ _ ?_
 clear hZ Z
 refine ANY_one 12 (by kernel_rfl) rfl fun Z hZ => ?_
 simp [encG]
 refine hZ _ ?_
 clear hZ Z
 refine ANY_done (by kernel_rfl) ?_
 refine hK _ (by first | rfl | simp) ?_
 simp [tysG, e9]
 exact AnyAll.nil
 exact AnyAll.nil
 refine AnyAll.cons rfl (fun Z hZ => ?_) ?_
 simp [encG]
 refine hZ _ ?_
 clear hZ Z
 refine ANY_ready [2, 4, 10] (by kernel_rfl) (by simp) ?_
 refine AnyAll.cons rfl (fun Z hZ => ?_) ?_
 simp [encG]
 refine RVn_call (q2) ?_
 simp [encG]
 refine hZ _ ?_
 clear hZ Z
 refine ANY_ready [4, 10] (by kernel_rfl) (by simp) ?_
 refine AnyAll.cons rfl (fun Z hZ => ?_) ?_
 simp [encG]
 refine hZ _ ?_
 clear hZ Z
 refine ANY_ready [5, 10] (by kernel_rfl) (by simp) ?_
 refine AnyAll.cons rfl (fun Z hZ => ?_) ?_
 simp [encG]
 refine RVn_call (q5) ?_
 simp [encG]
 refine hZ _ ?_
 clear hZ Z
 refine ANY_ready [6, 10] (by kernel_rfl) (by simp) ?_
 refine AnyAll.cons rfl (fun Z hZ => ?_) ?_
 simp [encG]
 refine hZ _ ?_
 clear hZ Z
 refine ANY_ready [7, 10] (by kernel_rfl) (by simp) ?_
 refine AnyAll.cons rfl (fun Z hZ => ?_) ?_
 simp [encG]
 refine RVn_callO 10 (by simp) (q7) ?_
 simp [encG]
 refine hZ _ ?_
 clear hZ Z
 refine ANY_one 10 (by kernel_rfl) rfl fun Z hZ => ?_
 simp [encG]
 refine hZ _ ?_
 clear hZ Z
 refine ANY_one 11 (by kernel_rfl) rfl fun Z hZ => ?_
 simp [encG]
 repeat refine sg ?_
 refine hZ _ ?_
 clear hZ Z
 refine ANY_one 12 (by kernel_rfl) rfl fun Z hZ => ?_
 simp [encG]
 refine hZ _ ?_
 clear hZ Z
 refine ANY_done (by kernel_rfl) ?_
 refine hK _ (by first | rfl | simp) ?_
 simp [tysG, e9]
 refine AnyAll.cons rfl (fun Z hZ => ?_) ?_
 simp [encG]
 refine hZ _ ?_
 clear hZ Z
 refine ANY_one 7 (by kernel_rfl) rfl fun Z hZ => ?_
 simp [encG]
 refine RVn_callO 10 (by simp) (q7) ?_
 simp [encG]
 refine hZ _ ?_
 clear hZ Z
 refine ANY_one 11 (by kernel_rfl) rfl fun Z hZ => ?_
 simp [encG]
 repeat refine sg ?_
 refine hZ _ ?_
 clear hZ Z
 refine ANY_one 12 (by kernel_rfl) rfl fun Z hZ => ?_
 simp [encG]
 refine hZ _ ?_
 clear hZ Z
 refine ANY_done (by kernel_rfl) ?_
 refine hK _ (by first | rfl | simp) ?_
 simp [tysG, e9]
 exact AnyAll.nil
 refine AnyAll.cons rfl (fun Z hZ => ?_) ?_
 simp [encG]
 refine hZ _ ?_
 clear hZ Z
 refine ANY_one 6 (by kernel_rfl) rfl fun Z hZ => ?_
 simp [encG]
 refine hZ _ ?_
 clear hZ Z
 refine ANY_one 7 (by kernel_rfl) rfl fun Z hZ => ?_
 simp [encG]
 refine RVn_callO 10 (by simp) (q7) ?_
 simp [encG]
 refine hZ _ ?_
 clear hZ Z
 refine ANY_one 11 (by kernel_rfl) rfl fun Z hZ => ?_
 simp [encG]
 repeat refine sg ?_
 refine hZ _ ?_
 clear hZ Z
 refine ANY_one 12 (by kernel_rfl) rfl fun Z hZ => ?_
 simp [encG]
 refine hZ _ ?_
 clear hZ Z
 refine ANY_done (by kernel_rfl) ?_
 refine hK _ (by first | rfl | simp) ?_
 simp [tysG, e9]
 exact AnyAll.nil
 refine AnyAll.cons rfl (fun Z hZ => ?_) ?_
 simp [encG]
 refine hZ _ ?_
 clear hZ Z
 refine ANY_one 5 (by kernel_rfl) rfl fun Z hZ => ?_
 simp [encG]
 refine RVn_call (q5) ?_
 simp [encG]
 refine hZ _ ?_
 clear hZ Z
 refine ANY_one 6 (by kernel_rfl) rfl fun Z hZ => ?_
 simp [encG]
 refine hZ _ ?_
 clear hZ Z
 refine ANY_one 7 (by kernel_rfl) rfl fun Z hZ => ?_
 simp [encG]
 refine RVn_callO 10 (by simp) (q7) ?_
 simp [encG]
 refine hZ _ ?_
 clear hZ Z
 refine ANY_one 11 (by kernel_rfl) rfl fun Z hZ => ?_
 simp [encG]
 repeat refine sg ?_
 refine hZ _ ?_
 clear hZ Z
 refine ANY_one 12 (by kernel_rfl) rfl fun Z hZ => ?_
 simp [encG]
 refine hZ _ ?_
 clear hZ Z
 refine ANY_done (by kernel_rfl) ?_
 refine hK _ (by first | rfl | simp) ?_
 simp [tysG, e9]
 exact AnyAll.nil
 refine AnyAll.cons rfl (fun Z hZ => ?_) ?_
 simp [encG]
 refine hZ _ ?_
 clear hZ Z
 refine ANY_one 4 (by kernel_rfl) rfl fun Z hZ => ?_
 simp [encG]
 refine hZ _ ?_
 clear hZ Z
 refine ANY_one 5 (by kernel_rfl) rfl fun Z hZ => ?_
 simp [encG]
 refine RVn_call (q5) ?_
 simp [encG]
 refine hZ _ ?_
 clear hZ Z
 refine ANY_one 6 (by kernel_rfl) rfl fun Z hZ => ?_
 simp [encG]
 refine hZ _ ?_
 clear hZ Z
 refine ANY_one 7 (by kernel_rfl) rfl fun Z hZ => ?_
 simp [encG]
 refine RVn_callO 10 (by simp) (q7) ?_
 simp [encG]
 refine hZ _ ?_
 clear hZ Z
 refine ANY_one 11 (by kernel_rfl) rfl fun Z hZ => ?_
 simp [encG]
 repeat refine sg ?_
 refine hZ _ ?_
 clear hZ Z
 refine ANY_one 12 (by kernel_rfl) rfl fun Z hZ => ?_
 simp [encG]
 refine hZ _ ?_
 clear hZ Z
 refine ANY_done (by kernel_rfl) ?_
 refine hK _ (by first | rfl | simp) ?_
 simp [tysG, e9]
 exact AnyAll.nil
 refine AnyAll.cons rfl (fun Z hZ => ?_) ?_
 simp [encG]
 refine hZ _ ?_
 clear hZ Z
 refine ANY_ready [2, 10] (by kernel_rfl) (by simp) ?_
 refine AnyAll.cons rfl (fun Z hZ => ?_) ?_
 simp [encG]
 refine RVn_call (q2) ?_
 simp [encG]
 refine hZ _ ?_
 clear hZ Z
 refine ANY_ready [5, 10] (by kernel_rfl) (by simp) ?_
 refine AnyAll.cons rfl (fun Z hZ => ?_) ?_
 simp [encG]
 refine RVn_call (q5) ?_
 simp [encG]
 refine hZ _ ?_
 clear hZ Z
 refine ANY_ready [6, 10] (by kernel_rfl) (by simp) ?_
 refine AnyAll.cons rfl (fun Z hZ => ?_) ?_
 simp [encG]
 refine hZ _ ?_
 clear hZ Z
 refine ANY_ready [7, 10] (by kernel_rfl) (by simp) ?_
 refine AnyAll.cons rfl (fun Z hZ => ?_) ?_
 simp [encG]
 refine RVn_callO 10 (by simp) (q7) ?_
 simp [encG]
 refine hZ _ ?_
 clear hZ Z
 refine ANY_one 10 (by kernel_rfl) rfl fun Z hZ => ?_
 simp [encG]
 refine hZ _ ?_
 clear hZ Z
 refine ANY_one 11 (by kernel_rfl) rfl fun Z hZ => ?_
 simp [encG]
 repeat refine sg ?_
 refine hZ _ ?_
 clear hZ Z
 refine ANY_one 12 (by kernel_rfl) rfl fun Z hZ => ?_
 simp [encG]
 refine hZ _ ?_
 clear hZ Z
 refine ANY_done (by kernel_rfl) ?_
 refine hK _ (by first | rfl | simp) ?_
 simp [tysG, e9]
 refine AnyAll.cons rfl (fun Z hZ => ?_) ?_
 simp [encG]
 refine hZ _ ?_
 clear hZ Z
 refine ANY_one 7 (by kernel_rfl) rfl fun Z hZ => ?_
 simp [encG]
 refine RVn_callO 10 (by simp) (q7) ?_
 simp [encG]
 refine hZ _ ?_
 clear hZ Z
 refine ANY_one 11 (by kernel_rfl) rfl fun Z hZ => ?_
 simp [encG]
 repeat refine sg ?_
 refine hZ _ ?_
 clear hZ Z
 refine ANY_one 12 (by kernel_rfl) rfl fun Z hZ => ?_
 simp [encG]
 refine hZ _ ?_
 clear hZ Z
 refine ANY_done (by kernel_rfl) ?_
 refine hK _ (by first | rfl | simp) ?_
 simp [tysG, e9]
 exact AnyAll.nil
 refine AnyAll.cons rfl (fun Z hZ => ?_) ?_
 simp [encG]
 refine hZ _ ?_
 clear hZ Z
 refine ANY_one 6 (by kernel_rfl) rfl fun Z hZ => ?_
 simp [encG]
 refine hZ _ ?_
 clear hZ Z
 refine ANY_one 7 (by kernel_rfl) rfl fun Z hZ => ?_
 simp [encG]
 refine RVn_callO 10 (by simp) (q7) ?_
 simp [encG]
 refine hZ _ ?_
 clear hZ Z
 refine ANY_one 11 (by kernel_rfl) rfl fun Z hZ => ?_
 simp [encG]
 repeat refine sg ?_
 refine hZ _ ?_
 clear hZ Z
 refine ANY_one 12 (by kernel_rfl) rfl fun Z hZ => ?_
 simp [encG]
 refine hZ _ ?_
 clear hZ Z
 refine ANY_done (by kernel_rfl) ?_
 refine hK _ (by first | rfl | simp) ?_
 simp [tysG, e9]
 exact AnyAll.nil
 refine AnyAll.cons rfl (fun Z hZ => ?_) ?_
 simp [encG]
 refine hZ _ ?_
 clear hZ Z
 refine ANY_one 5 (by kernel_rfl) rfl fun Z hZ => ?_
 simp [encG]
 refine RVn_call (q5) ?_
 simp [encG]
 refine hZ _ ?_
 clear hZ Z
 refine ANY_one 6 (by kernel_rfl) rfl fun Z hZ => ?_
 simp [encG]
 refine hZ _ ?_
 clear hZ Z
 refine ANY_one 7 (by kernel_rfl) rfl fun Z hZ => ?_
 simp [encG]
 refine RVn_callO 10 (by simp) (q7) ?_
 simp [encG]
 refine hZ _ ?_
 clear hZ Z
 refine ANY_one 11 (by kernel_rfl) rfl fun Z hZ => ?_
 simp [encG]
 repeat refine sg ?_
 refine hZ _ ?_
 clear hZ Z
 refine ANY_one 12 (by kernel_rfl) rfl fun Z hZ => ?_
 simp [encG]
 refine hZ _ ?_
 clear hZ Z
 refine ANY_done (by kernel_rfl) ?_
 refine hK _ (by first | rfl | simp) ?_
 simp [tysG, e9]
 exact AnyAll.nil
 refine AnyAll.cons rfl (fun Z hZ => ?_) ?_
 simp [encG]
 refine hZ _ ?_
 clear hZ Z
 refine ANY_one 2 (by kernel_rfl) rfl fun Z hZ => ?_
 simp [encG]
 refine RVn_call (q2) ?_
 simp [encG]
 refine hZ _ ?_
 clear hZ Z
 refine ANY_one 5 (by kernel_rfl) rfl fun Z hZ => ?_
 simp [encG]
 refine RVn_call (q5) ?_
 simp [encG]
 refine hZ _ ?_
 clear hZ Z
 refine ANY_one 6 (by kernel_rfl) rfl fun Z hZ => ?_
 simp [encG]
 refine hZ _ ?_
 clear hZ Z
 refine ANY_one 7 (by kernel_rfl) rfl fun Z hZ => ?_
 simp [encG]
 refine RVn_callO 10 (by simp) (q7) ?_
 simp [encG]
 refine hZ _ ?_
 clear hZ Z
 refine ANY_one 11 (by kernel_rfl) rfl fun Z hZ => ?_
 simp [encG]
 repeat refine sg ?_
 refine hZ _ ?_
 clear hZ Z
 refine ANY_one 12 (by kernel_rfl) rfl fun Z hZ => ?_
 simp [encG]
 refine hZ _ ?_
 clear hZ Z
 refine ANY_done (by kernel_rfl) ?_
 refine hK _ (by first | rfl | simp) ?_
 simp [tysG, e9]
 exact AnyAll.nil
 refine AnyAll.cons rfl (fun Z hZ => ?_) ?_
 simp [encG]
 refine hZ _ ?_
 clear hZ Z
 refine ANY_ready [2, 4] (by kernel_rfl) (by simp) ?_
 refine AnyAll.cons rfl (fun Z hZ => ?_) ?_
 simp [encG]
 refine RVn_call (q2) ?_
 simp [encG]
 refine hZ _ ?_
 clear hZ Z
 refine ANY_one 4 (by kernel_rfl) rfl fun Z hZ => ?_
 simp [encG]
 refine hZ _ ?_
 clear hZ Z
 refine ANY_one 5 (by kernel_rfl) rfl fun Z hZ => ?_
 simp [encG]
 refine RVn_call (q5) ?_
 simp [encG]
 refine hZ _ ?_
 clear hZ Z
 refine ANY_one 6 (by kernel_rfl) rfl fun Z hZ => ?_
 simp [encG]
 refine hZ _ ?_
 clear hZ Z
 refine ANY_one 7 (by kernel_rfl) rfl fun Z hZ => ?_
 simp [encG]
 refine RVn_callO 10 (by simp) (q7) ?_
 simp [encG]
 refine hZ _ ?_
 clear hZ Z
 refine ANY_one 11 (by kernel_rfl) rfl fun Z hZ => ?_
 simp [encG]
 repeat refine sg ?_
 refine hZ _ ?_
 clear hZ Z
 refine ANY_one 12 (by kernel_rfl) rfl fun Z hZ => ?_
 simp [encG]
 refine hZ _ ?_
 clear hZ Z
 refine ANY_done (by kernel_rfl) ?_
 refine hK _ (by first | rfl | simp) ?_
 simp [tysG, e9]
 refine AnyAll.cons rfl (fun Z hZ => ?_) ?_
 simp [encG]
 refine hZ _ ?_
 clear hZ Z
 refine ANY_one 2 (by kernel_rfl) rfl fun Z hZ => ?_
 simp [encG]
 refine RVn_call (q2) ?_
 simp [encG]
 refine hZ _ ?_
 clear hZ Z
 refine ANY_one 5 (by kernel_rfl) rfl fun Z hZ => ?_
 simp [encG]
 refine RVn_call (q5) ?_
 simp [encG]
 refine hZ _ ?_
 clear hZ Z
 refine ANY_one 6 (by kernel_rfl) rfl fun Z hZ => ?_
 simp [encG]
 refine hZ _ ?_
 clear hZ Z
 refine ANY_one 7 (by kernel_rfl) rfl fun Z hZ => ?_
 simp [encG]
 refine RVn_callO 10 (by simp) (q7) ?_
 simp [encG]
 refine hZ _ ?_
 clear hZ Z
 refine ANY_one 11 (by kernel_rfl) rfl fun Z hZ => ?_
 simp [encG]
 repeat refine sg ?_
 refine hZ _ ?_
 clear hZ Z
 refine ANY_one 12 (by kernel_rfl) rfl fun Z hZ => ?_
 simp [encG]
 refine hZ _ ?_
 clear hZ Z
 refine ANY_done (by kernel_rfl) ?_
 refine hK _ (by first | rfl | simp) ?_
 simp [tysG, e9]
 exact AnyAll.nil
 exact AnyAll.nil
 exact AnyAll.nil
 refine AnyAll.cons rfl (fun Z hZ => ?_) ?_
 simp [encG]
 refine hZ _ ?_
 clear hZ Z
 refine ANY_ready [1, 9] (by kernel_rfl) (by simp) ?_
 refine AnyAll.cons rfl (fun Z hZ => ?_) ?_
 simp [encG]
 refine hZ _ ?_
 clear hZ Z
 refine ANY_ready [2, 9] (by kernel_rfl) (by simp) ?_
 refine AnyAll.cons rfl (fun Z hZ => ?_) ?_
 simp [encG]
 refine RVn_call (q2) ?_
 simp [encG]
 refine hZ _ ?_
 clear hZ Z
 refine ANY_ready [5, 9] (by kernel_rfl) (by simp) ?_
 refine AnyAll.cons rfl (fun Z hZ => ?_) ?_
 simp [encG]
 refine RVn_call (q5) ?_
 simp [encG]
 refine hZ _ ?_
 clear hZ Z
 refine ANY_ready [6, 9] (by kernel_rfl) (by simp) ?_
 refine AnyAll.cons rfl (fun Z hZ => ?_) ?_
 simp [encG]
 refine hZ _ ?_
 clear hZ Z
 refine ANY_ready [7, 9] (by kernel_rfl) (by simp) ?_
 refine AnyAll.cons rfl (fun Z hZ => ?_) ?_
 simp [encG]
 refine RVn_callO 10 (by simp) (q7) ?_
 simp [encG]
 refine hZ _ ?_
 clear hZ Z
 refine ANY_one 9 (by kernel_rfl) rfl fun Z hZ => ?_
 simp [encG]
 refine hZ _ ?_
 clear hZ Z
 refine ANY_one 10 (by kernel_rfl) rfl fun Z hZ => ?_
 simp [encG]
 refine hZ _ ?_
 clear hZ Z
 refine ANY_one 11 (by kernel_rfl) rfl fun Z hZ => ?_
 simp [encG]
 repeat refine sg ?_
 refine hZ _ ?_
 clear hZ Z
 refine ANY_one 12 (by kernel_rfl) rfl fun Z hZ => ?_
 simp [encG]
 refine hZ _ ?_
 clear hZ Z
 refine ANY_done (by kernel_rfl) ?_
 refine hK _ (by first | rfl | simp) ?_
 simp [tysG, e9]
 refine AnyAll.cons rfl (fun Z hZ => ?_) ?_
 simp [encG]
 refine hZ _ ?_
 clear hZ Z
 refine ANY_ready [7, 10] (by kernel_rfl) (by simp) ?_
 refine AnyAll.cons rfl (fun Z hZ => ?_) ?_
 simp [encG]
 refine RVn_callO 10 (by simp) (q7) ?_
 simp [encG]
 refine hZ _ ?_
 clear hZ Z
 refine ANY_one 10 (by kernel_rfl) rfl fun Z hZ => ?_
 simp [encG]
 refine hZ _ ?_
 clear hZ Z
 refine ANY_one 11 (by kernel_rfl) rfl fun Z hZ => ?_
 simp [encG]
 repeat refine sg ?_
 refine hZ _ ?_
 clear hZ Z
 refine ANY_one 12 (by kernel_rfl) rfl fun Z hZ => ?_
 simp [encG]
 refine hZ _ ?_
 clear hZ Z
 refine ANY_done (by kernel_rfl) ?_
 refine hK _ (by first | rfl | simp) ?_
 simp [tysG, e9]
 refine AnyAll.cons rfl (fun Z hZ => ?_) ?_
 simp [encG]
 refine hZ _ ?_
 clear hZ Z
 refine ANY_one 7 (by kernel_rfl) rfl fun Z hZ => ?_
 simp [encG]
 refine RVn_callO 10 (by simp) (q7) ?_
 simp [encG]
 refine hZ _ ?_
 clear hZ Z
 refine ANY_one 11 (by kernel_rfl) rfl fun Z hZ => ?_
 simp [encG]
 repeat refine sg ?_
 refine hZ _ ?_
 clear hZ Z
 refine ANY_one 12 (by kernel_rfl) rfl fun Z hZ => ?_
 simp [encG]
 refine hZ _ ?_
 clear hZ Z
 refine ANY_done (by kernel_rfl) ?_
 refine hK _ (by first | rfl | simp) ?_
 simp [tysG, e9]
 exact AnyAll.nil
 exact AnyAll.nil
 refine AnyAll.cons rfl (fun Z hZ => ?_) ?_
 simp [encG]
 refine hZ _ ?_
 clear hZ Z
 refine ANY_ready [6, 10] (by kernel_rfl) (by simp) ?_
 refine AnyAll.cons rfl (fun Z hZ => ?_) ?_
 simp [encG]
 refine hZ _ ?_
 clear hZ Z
 refine ANY_ready [7, 10] (by kernel_rfl) (by simp) ?_
 refine AnyAll.cons rfl (fun Z hZ => ?_) ?_
 simp [encG]
 refine RVn_callO 10 (by simp) (q7) ?_
 simp [encG]
 refine hZ _ ?_
 clear hZ Z
 refine ANY_one 10 (by kernel_rfl) rfl fun Z hZ => ?_
 simp [encG]
 refine hZ _ ?_
 clear hZ Z
 refine ANY_one 11 (by kernel_rfl) rfl fun Z hZ => ?_
 simp [encG]
 repeat refine sg ?_
 refine hZ _ ?_
 clear hZ Z
 refine ANY_one 12 (by kernel_rfl) rfl fun Z hZ => ?_
 simp [encG]
 refine hZ _ ?_
 clear hZ Z
 refine ANY_done (by kernel_rfl) ?_
 refine hK _ (by first | rfl | simp) ?_
 simp [tysG, e9]
 refine AnyAll.cons rfl (fun Z hZ => ?_) ?_
 simp [encG]
 refine hZ _ ?_
 clear hZ Z
 refine ANY_one 7 (by kernel_rfl) rfl fun Z hZ => ?_
 simp [encG]
 refine RVn_callO 10 (by simp) (q7) ?_
 simp [encG]
 refine hZ _ ?_
 clear hZ Z
 refine ANY_one 11 (by kernel_rfl) rfl fun Z hZ => ?_
 simp [encG]
 repeat refine sg ?_
 refine hZ _ ?_
 clear hZ Z
 refine ANY_one 12 (by kernel_rfl) rfl fun Z hZ => ?_
 simp [encG]
 refine hZ _ ?_
 clear hZ Z
 refine ANY_done (by kernel_rfl) ?_
 refine hK _ (by first | rfl | simp) ?_
 simp [tysG, e9]
 exact AnyAll.nil
 refine AnyAll.cons rfl (fun Z hZ => ?_) ?_
 simp [encG]
 refine hZ _ ?_
 clear hZ Z
 refine ANY_one 6 (by kernel_rfl) rfl fun Z hZ => ?_
 simp [encG]
 refine hZ _ ?_
 clear hZ Z
 refine ANY_one 7 (by kernel_rfl) rfl fun Z hZ => ?_
 simp [encG]
 refine RVn_callO 10 (by simp) (q7) ?_
 simp [encG]
 refine hZ _ ?_
 clear hZ Z
 refine ANY_one 11 (by kernel_rfl) rfl fun Z hZ => ?_
 simp [encG]
 repeat refine sg ?_
 refine hZ _ ?_
 clear hZ Z
 refine ANY_one 12 (by kernel_rfl) rfl fun Z hZ => ?_
 simp [encG]
 refine hZ _ ?_
 clear hZ Z
 refine ANY_done (by kernel_rfl) ?_
 refine hK _ (by first | rfl | simp) ?_
 simp [tysG, e9]
 exact AnyAll.nil
 exact AnyAll.nil
 refine AnyAll.cons rfl (fun Z hZ => ?_) ?_
 simp [encG]
 refine hZ _ ?_
 clear hZ Z
 refine ANY_ready [5, 10] (by kernel_rfl) (by simp) ?_
 refine AnyAll.cons rfl (fun Z hZ => ?_) ?_
 simp [encG]
 refine RVn_call (q5) ?_
 simp [encG]
 refine hZ _ ?_
 clear hZ Z
 refine ANY_ready [6, 10] (by kernel_rfl) (by simp) ?_
 refine AnyAll.cons rfl (fun Z hZ => ?_) ?_
 simp [encG]
 refine hZ _ ?_
 clear hZ Z
 refine ANY_ready [7, 10] (by kernel_rfl) (by simp) ?_
 refine AnyAll.cons rfl (fun Z hZ => ?_) ?_
 simp [encG]
 refine RVn_callO 10 (by simp) (q7) ?_
 simp [encG]
 refine hZ _ ?_
 clear hZ Z
 refine ANY_one 10 (by kernel_rfl) rfl fun Z hZ => ?_
 simp [encG]
 refine hZ _ ?_
 clear hZ Z
 refine ANY_one 11 (by kernel_rfl) rfl fun Z hZ => ?_
 simp [encG]
 repeat refine sg ?_
 refine hZ _ ?_
 clear hZ Z
 refine ANY_one 12 (by kernel_rfl) rfl fun Z hZ => ?_
 simp [encG]
 refine hZ _ ?_
 clear hZ Z
 refine ANY_done (by kernel_rfl) ?_
 refine hK _ (by first | rfl | simp) ?_
 simp [tysG, e9]
 refine AnyAll.cons rfl (fun Z hZ => ?_) ?_
 simp [encG]
 refine hZ _ ?_
 clear hZ Z
 refine ANY_one 7 (by kernel_rfl) rfl fun Z hZ => ?_
 simp [encG]
 refine RVn_callO 10 (by simp) (q7) ?_
 simp [encG]
 refine hZ _ ?_
 clear hZ Z
 refine ANY_one 11 (by kernel_rfl) rfl fun Z hZ => ?_
 simp [encG]
 repeat refine sg ?_
 refine hZ _ ?_
 clear hZ Z
 refine ANY_one 12 (by kernel_rfl) rfl fun Z hZ => ?_
 simp [encG]
 refine hZ _ ?_
 clear hZ Z
 refine ANY_done (by kernel_rfl) ?_
 refine hK _ (by first | rfl | simp) ?_
 simp [tysG, e9]
 exact AnyAll.nil
 refine AnyAll.cons rfl (fun Z hZ => ?_) ?_
 simp [encG]
 refine hZ _ ?_
 clear hZ Z
 refine ANY_one 6 (by kernel_rfl) rfl fun Z hZ => ?_
 simp [encG]
 refine hZ _ ?_
 clear hZ Z
 refine ANY_one 7 (by kernel_rfl) rfl fun Z hZ => ?_
 simp [encG]
 refine RVn_callO 10 (by simp) (q7) ?_
 simp [encG]
 refine hZ _ ?_
 clear hZ Z
 refine ANY_one 11 (by kernel_rfl) rfl fun Z hZ => ?_
 simp [encG]
 repeat refine sg ?_
 refine hZ _ ?_
 clear hZ Z
 refine ANY_one 12 (by kernel_rfl) rfl fun Z hZ => ?_
 simp [encG]
 refine hZ _ ?_
 clear hZ Z
 refine ANY_done (by kernel_rfl) ?_
 refine hK _ (by first | rfl | simp) ?_
 simp [tysG, e9]
 exact AnyAll.nil
 refine AnyAll.cons rfl (fun Z hZ => ?_) ?_
 simp [encG]
 refine hZ _ ?_
 clear hZ Z
 refine ANY_one 5 (by kernel_rfl) rfl fun Z hZ => ?_
 simp [encG]
 refine RVn_call (q5) ?_
 simp [encG]
 refine hZ _ ?_
 clear hZ Z
 refine ANY_one 6 (by kernel_rfl) rfl fun Z hZ => ?_
 simp [encG]
 refine hZ _ ?_
 clear hZ Z
 refine ANY_one 7 (by kernel_rfl) rfl fun Z hZ => ?_
 simp [encG]
 refine RVn_callO 10 (by simp) (q7) ?_
 simp [encG]
 refine hZ _ ?_
 clear hZ Z
 refine ANY_one 11 (by kernel_rfl) rfl fun Z hZ => ?_
 simp [encG]
 repeat refine sg ?_
 refine hZ _ ?_
 clear hZ Z
 refine ANY_one 12 (by kernel_rfl) rfl fun Z hZ => ?_
 simp [encG]
 refine hZ _ ?_
 clear hZ Z
 refine ANY_done (by kernel_rfl) ?_
 refine hK _ (by first | rfl | simp) ?_
 simp [tysG, e9]
 exact AnyAll.nil
 exact AnyAll.nil
 refine AnyAll.cons rfl (fun Z hZ => ?_) ?_
 simp [encG]
 refine hZ _ ?_
 clear hZ Z
 refine ANY_ready [2, 10] (by kernel_rfl) (by simp) ?_
 refine AnyAll.cons rfl (fun Z hZ => ?_) ?_
 simp [encG]
 refine RVn_call (q2) ?_
 simp [encG]
 refine hZ _ ?_
 clear hZ Z
 refine ANY_ready [5, 10] (by kernel_rfl) (by simp) ?_
 refine AnyAll.cons rfl (fun Z hZ => ?_) ?_
 simp [encG]
 refine RVn_call (q5) ?_
 simp [encG]
 refine hZ _ ?_
 clear hZ Z
 refine ANY_ready [6, 10] (by kernel_rfl) (by simp) ?_
 refine AnyAll.cons rfl (fun Z hZ => ?_) ?_
 simp [encG]
 refine hZ _ ?_
 clear hZ Z
 refine ANY_ready [7, 10] (by kernel_rfl) (by simp) ?_
 refine AnyAll.cons rfl (fun Z hZ => ?_) ?_
 simp [encG]
 refine RVn_callO 10 (by simp) (q7) ?_
 simp [encG]
 refine hZ _ ?_
 clear hZ Z
 refine ANY_one 10 (by kernel_rfl) rfl fun Z hZ => ?_
 simp [encG]
 refine hZ _ ?_
 clear hZ Z
 refine ANY_one 11 (by kernel_rfl) rfl fun Z hZ => ?_
 simp [encG]
 repeat refine sg ?_
 refine hZ _ ?_
 clear hZ Z
 refine ANY_one 12 (by kernel_rfl) rfl fun Z hZ => ?_
 simp [encG]
 refine hZ _ ?_
 clear hZ Z
 refine ANY_done (by kernel_rfl) ?_
 refine hK _ (by first | rfl | simp) ?_
 simp [tysG, e9]
 refine AnyAll.cons rfl (fun Z hZ => ?_) ?_
 simp [encG]
 refine hZ _ ?_
 clear hZ Z
 refine ANY_one 7 (by kernel_rfl) rfl fun Z hZ => ?_
 simp [encG]
 refine RVn_callO 10 (by simp) (q7) ?_
 simp [encG]
 refine hZ _ ?_
 clear hZ Z
 refine ANY_one 11 (by kernel_rfl) rfl fun Z hZ => ?_
 simp [encG]
 repeat refine sg ?_
 refine hZ _ ?_
 clear hZ Z
 refine ANY_one 12 (by kernel_rfl) rfl fun Z hZ => ?_
 simp [encG]
 refine hZ _ ?_
 clear hZ Z
 refine ANY_done (by kernel_rfl) ?_
 refine hK _ (by first | rfl | simp) ?_
 simp [tysG, e9]
 exact AnyAll.nil
 refine AnyAll.cons rfl (fun Z hZ => ?_) ?_
 simp [encG]
 refine hZ _ ?_
 clear hZ Z
 refine ANY_one 6 (by kernel_rfl) rfl fun Z hZ => ?_
 simp [encG]
 refine hZ _ ?_
 clear hZ Z
 refine ANY_one 7 (by kernel_rfl) rfl fun Z hZ => ?_
 simp [encG]
 refine RVn_callO 10 (by simp) (q7) ?_
 simp [encG]
 refine hZ _ ?_
 clear hZ Z
 refine ANY_one 11 (by kernel_rfl) rfl fun Z hZ => ?_
 simp [encG]
 repeat refine sg ?_
 refine hZ _ ?_
 clear hZ Z
 refine ANY_one 12 (by kernel_rfl) rfl fun Z hZ => ?_
 simp [encG]
 refine hZ _ ?_
 clear hZ Z
 refine ANY_done (by kernel_rfl) ?_
 refine hK _ (by first | rfl | simp) ?_
 simp [tysG, e9]
 exact AnyAll.nil
 refine AnyAll.cons rfl (fun Z hZ => ?_) ?_
 simp [encG]
 refine hZ _ ?_
 clear hZ Z
 refine ANY_one 5 (by kernel_rfl) rfl fun Z hZ => ?_
 simp [encG]
 refine RVn_call (q5) ?_
 simp [encG]
 refine hZ _ ?_
 clear hZ Z
 refine ANY_one 6 (by kernel_rfl) rfl fun Z hZ => ?_
 simp [encG]
 refine hZ _ ?_
 clear hZ Z
 refine ANY_one 7 (by kernel_rfl) rfl fun Z hZ => ?_
 simp [encG]
 refine RVn_callO 10 (by simp) (q7) ?_
 simp [encG]
 refine hZ _ ?_
 clear hZ Z
 refine ANY_one 11 (by kernel_rfl) rfl fun Z hZ => ?_
 simp [encG]
 repeat refine sg ?_
 refine hZ _ ?_
 clear hZ Z
 refine ANY_one 12 (by kernel_rfl) rfl fun Z hZ => ?_
 simp [encG]
 refine hZ _ ?_
 clear hZ Z
 refine ANY_done (by kernel_rfl) ?_
 refine hK _ (by first | rfl | simp) ?_
 simp [tysG, e9]
 exact AnyAll.nil
 refine AnyAll.cons rfl (fun Z hZ => ?_) ?_
 simp [encG]
 refine hZ _ ?_
 clear hZ Z
 refine ANY_one 2 (by kernel_rfl) rfl fun Z hZ => ?_
 simp [encG]
 refine RVn_call (q2) ?_
 simp [encG]
 refine hZ _ ?_
 clear hZ Z
 refine ANY_one 5 (by kernel_rfl) rfl fun Z hZ => ?_
 simp [encG]
 refine RVn_call (q5) ?_
 simp [encG]
 refine hZ _ ?_
 clear hZ Z
 refine ANY_one 6 (by kernel_rfl) rfl fun Z hZ => ?_
 simp [encG]
 refine hZ _ ?_
 clear hZ Z
 refine ANY_one 7 (by kernel_rfl) rfl fun Z hZ => ?_
 simp [encG]
 refine RVn_callO 10 (by simp) (q7) ?_
 simp [encG]
 refine hZ _ ?_
 clear hZ Z
 refine ANY_one 11 (by kernel_rfl) rfl fun Z hZ => ?_
 simp [encG]
 repeat refine sg ?_
 refine hZ _ ?_
 clear hZ Z
 refine ANY_one 12 (by kernel_rfl) rfl fun Z hZ => ?_
 simp [encG]
 refine hZ _ ?_
 clear hZ Z
 refine ANY_done (by kernel_rfl) ?_
 refine hK _ (by first | rfl | simp) ?_
 simp [tysG, e9]
 exact AnyAll.nil
 exact AnyAll.nil
 refine AnyAll.cons rfl (fun Z hZ => ?_) ?_
 simp [encG]
 refine hZ _ ?_
 clear hZ Z
 refine ANY_ready [1, 10] (by kernel_rfl) (by simp) ?_
 refine AnyAll.cons rfl (fun Z hZ => ?_) ?_
 simp [encG]
 refine hZ _ ?_
 clear hZ Z
 refine ANY_ready [2, 10] (by kernel_rfl) (by simp) ?_
 refine AnyAll.cons rfl (fun Z hZ => ?_) ?_
 simp [encG]
 refine RVn_call (q2) ?_
 simp [encG]
 refine hZ _ ?_
 clear hZ Z
 refine ANY_ready [5, 10] (by kernel_rfl) (by simp) ?_
 refine AnyAll.cons rfl (fun Z hZ => ?_) ?_
 simp [encG]
 refine RVn_call (q5) ?_
 simp [encG]
 refine hZ _ ?_
 clear hZ Z
 refine ANY_ready [6, 10] (by kernel_rfl) (by simp) ?_
 refine AnyAll.cons rfl (fun Z hZ => ?_) ?_
 simp [encG]
 refine hZ _ ?_
 clear hZ Z
 refine ANY_ready [7, 10] (by kernel_rfl) (by simp) ?_
 refine AnyAll.cons rfl (fun Z hZ => ?_) ?_
 simp [encG]
 refine RVn_callO 10 (by simp) (q7) ?_
 simp [encG]
 refine hZ _ ?_
 clear hZ Z
 refine ANY_one 10 (by kernel_rfl) rfl fun Z hZ => ?_
 simp [encG]
 refine hZ _ ?_
 clear hZ Z
 refine ANY_one 11 (by kernel_rfl) rfl fun Z hZ => ?_
 simp [encG]
 repeat refine sg ?_
 refine hZ _ ?_
 clear hZ Z
 refine ANY_one 12 (by kernel_rfl) rfl fun Z hZ => ?_
 simp [encG]
 refine hZ _ ?_
 clear hZ Z
 refine ANY_done (by kernel_rfl) ?_
 refine hK _ (by first | rfl | simp) ?_
 simp [tysG, e9]
 refine AnyAll.cons rfl (fun Z hZ => ?_) ?_
 simp [encG]
 refine hZ _ ?_
 clear hZ Z
 refine ANY_one 7 (by kernel_rfl) rfl fun Z hZ => ?_
 simp [encG]
 refine RVn_callO 10 (by simp) (q7) ?_
 simp [encG]
 refine hZ _ ?_
 clear hZ Z
 refine ANY_one 11 (by kernel_rfl) rfl fun Z hZ => ?_
 simp [encG]
 repeat refine sg ?_
 refine hZ _ ?_
 clear hZ Z
 refine ANY_one 12 (by kernel_rfl) rfl fun Z hZ => ?_
 simp [encG]
 refine hZ _ ?_
 clear hZ Z
 refine ANY_done (by kernel_rfl) ?_
 refine hK _ (by first | rfl | simp) ?_
 simp [tysG, e9]
 exact AnyAll.nil
 refine AnyAll.cons rfl (fun Z hZ => ?_) ?_
 simp [encG]
 refine hZ _ ?_
 clear hZ Z
 refine ANY_one 6 (by kernel_rfl) rfl fun Z hZ => ?_
 simp [encG]
 refine hZ _ ?_
 clear hZ Z
 refine ANY_one 7 (by kernel_rfl) rfl fun Z hZ => ?_
 simp [encG]
 refine RVn_callO 10 (by simp) (q7) ?_
 simp [encG]
 refine hZ _ ?_
 clear hZ Z
 refine ANY_one 11 (by kernel_rfl) rfl fun Z hZ => ?_
 simp [encG]
 repeat refine sg ?_
 refine hZ _ ?_
 clear hZ Z
 refine ANY_one 12 (by kernel_rfl) rfl fun Z hZ => ?_
 simp [encG]
 refine hZ _ ?_
 clear hZ Z
 refine ANY_done (by kernel_rfl) ?_
 refine hK _ (by first | rfl | simp) ?_
 simp [tysG, e9]
 exact AnyAll.nil
 refine AnyAll.cons rfl (fun Z hZ => ?_) ?_
 simp [encG]
 refine hZ _ ?_
 clear hZ Z
 refine ANY_one 5 (by kernel_rfl) rfl fun Z hZ => ?_
 simp [encG]
 refine RVn_call (q5) ?_
 simp [encG]
 refine hZ _ ?_
 clear hZ Z
 refine ANY_one 6 (by kernel_rfl) rfl fun Z hZ => ?_
 simp [encG]
 refine hZ _ ?_
 clear hZ Z
 refine ANY_one 7 (by kernel_rfl) rfl fun Z hZ => ?_
 simp [encG]
 refine RVn_callO 10 (by simp) (q7) ?_
 simp [encG]
 refine hZ _ ?_
 clear hZ Z
 refine ANY_one 11 (by kernel_rfl) rfl fun Z hZ => ?_
 simp [encG]
 repeat refine sg ?_
 refine hZ _ ?_
 clear hZ Z
 refine ANY_one 12 (by kernel_rfl) rfl fun Z hZ => ?_
 simp [encG]
 refine hZ _ ?_
 clear hZ Z
 refine ANY_done (by kernel_rfl) ?_
 refine hK _ (by first | rfl | simp) ?_
 simp [tysG, e9]
 exact AnyAll.nil
 refine AnyAll.cons rfl (fun Z hZ => ?_) ?_
 simp [encG]
 refine hZ _ ?_
 clear hZ Z
 refine ANY_one 2 (by kernel_rfl) rfl fun Z hZ => ?_
 simp [encG]
 refine RVn_call (q2) ?_
 simp [encG]
 refine hZ _ ?_
 clear hZ Z
 refine ANY_one 5 (by kernel_rfl) rfl fun Z hZ => ?_
 simp [encG]
 refine RVn_call (q5) ?_
 simp [encG]
 refine hZ _ ?_
 clear hZ Z
 refine ANY_one 6 (by kernel_rfl) rfl fun Z hZ => ?_
 simp [encG]
 refine hZ _ ?_
 clear hZ Z
 refine ANY_one 7 (by kernel_rfl) rfl fun Z hZ => ?_
 simp [encG]
 refine RVn_callO 10 (by simp) (q7) ?_
 simp [encG]
 refine hZ _ ?_
 clear hZ Z
 refine ANY_one 11 (by kernel_rfl) rfl fun Z hZ => ?_
 simp [encG]
 repeat refine sg ?_
 refine hZ _ ?_
 clear hZ Z
 refine ANY_one 12 (by kernel_rfl) rfl fun Z hZ => ?_
 simp [encG]
 refine hZ _ ?_
 clear hZ Z
 refine ANY_done (by kernel_rfl) ?_
 refine hK _ (by first | rfl | simp) ?_
 simp [tysG, e9]
 exact AnyAll.nil
 refine AnyAll.cons rfl (fun Z hZ => ?_) ?_
 simp [encG]
 refine hZ _ ?_
 clear hZ Z
 refine ANY_one 1 (by kernel_rfl) rfl fun Z hZ => ?_
 simp [encG]
 refine hZ _ ?_
 clear hZ Z
 refine ANY_one 2 (by kernel_rfl) rfl fun Z hZ => ?_
 simp [encG]
 refine RVn_call (q2) ?_
 simp [encG]
 refine hZ _ ?_
 clear hZ Z
 refine ANY_one 5 (by kernel_rfl) rfl fun Z hZ => ?_
 simp [encG]
 refine RVn_call (q5) ?_
 simp [encG]
 refine hZ _ ?_
 clear hZ Z
 refine ANY_one 6 (by kernel_rfl) rfl fun Z hZ => ?_
 simp [encG]
 refine hZ _ ?_
 clear hZ Z
 refine ANY_one 7 (by kernel_rfl) rfl fun Z hZ => ?_
 simp [encG]
 refine RVn_callO 10 (by simp) (q7) ?_
 simp [encG]
 refine hZ _ ?_
 clear hZ Z
 refine ANY_one 11 (by kernel_rfl) rfl fun Z hZ => ?_
 simp [encG]
 repeat refine sg ?_
 refine hZ _ ?_
 clear hZ Z
 refine ANY_one 12 (by kernel_rfl) rfl fun Z hZ => ?_
 simp [encG]
 refine hZ _ ?_
 clear hZ Z
 refine ANY_done (by kernel_rfl) ?_
 refine hK _ (by first | rfl | simp) ?_
 simp [tysG, e9]
 exact AnyAll.nil
 exact AnyAll.nil
 refine AnyAll.cons rfl (fun Z hZ => ?_) ?_
 simp [encG]
 refine hZ _ ?_
 clear hZ Z
 refine ANY_ready [1, 4, 10] (by kernel_rfl) (by simp) ?_
 refine AnyAll.cons rfl (fun Z hZ => ?_) ?_
 simp [encG]
 refine hZ _ ?_
 clear hZ Z
 refine ANY_ready [2, 4, 10] (by kernel_rfl) (by simp) ?_
 refine AnyAll.cons rfl (fun Z hZ => ?_) ?_
 simp [encG]
 refine RVn_call (q2) ?_
 simp [encG]
 refine hZ _ ?_
 clear hZ Z
 refine ANY_ready [4, 10] (by kernel_rfl) (by simp) ?_
 refine AnyAll.cons rfl (fun Z hZ => ?_) ?_
 simp [encG]
 refine hZ _ ?_
 clear hZ Z
 refine ANY_ready [5, 10] (by kernel_rfl) (by simp) ?_
 refine AnyAll.cons rfl (fun Z hZ => ?_) ?_
 simp [encG]
 refine RVn_call (q5) ?_
 simp [encG]
 refine hZ _ ?_
 clear hZ Z
 refine ANY_ready [6, 10] (by kernel_rfl) (by simp) ?_
 refine AnyAll.cons rfl (fun Z hZ => ?_) ?_
 simp [encG]
 refine hZ _ ?_
 clear hZ Z
 refine ANY_ready [7, 10] (by kernel_rfl) (by simp) ?_
 refine AnyAll.cons rfl (fun Z hZ => ?_) ?_
 simp [encG]
 refine RVn_callO 10 (by simp) (q7) ?_
 simp [encG]
 refine hZ _ ?_
 clear hZ Z
 refine ANY_one 10 (by kernel_rfl) rfl fun Z hZ => ?_
 simp [encG]
 refine hZ _ ?_
 clear hZ Z
 refine ANY_one 11 (by kernel_rfl) rfl fun Z hZ => ?_
 simp [encG]
 repeat refine sg ?_
 refine hZ _ ?_
 clear hZ Z
 refine ANY_one 12 (by kernel_rfl) rfl fun Z hZ => ?_
 simp [encG]
 refine hZ _ ?_
 clear hZ Z
 refine ANY_done (by kernel_rfl) ?_
 refine hK _ (by first | rfl | simp) ?_
 simp [tysG, e9]
 refine AnyAll.cons rfl (fun Z hZ => ?_) ?_
 simp [encG]
 refine hZ _ ?_
 clear hZ Z
 refine ANY_one 7 (by kernel_rfl) rfl fun Z hZ => ?_
 simp [encG]
 refine RVn_callO 10 (by simp) (q7) ?_
 simp [encG]
 refine hZ _ ?_
 clear hZ Z
 refine ANY_one 11 (by kernel_rfl) rfl fun Z hZ => ?_
 simp [encG]
 repeat refine sg ?_
 refine hZ _ ?_
 clear hZ Z
 refine ANY_one 12 (by kernel_rfl) rfl fun Z hZ => ?_
 simp [encG]
 refine hZ _ ?_
 clear hZ Z
 refine ANY_done (by kernel_rfl) ?_
 refine hK _ (by first | rfl | simp) ?_
 simp [tysG, e9]
 exact AnyAll.nil
 refine AnyAll.cons rfl (fun Z hZ => ?_) ?_
 simp [encG]
 refine hZ _ ?_
 clear hZ Z
 refine ANY_one 6 (by kernel_rfl) rfl fun Z hZ => ?_
 simp [encG]
 refine hZ _ ?_
 clear hZ Z
 refine ANY_one 7 (by kernel_rfl) rfl fun Z hZ => ?_
 simp [encG]
 refine RVn_callO 10 (by simp) (q7) ?_
 simp [encG]
 refine hZ _ ?_
 clear hZ Z
 refine ANY_one 11 (by kernel_rfl) rfl fun Z hZ => ?_
 simp [encG]
 repeat refine sg ?_
 refine hZ _ ?_
 clear hZ Z
 refine ANY_one 12 (by kernel_rfl) rfl fun Z hZ => ?_
 simp [encG]
 refine hZ _ ?_
 clear hZ Z
 refine ANY_done (by kernel_rfl) ?_
 refine hK _ (by first | rfl | simp) ?_
 simp [tysG, e9]
 exact AnyAll.nil
 refine AnyAll.cons rfl (fun Z hZ => ?_) ?_
 simp [encG]
 refine hZ _ ?_
 clear hZ Z
 refine ANY_one 5 (by kernel_rfl) rfl fun Z hZ => ?_
 simp [encG]
 refine RVn_call (q5) ?_
 simp [encG]
 refine hZ _ ?_
 clear hZ Z
 refine ANY_one 6 (by kernel_rfl) rfl fun Z hZ => ?_
 simp [encG]
 refine hZ _ ?_
 clear hZ Z
 refine ANY_one 7 (by kernel_rfl) rfl fun Z hZ => ?_
 simp [encG]
 refine RVn_callO 10 (by simp) (q7) ?_
 simp [encG]
 refine hZ _ ?_
 clear hZ Z
 refine ANY_one 11 (by kernel_rfl) rfl fun Z hZ => ?_
 simp [encG]
 repeat refine sg ?_
 refine hZ _ ?_
 clear hZ Z
 refine ANY_one 12 (by kernel_rfl) rfl fun Z hZ => ?_
 simp [encG]
 refine hZ _ ?_
 clear hZ Z
 refine ANY_done (by kernel_rfl) ?_
 refine hK _ (by first | rfl | simp) ?_
 simp [tysG, e9]
 exact AnyAll.nil
 refine AnyAll.cons rfl (fun Z hZ => ?_) ?_
 simp [encG]
 refine hZ _ ?_
 clear hZ Z
 refine ANY_one 4 (by kernel_rfl) rfl fun Z hZ => ?_
 simp [encG]
 refine hZ _ ?_
 clear hZ Z
 refine ANY_one 5 (by kernel_rfl) rfl fun Z hZ => ?_
 simp [encG]
 refine RVn_call (q5) ?_
 simp [encG]
 refine hZ _ ?_
 clear hZ Z
 refine ANY_one 6 (by kernel_rfl) rfl fun Z hZ => ?_
 simp [encG]
 refine hZ _ ?_
 clear hZ Z
 refine ANY_one 7 (by kernel_rfl) rfl fun Z hZ => ?_
 simp [encG]
 refine RVn_callO 10 (by simp) (q7) ?_
 simp [encG]
 refine hZ _ ?_
 clear hZ Z
 refine ANY_one 11 (by kernel_rfl) rfl fun Z hZ => ?_
 simp [encG]
 repeat refine sg ?_
 refine hZ _ ?_
 clear hZ Z
 refine ANY_one 12 (by kernel_rfl) rfl fun Z hZ => ?_
 simp [encG]
 refine hZ _ ?_
 clear hZ Z
 refine ANY_done (by kernel_rfl) ?_
 refine hK _ (by first | rfl | simp) ?_
 simp [tysG, e9]
 exact AnyAll.nil
 refine AnyAll.cons rfl (fun Z hZ => ?_) ?_
 simp [encG]
 refine hZ _ ?_
 clear hZ Z
 refine ANY_ready [2, 10] (by kernel_rfl) (by simp) ?_
 refine AnyAll.cons rfl (fun Z hZ => ?_) ?_
 simp [encG]
 refine RVn_call (q2) ?_
 simp [encG]
 refine hZ _ ?_
 clear hZ Z
 refine ANY_ready [5, 10] (by kernel_rfl) (by simp) ?_
 refine AnyAll.cons rfl (fun Z hZ => ?_) ?_
 simp [encG]
 refine RVn_call (q5) ?_
 simp [encG]
 refine hZ _ ?_
 clear hZ Z
 refine ANY_ready [6, 10] (by kernel_rfl) (by simp) ?_
 refine AnyAll.cons rfl (fun Z hZ => ?_) ?_
 simp [encG]
 refine hZ _ ?_
 clear hZ Z
 refine ANY_ready [7, 10] (by kernel_rfl) (by simp) ?_
 refine AnyAll.cons rfl (fun Z hZ => ?_) ?_
 simp [encG]
 refine RVn_callO 10 (by simp) (q7) ?_
 simp [encG]
 refine hZ _ ?_
 clear hZ Z
 refine ANY_one 10 (by kernel_rfl) rfl fun Z hZ => ?_
 simp [encG]
 refine hZ _ ?_
 clear hZ Z
 refine ANY_one 11 (by kernel_rfl) rfl fun Z hZ => ?_
 simp [encG]
 repeat refine sg ?_
 refine hZ _ ?_
 clear hZ Z
 refine ANY_one 12 (by kernel_rfl) rfl fun Z hZ => ?_
 simp [encG]
 refine hZ _ ?_
 clear hZ Z
 refine ANY_done (by kernel_rfl) ?_
 refine hK _ (by first | rfl | simp) ?_
 simp [tysG, e9]
 refine AnyAll.cons rfl (fun Z hZ => ?_) ?_
 simp [encG]
 refine hZ _ ?_
 clear hZ Z
 refine ANY_one 7 (by kernel_rfl) rfl fun Z hZ => ?_
 simp [encG]
 refine RVn_callO 10 (by simp) (q7) ?_
 simp [encG]
 refine hZ _ ?_
 clear hZ Z
 refine ANY_one 11 (by kernel_rfl) rfl fun Z hZ => ?_
 simp [encG]
 repeat refine sg ?_
 refine hZ _ ?_
 clear hZ Z
 refine ANY_one 12 (by kernel_rfl) rfl fun Z hZ => ?_
 simp [encG]
 refine hZ _ ?_
 clear hZ Z
 refine ANY_done (by kernel_rfl) ?_
 refine hK _ (by first | rfl | simp) ?_
 simp [tysG, e9]
 exact AnyAll.nil
 refine AnyAll.cons rfl (fun Z hZ => ?_) ?_
 simp [encG]
 refine hZ _ ?_
 clear hZ Z
 refine ANY_one 6 (by kernel_rfl) rfl fun Z hZ => ?_
 simp [encG]
 refine hZ _ ?_
 clear hZ Z
 refine ANY_one 7 (by kernel_rfl) rfl fun Z hZ => ?_
 simp [encG]
 refine RVn_callO 10 (by simp) (q7) ?_
 simp [encG]
 refine hZ _ ?_
 clear hZ Z
 refine ANY_one 11 (by kernel_rfl) rfl fun Z hZ => ?_
 simp [encG]
 repeat refine sg ?_
 refine hZ _ ?_
 clear hZ Z
 refine ANY_one 12 (by kernel_rfl) rfl fun Z hZ => ?_
 simp [encG]
 refine hZ _ ?_
 clear hZ Z
 refine ANY_done (by kernel_rfl) ?_
 refine hK _ (by first | rfl | simp) ?_
 simp [tysG, e9]
 exact AnyAll.nil
 refine AnyAll.cons rfl (fun Z hZ => ?_) ?_
 simp [encG]
 refine hZ _ ?_
 clear hZ Z
 refine ANY_one 5 (by kernel_rfl) rfl fun Z hZ => ?_
 simp [encG]
 refine RVn_call (q5) ?_
 simp [encG]
 refine hZ _ ?_
 clear hZ Z
 refine ANY_one 6 (by kernel_rfl) rfl fun Z hZ => ?_
 simp [encG]
 refine hZ _ ?_
 clear hZ Z
 refine ANY_one 7 (by kernel_rfl) rfl fun Z hZ => ?_
 simp [encG]
 refine RVn_callO 10 (by simp) (q7) ?_
 simp [encG]
 refine hZ _ ?_
 clear hZ Z
 refine ANY_one 11 (by kernel_rfl) rfl fun Z hZ => ?_
 simp [encG]
 repeat refine sg ?_
 refine hZ _ ?_
 clear hZ Z
 refine ANY_one 12 (by kernel_rfl) rfl fun Z hZ => ?_
 simp [encG]
 refine hZ _ ?_
 clear hZ Z
 refine ANY_done (by kernel_rfl) ?_
 refine hK _ (by first | rfl | simp) ?_
 simp [tysG, e9]
 exact AnyAll.nil
 refine AnyAll.cons rfl (fun Z hZ => ?_) ?_
 simp [encG]
 refine hZ _ ?_
 clear hZ Z
 refine ANY_one 2 (by kernel_rfl) rfl fun Z hZ => ?_
 simp [encG]
 refine RVn_call (q2) ?_
 simp [encG]
 refine hZ _ ?_
 clear hZ Z
 refine ANY_one 5 (by kernel_rfl) rfl fun Z hZ => ?_
 simp [encG]
 refine RVn_call (q5) ?_
 simp [encG]
 refine hZ _ ?_
 clear hZ Z
 refine ANY_one 6 (by kernel_rfl) rfl fun Z hZ => ?_
 simp [encG]
 refine hZ _ ?_
 clear hZ Z
 refine ANY_one 7 (by kernel_rfl) rfl fun Z hZ => ?_
 simp [encG]
 refine RVn_callO 10 (by simp) (q7) ?_
 simp [encG]
 refine hZ _ ?_
 clear hZ Z
 refine ANY_one 11 (by kernel_rfl) rfl fun Z hZ => ?_
 simp [encG]
 repeat refine sg ?_
 refine hZ _ ?_
 clear hZ Z
 refine ANY_one 12 (by kernel_rfl) rfl fun Z hZ => ?_
 simp [encG]
 refine hZ _ ?_
 clear hZ Z
 refine ANY_done (by kernel_rfl) ?_
 refine hK _ (by first | rfl | simp) ?_
 simp [tysG, e9]
 exact AnyAll.nil
 refine AnyAll.cons rfl (fun Z hZ => ?_) ?_
 simp [encG]
 refine hZ _ ?_
 clear hZ Z
 refine ANY_ready [2, 4] (by kernel_rfl) (by simp) ?_
 refine AnyAll.cons rfl (fun Z hZ => ?_) ?_
 simp [encG]
 refine RVn_call (q2) ?_
 simp [encG]
 refine hZ _ ?_
 clear hZ Z
 refine ANY_one 4 (by kernel_rfl) rfl fun Z hZ => ?_
 simp [encG]
 refine hZ _ ?_
 clear hZ Z
 refine ANY_one 5 (by kernel_rfl) rfl fun Z hZ => ?_
 simp [encG]
 refine RVn_call (q5) ?_
 simp [encG]
 refine hZ _ ?_
 clear hZ Z
 refine ANY_one 6 (by kernel_rfl) rfl fun Z hZ => ?_
 simp [encG]
 refine hZ _ ?_
 clear hZ Z
 refine ANY_one 7 (by kernel_rfl) rfl fun Z hZ => ?_
 simp [encG]
 refine RVn_callO 10 (by simp) (q7) ?_
 simp [encG]
 refine hZ _ ?_
 clear hZ Z
 refine ANY_one 11 (by kernel_rfl) rfl fun Z hZ => ?_
 simp [encG]
 repeat refine sg ?_
 refine hZ _ ?_
 clear hZ Z
 refine ANY_one 12 (by kernel_rfl) rfl fun Z hZ => ?_
 simp [encG]
 refine hZ _ ?_
 clear hZ Z
 refine ANY_done (by kernel_rfl) ?_
 refine hK _ (by first | rfl | simp) ?_
 simp [tysG, e9]
 refine AnyAll.cons rfl (fun Z hZ => ?_) ?_
 simp [encG]
 refine hZ _ ?_
 clear hZ Z
 refine ANY_one 2 (by kernel_rfl) rfl fun Z hZ => ?_
 simp [encG]
 refine RVn_call (q2) ?_
 simp [encG]
 refine hZ _ ?_
 clear hZ Z
 refine ANY_one 5 (by kernel_rfl) rfl fun Z hZ => ?_
 simp [encG]
 refine RVn_call (q5) ?_
 simp [encG]
 refine hZ _ ?_
 clear hZ Z
 refine ANY_one 6 (by kernel_rfl) rfl fun Z hZ => ?_
 simp [encG]
 refine hZ _ ?_
 clear hZ Z
 refine ANY_one 7 (by kernel_rfl) rfl fun Z hZ => ?_
 simp [encG]
 refine RVn_callO 10 (by simp) (q7) ?_
 simp [encG]
 refine hZ _ ?_
 clear hZ Z
 refine ANY_one 11 (by kernel_rfl) rfl fun Z hZ => ?_
 simp [encG]
 repeat refine sg ?_
 refine hZ _ ?_
 clear hZ Z
 refine ANY_one 12 (by kernel_rfl) rfl fun Z hZ => ?_
 simp [encG]
 refine hZ _ ?_
 clear hZ Z
 refine ANY_done (by kernel_rfl) ?_
 refine hK _ (by first | rfl | simp) ?_
 simp [tysG, e9]
 exact AnyAll.nil
 exact AnyAll.nil
 refine AnyAll.cons rfl (fun Z hZ => ?_) ?_
 simp [encG]
 refine hZ _ ?_
 clear hZ Z
 refine ANY_ready [1, 10] (by kernel_rfl) (by simp) ?_
 refine AnyAll.cons rfl (fun Z hZ => ?_) ?_
 simp [encG]
 refine hZ _ ?_
 clear hZ Z
 refine ANY_ready [2, 10] (by kernel_rfl) (by simp) ?_
 refine AnyAll.cons rfl (fun Z hZ => ?_) ?_
 simp [encG]
 refine RVn_call (q2) ?_
 simp [encG]
 refine hZ _ ?_
 clear hZ Z
 refine ANY_ready [5, 10] (by kernel_rfl) (by simp) ?_
 refine AnyAll.cons rfl (fun Z hZ => ?_) ?_
 simp [encG]
 refine RVn_call (q5) ?_
 simp [encG]
 refine hZ _ ?_
 clear hZ Z
 refine ANY_ready [6, 10] (by kernel_rfl) (by simp) ?_
 refine AnyAll.cons rfl (fun Z hZ => ?_) ?_
 simp [encG]
 refine hZ _ ?_
 clear hZ Z
 refine ANY_ready [7, 10] (by kernel_rfl) (by simp) ?_
 refine AnyAll.cons rfl (fun Z hZ => ?_) ?_
 simp [encG]
 refine RVn_callO 10 (by simp) (q7) ?_
 simp [encG]
 refine hZ _ ?_
 clear hZ Z
 refine ANY_one 10 (by kernel_rfl) rfl fun Z hZ => ?_
 simp [encG]
 refine hZ _ ?_
 clear hZ Z
 refine ANY_one 11 (by kernel_rfl) rfl fun Z hZ => ?_
 simp [encG]
 repeat refine sg ?_
 refine hZ _ ?_
 clear hZ Z
 refine ANY_one 12 (by kernel_rfl) rfl fun Z hZ => ?_
 simp [encG]
 refine hZ _ ?_
 clear hZ Z
 refine ANY_done (by kernel_rfl) ?_
 refine hK _ (by first | rfl | simp) ?_
 simp [tysG, e9]
 refine AnyAll.cons rfl (fun Z hZ => ?_) ?_
 simp [encG]
 refine hZ _ ?_
 clear hZ Z
 refine ANY_one 7 (by kernel_rfl) rfl fun Z hZ => ?_
 simp [encG]
 refine RVn_callO 10 (by simp) (q7) ?_
 simp [encG]
 refine hZ _ ?_
 clear hZ Z
 refine ANY_one 11 (by kernel_rfl) rfl fun Z hZ => ?_
 simp [encG]
 repeat refine sg ?_
 refine hZ _ ?_
 clear hZ Z
 refine ANY_one 12 (by kernel_rfl) rfl fun Z hZ => ?_
 simp [encG]
 refine hZ _ ?_
 clear hZ Z
 refine ANY_done (by kernel_rfl) ?_
 refine hK _ (by first | rfl | simp) ?_
 simp [tysG, e9]
 exact AnyAll.nil
 refine AnyAll.cons rfl (fun Z hZ => ?_) ?_
 simp [encG]
 refine hZ _ ?_
 clear hZ Z
 refine ANY_one 6 (by kernel_rfl) rfl fun Z hZ => ?_
 simp [encG]
 refine hZ _ ?_
 clear hZ Z
 refine ANY_one 7 (by kernel_rfl) rfl fun Z hZ => ?_
 simp [encG]
 refine RVn_callO 10 (by simp) (q7) ?_
 simp [encG]
 refine hZ _ ?_
 clear hZ Z
 refine ANY_one 11 (by kernel_rfl) rfl fun Z hZ => ?_
 simp [encG]
 repeat refine sg ?_
 refine hZ _ ?_
 clear hZ Z
 refine ANY_one 12 (by kernel_rfl) rfl fun Z hZ => ?_
 simp [encG]
 refine hZ _ ?_
 clear hZ Z
 refine ANY_done (by kernel_rfl) ?_
 refine hK _ (by first | rfl | simp) ?_
 simp [tysG, e9]
 exact AnyAll.nil
 refine AnyAll.cons rfl (fun Z hZ => ?_) ?_
 simp [encG]
 refine hZ _ ?_
 clear hZ Z
 refine ANY_one 5 (by kernel_rfl) rfl fun Z hZ => ?_
 simp [encG]
 refine RVn_call (q5) ?_
 simp [encG]
 refine hZ _ ?_
 clear hZ Z
 refine ANY_one 6 (by kernel_rfl) rfl fun Z hZ => ?_
 simp [encG]
 refine hZ _ ?_
 clear hZ Z
 refine ANY_one 7 (by kernel_rfl) rfl fun Z hZ => ?_
 simp [encG]
 refine RVn_callO 10 (by simp) (q7) ?_
 simp [encG]
 refine hZ _ ?_
 clear hZ Z
 refine ANY_one 11 (by kernel_rfl) rfl fun Z hZ => ?_
 simp [encG]
 repeat refine sg ?_
 refine hZ _ ?_
 clear hZ Z
 refine ANY_one 12 (by kernel_rfl) rfl fun Z hZ => ?_
 simp [encG]
 refine hZ _ ?_
 clear hZ Z
 refine ANY_done (by kernel_rfl) ?_
 refine hK _ (by first | rfl | simp) ?_
 simp [tysG, e9]
 exact AnyAll.nil
 refine AnyAll.cons rfl (fun Z hZ => ?_) ?_
 simp [encG]
 refine hZ _ ?_
 clear hZ Z
 refine ANY_one 2 (by kernel_rfl) rfl fun Z hZ => ?_
 simp [encG]
 refine RVn_call (q2) ?_
 simp [encG]
 refine hZ _ ?_
 clear hZ Z
 refine ANY_one 5 (by kernel_rfl) rfl fun Z hZ => ?_
 simp [encG]
 refine RVn_call (q5) ?_
 simp [encG]
 refine hZ _ ?_
 clear hZ Z
 refine ANY_one 6 (by kernel_rfl) rfl fun Z hZ => ?_
 simp [encG]
 refine hZ _ ?_
 clear hZ Z
 refine ANY_one 7 (by kernel_rfl) rfl fun Z hZ => ?_
 simp [encG]
 refine RVn_callO 10 (by simp) (q7) ?_
 simp [encG]
 refine hZ _ ?_
 clear hZ Z
 refine ANY_one 11 (by kernel_rfl) rfl fun Z hZ => ?_
 simp [encG]
 repeat refine sg ?_
 refine hZ _ ?_
 clear hZ Z
 refine ANY_one 12 (by kernel_rfl) rfl fun Z hZ => ?_
 simp [encG]
 refine hZ _ ?_
 clear hZ Z
 refine ANY_done (by kernel_rfl) ?_
 refine hK _ (by first | rfl | simp) ?_
 simp [tysG, e9]
 exact AnyAll.nil
 refine AnyAll.cons rfl (fun Z hZ => ?_) ?_
 simp [encG]
 refine hZ _ ?_
 clear hZ Z
 refine ANY_one 1 (by kernel_rfl) rfl fun Z hZ => ?_
 simp [encG]
 refine hZ _ ?_
 clear hZ Z
 refine ANY_one 2 (by kernel_rfl) rfl fun Z hZ => ?_
 simp [encG]
 refine RVn_call (q2) ?_
 simp [encG]
 refine hZ _ ?_
 clear hZ Z
 refine ANY_one 5 (by kernel_rfl) rfl fun Z hZ => ?_
 simp [encG]
 refine RVn_call (q5) ?_
 simp [encG]
 refine hZ _ ?_
 clear hZ Z
 refine ANY_one 6 (by kernel_rfl) rfl fun Z hZ => ?_
 simp [encG]
 refine hZ _ ?_
 clear hZ Z
 refine ANY_one 7 (by kernel_rfl) rfl fun Z hZ => ?_
 simp [encG]
 refine RVn_callO 10 (by simp) (q7) ?_
 simp [encG]
 refine hZ _ ?_
 clear hZ Z
 refine ANY_one 11 (by kernel_rfl) rfl fun Z hZ => ?_
 simp [encG]
 repeat refine sg ?_
 refine hZ _ ?_
 clear hZ Z
 refine ANY_one 12 (by kernel_rfl) rfl fun Z hZ => ?_
 simp [encG]
 refine hZ _ ?_
 clear hZ Z
 refine ANY_done (by kernel_rfl) ?_
 refine hK _ (by first | rfl | simp) ?_
 simp [tysG, e9]
 exact AnyAll.nil
 refine AnyAll.cons rfl (fun Z hZ => ?_) ?_
 simp [encG]
 refine hZ _ ?_
 clear hZ Z
 refine ANY_ready [1, 4] (by kernel_rfl) (by simp) ?_
 refine AnyAll.cons rfl (fun Z hZ => ?_) ?_
 simp [encG]
 refine hZ _ ?_
 clear hZ Z
 refine ANY_ready [2, 4] (by kernel_rfl) (by simp) ?_
 refine AnyAll.cons rfl (fun Z hZ => ?_) ?_
 simp [encG]
 refine RVn_call (q2) ?_
 simp [encG]
 refine hZ _ ?_
 clear hZ Z
 refine ANY_one 4 (by kernel_rfl) rfl fun Z hZ => ?_
 simp [encG]
 refine hZ _ ?_
 clear hZ Z
 refine ANY_one 5 (by kernel_rfl) rfl fun Z hZ => ?_
 simp [encG]
 refine RVn_call (q5) ?_
 simp [encG]
 refine hZ _ ?_
 clear hZ Z
 refine ANY_one 6 (by kernel_rfl) rfl fun Z hZ => ?_
 simp [encG]
 refine hZ _ ?_
 clear hZ Z
 refine ANY_one 7 (by kernel_rfl) rfl fun Z hZ => ?_
 simp [encG]
 refine RVn_callO 10 (by simp) (q7) ?_
 simp [encG]
 refine hZ _ ?_
 clear hZ Z
 refine ANY_one 11 (by kernel_rfl) rfl fun Z hZ => ?_
 simp [encG]
 repeat refine sg ?_
 refine hZ _ ?_
 clear hZ Z
 refine ANY_one 12 (by kernel_rfl) rfl fun Z hZ => ?_
 simp [encG]
 refine hZ _ ?_
 clear hZ Z
 refine ANY_done (by kernel_rfl) ?_
 refine hK _ (by first | rfl | simp) ?_
 simp [tysG, e9]
 refine AnyAll.cons rfl (fun Z hZ => ?_) ?_
 simp [encG]
 refine hZ _ ?_
 clear hZ Z
 refine ANY_one 2 (by kernel_rfl) rfl fun Z hZ => ?_
 simp [encG]
 refine RVn_call (q2) ?_
 simp [encG]
 refine hZ _ ?_
 clear hZ Z
 refine ANY_one 5 (by kernel_rfl) rfl fun Z hZ => ?_
 simp [encG]
 refine RVn_call (q5) ?_
 simp [encG]
 refine hZ _ ?_
 clear hZ Z
 refine ANY_one 6 (by kernel_rfl) rfl fun Z hZ => ?_
 simp [encG]
 refine hZ _ ?_
 clear hZ Z
 refine ANY_one 7 (by kernel_rfl) rfl fun Z hZ => ?_
 simp [encG]
 refine RVn_callO 10 (by simp) (q7) ?_
 simp [encG]
 refine hZ _ ?_
 clear hZ Z
 refine ANY_one 11 (by kernel_rfl) rfl fun Z hZ => ?_
 simp [encG]
 repeat refine sg ?_
 refine hZ _ ?_
 clear hZ Z
 refine ANY_one 12 (by kernel_rfl) rfl fun Z hZ => ?_
 simp [encG]
 refine hZ _ ?_
 clear hZ Z
 refine ANY_done (by kernel_rfl) ?_
 refine hK _ (by first | rfl | simp) ?_
 simp [tysG, e9]
 exact AnyAll.nil
 refine AnyAll.cons rfl (fun Z hZ => ?_) ?_
 simp [encG]
 refine hZ _ ?_
 clear hZ Z
 refine ANY_one 1 (by kernel_rfl) rfl fun Z hZ => ?_
 simp [encG]
 refine hZ _ ?_
 clear hZ Z
 refine ANY_one 2 (by kernel_rfl) rfl fun Z hZ => ?_
 simp [encG]
 refine RVn_call (q2) ?_
 simp [encG]
 refine hZ _ ?_
 clear hZ Z
 refine ANY_one 5 (by kernel_rfl) rfl fun Z hZ => ?_
 simp [encG]
 refine RVn_call (q5) ?_
 simp [encG]
 refine hZ _ ?_
 clear hZ Z
 refine ANY_one 6 (by kernel_rfl) rfl fun Z hZ => ?_
 simp [encG]
 refine hZ _ ?_
 clear hZ Z
 refine ANY_one 7 (by kernel_rfl) rfl fun Z hZ => ?_
 simp [encG]
 refine RVn_callO 10 (by simp) (q7) ?_
 simp [encG]
 refine hZ _ ?_
 clear hZ Z
 refine ANY_one 11 (by kernel_rfl) rfl fun Z hZ => ?_
 simp [encG]
 repeat refine sg ?_
 refine hZ _ ?_
 clear hZ Z
 refine ANY_one 12 (by kernel_rfl) rfl fun Z hZ => ?_
 simp [encG]
 refine hZ _ ?_
 clear hZ Z
 refine ANY_done (by kernel_rfl) ?_
 refine hK _ (by first | rfl | simp) ?_
 simp [tysG, e9]
 exact AnyAll.nil
 exact AnyAll.nil
 exact AnyAll.nil
 rintro _ rfl
 refine AT_ret ?_
 simp [encG, Tryz.f58]

theorem c_decl_sig (s : Sg) (hw : wtG s ≤ 400000000) : Valid Tryz.prog (G0 g rnd) 58 [.agg (encG s)] (.slice ((tysG s).map encTy)) := (c_decl_sig_z g s hw).gl rfl

end Go.Proofs.YtdifpfehijnmiaaGreatDoor

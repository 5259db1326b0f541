import Derived.Test.YtdifpfehijnmiaaGreatDoorPt
import Derived.Test.YtdifpfehijnmiaaGreatDoorPvPb
import Derived.Test.YtdifpfehijnmiaaGreatDoorPvY
import Derived.Test.YtdifpfehijnmiaaGreatDoorXDcH
import Derived.Test.YtdifpfehijnmiaaGreatDoorPvP
import Derived.Test.YtdifpfehijnmiaaGreatDoorXExE
import Derived.Test.YtdifpfehijnmiaaGreatDoorXExD
import Derived.Test.YtdifpfehijnmiaaGreatDoorXTyI
section
/- Contracts: the types of an expression. -/
set_option linter.all false
set_option maxHeartbeats 1000000
set_option maxRecDepth 10000
namespace Go.Proofs.YtdifpfehijnmiaaGreatDoor
open Go Go.Pv
variable (g : Nat → Option (List AV)) (rnd : Bool)

theorem c_decl_body_z (e : Exp) (hw : wtE e ≤ 1000000000) : Valid Tryz.prog (G0 g false) 59 [.agg (encE e)] (.slice ((tysE e).map encTy)) := by

 refine valid_of [(103000, 28)] Tryz.func59 rfl (by kernel_rfl) ?_
 refine sr fun Z z => ?_
 simp [row_map, encE_mk, encTy_def, Tryz.f59]
 refine z _ ?_
 clear z Z
 refine sr fun Z z => ?_
 simp [row_map, encE_mk, encTy_def]
 refine z _ ?_
 clear z Z
 refine AT_seq_k fun K1 hK1 => ?_
 refine sr fun Z z => ?_
 simp [row_map, encE_mk, encTy_def]
 refine RVn_call (c_expr_All g false e) ?_
 simp [row_map, encE_mk, encTy_def]
 refine z _ ?_
 clear z Z
 refine AT_block ?_
 refine AT_keep [3,6] [3] (by first | rfl | simp) ?_
 refine AT_rangeFunc rfl rfl (by first | rfl | simp) (by first | decide | simp) [3] (by decide) (elP ((lstE e).map avE)) (fun _ _ => true) (feedG (fun _ _ => true) [] ((lstE e).map avE)) (fun Y hP hgo hel => ⟨_, by have h := c_expr_All_1 g Y hP e hw [] (elOk_P hel _ _ (by simp)); rw [feed_G, hgo] at h; exact h⟩) (fun s => { n := 28, tm := [(3, .lp 3 0), (6, .v (.func 108 [.ro (encE e)]) none)], bx := [(3, [.slice ((flT (bodL e) s.length).map encTy)])], tb := [(3, 0, 103000, 28)], sh := [], hint := [(103000, 28)] }) (by first | rfl | simp [flT_nil]) ?_ ?_
 intro s x hel
 obtain ⟨hs, rfl⟩ := elP_getE hel
 have hb9 := bod_le e s.length hs
 have hg9 := flT_len (bodL e) s.length
 have ht9 := ta_le (lstE e)[s.length]
 have hu9 := bod_succ e s.length hs
 generalize (lstE e)[s.length] = x at hb9 ht9 hu9 ⊢
 obtain ⟨kd, nm, ⟨tn, tas, tp⟩, ta, ks, ps⟩ := x
 have ht9 : ta.length ≤ _ := ht9
 refine AT_region_q fun Z z => ?_
 simp [row_map, encE_mk, encTy_def]
 refine z _ ?_
 clear z Z
 refine AT_block ?_
 refine sr fun Z z => ?_
 simp [row_map, encE_mk, encTy_def]
 repeat refine sg ?_
 refine z _ ?_
 clear z Z
 cases h3 : (kd == 3)
 cases h5 : (kd == 5)
 have hp9 : partsE (.mk kd nm (.mk tn tas tp) ta ks ps) = ta := partsE_no (by simp [typedE, h3, h5])
 rw [hp9] at hu9 hb9
 refine sr fun Z z => ?_
 simp [row_map, encE_mk, encTy_def, h3, h5]
 refine z _ ?_
 clear z Z
 refine cF (by simp [h3, h5]) ?_
 refine AT_skip ?_
 refine ⟨rfl, by first | rfl | simp [tmOk], [3], by first | rfl | simp, ?_⟩
 simp [AS.out, hu9, encTy_mk]
 have hp9 : partsE (.mk kd nm (.mk tn tas tp) ta ks ps) = ta ++ [.mk tn tas tp] := partsE_yes (by simp [typedE, h5])
 rw [hp9] at hu9 hb9
 simp only [List.length_append, List.length_cons, List.length_nil] at hb9
 refine sr fun Z z => ?_
 simp [row_map, encE_mk, encTy_def, h3, h5]
 refine z _ ?_
 clear z Z
 refine cT (by simp [h3, h5]) ?_
 refine AT_any_q [3] [3] (fun z9 => z9 = { n := 28, tm := [(3, .lp 3 0)], bx := [(3, [.slice ((flT (bodL e) (s.length + 1)).map encTy)])], tb := [(3, 0, 103000, 28)], sh := [], hint := [(103000, 28)], fx := [3] }) Pt.mixed (fun K hK hQ => ?_) ?_
 refine ANY_have (fun ops => PushOps ops #[true, true, true, true, true, false, false, false, false] 5 6 7 8 26 28 20 24 23 22 3 25 26) ⟨⟨_, rfl, rfl, rfl, rfl⟩, ⟨_, rfl, rfl, rfl, rfl⟩, ⟨_, rfl, rfl, rfl, rfl⟩, ⟨_, rfl, rfl, rfl, rfl⟩, by kernel_rfl, by kernel_rfl, by kernel_rfl, by kernel_rfl, by kernel_rfl, by kernel_rfl, by kernel_rfl, by kernel_rfl, by kernel_rfl, by kernel_rfl, by decide⟩ fun hpo => ?_
 refine ANY_ready [0, 1, 4] (by kernel_rfl) (by simp) ?_
 refine AnyAll.cons rfl (fun Z hZ => ?_) ?_
 simp [row_map, encE_mk, encTy_def, h3, h5]
 refine hZ _ ?_
 clear hZ Z
 refine ANY_ready [1, 3, 4] (by kernel_rfl) (by simp) ?_
 refine AnyAll.cons rfl (fun Z hZ => ?_) ?_
 simp [row_map, encE_mk, encTy_def, h3, h5]
 refine hZ _ ?_
 clear hZ Z
 refine ANY_ready [2, 3, 4] (by kernel_rfl) (by simp) ?_
 refine AnyAll.cons rfl (fun Z hZ => ?_) ?_
 simp [row_map, encE_mk, encTy_def, h3, h5]
 refine hZ _ ?_
 clear hZ Z
 refine ANY_ready [3, 4] (by kernel_rfl) (by simp) ?_
 refine AnyAll.cons rfl (fun Z hZ => ?_) ?_
 simp [row_map, encE_mk, encTy_def, h3, h5]
 refine hZ _ ?_
 clear hZ Z
 refine ANY_one 4 (by kernel_rfl) rfl fun Z hZ => ?_
 simp [row_map, encE_mk, encTy_def, h3, h5]
 refine hZ _ ?_
 clear hZ Z
 refine ANY_push2 hpo (by kernel_rfl) rfl rfl rfl rfl rfl rfl ⟨by kernel_rfl, by kernel_rfl⟩ (by refine ⟨?_, ?_, ?_, ?_, ⟨none, ?_⟩, ?_, ?_, ?_, ?_, ?_, ?_⟩ <;> simp [row_map, encE_mk, encTy_def, h3, h5] <;> omega) ?_
 simp [row_map, encE_mk, encTy_def, h3, h5]
 refine hK _ (by first | rfl | simp) ?_
 simp [hu9, encTy_mk]
 refine AnyAll.cons rfl (fun Z hZ => ?_) ?_
 simp [row_map, encE_mk, encTy_def, h3, h5]
 refine hZ _ ?_
 clear hZ Z
 refine ANY_one 3 (by kernel_rfl) rfl fun Z hZ => ?_
 simp [row_map, encE_mk, encTy_def, h3, h5]
 refine hZ _ ?_
 clear hZ Z
 refine ANY_push2 hpo (by kernel_rfl) rfl rfl rfl rfl rfl rfl ⟨by kernel_rfl, by kernel_rfl⟩ (by refine ⟨?_, ?_, ?_, ?_, ⟨none, ?_⟩, ?_, ?_, ?_, ?_, ?_, ?_⟩ <;> simp [row_map, encE_mk, encTy_def, h3, h5] <;> omega) ?_
 simp [row_map, encE_mk, encTy_def, h3, h5]
 refine hK _ (by first | rfl | simp) ?_
 simp [hu9, encTy_mk]
 exact AnyAll.nil
 refine AnyAll.cons rfl (fun Z hZ => ?_) ?_
 simp [row_map, encE_mk, encTy_def, h3, h5]
 refine hZ _ ?_
 clear hZ Z
 refine ANY_ready [2, 4] (by kernel_rfl) (by simp) ?_
 refine AnyAll.cons rfl (fun Z hZ => ?_) ?_
 simp [row_map, encE_mk, encTy_def, h3, h5]
 refine hZ _ ?_
 clear hZ Z
 refine ANY_one 4 (by kernel_rfl) rfl fun Z hZ => ?_
 simp [row_map, encE_mk, encTy_def, h3, h5]
 refine hZ _ ?_
 clear hZ Z
 refine ANY_push2 hpo (by kernel_rfl) rfl rfl rfl rfl rfl rfl ⟨by kernel_rfl, by kernel_rfl⟩ (by refine ⟨?_, ?_, ?_, ?_, ⟨none, ?_⟩, ?_, ?_, ?_, ?_, ?_, ?_⟩ <;> simp [row_map, encE_mk, encTy_def, h3, h5] <;> omega) ?_
 simp [row_map, encE_mk, encTy_def, h3, h5]
 refine hK _ (by first | rfl | simp) ?_
 simp [hu9, encTy_mk]
 refine AnyAll.cons rfl (fun Z hZ => ?_) ?_
 simp [row_map, encE_mk, encTy_def, h3, h5]
 refine hZ _ ?_
 clear hZ Z
 refine ANY_one 2 (by kernel_rfl) rfl fun Z hZ => ?_
 simp [row_map, encE_mk, encTy_def, h3, h5]
 refine hZ _ ?_
 clear hZ Z
 refine ANY_push2 hpo (by kernel_rfl) rfl rfl rfl rfl rfl rfl ⟨by kernel_rfl, by kernel_rfl⟩ (by refine ⟨?_, ?_, ?_, ?_, ⟨none, ?_⟩, ?_, ?_, ?_, ?_, ?_, ?_⟩ <;> simp [row_map, encE_mk, encTy_def, h3, h5] <;> omega) ?_
 simp [row_map, encE_mk, encTy_def, h3, h5]
 refine hK _ (by first | rfl | simp) ?_
 simp [hu9, encTy_mk]
 exact AnyAll.nil
 refine AnyAll.cons rfl (fun Z hZ => ?_) ?_
 simp [row_map, encE_mk, encTy_def, h3, h5]
 refine hZ _ ?_
 clear hZ Z
 refine ANY_ready [2, 3] (by kernel_rfl) (by simp) ?_
 refine AnyAll.cons rfl (fun Z hZ => ?_) ?_
 simp [row_map, encE_mk, encTy_def, h3, h5]
 refine hZ _ ?_
 clear hZ Z
 refine ANY_one 3 (by kernel_rfl) rfl fun Z hZ => ?_
 simp [row_map, encE_mk, encTy_def, h3, h5]
 refine hZ _ ?_
 clear hZ Z
 refine ANY_push2 hpo (by kernel_rfl) rfl rfl rfl rfl rfl rfl ⟨by kernel_rfl, by kernel_rfl⟩ (by refine ⟨?_, ?_, ?_, ?_, ⟨none, ?_⟩, ?_, ?_, ?_, ?_, ?_, ?_⟩ <;> simp [row_map, encE_mk, encTy_def, h3, h5] <;> omega) ?_
 simp [row_map, encE_mk, encTy_def, h3, h5]
 refine hK _ (by first | rfl | simp) ?_
 simp [hu9, encTy_mk]
 refine AnyAll.cons rfl (fun Z hZ => ?_) ?_
 simp [row_map, encE_mk, encTy_def, h3, h5]
 refine hZ _ ?_
 clear hZ Z
 refine ANY_one 2 (by kernel_rfl) rfl fun Z hZ => ?_
 simp [row_map, encE_mk, encTy_def, h3, h5]
 refine hZ _ ?_
 clear hZ Z
 refine ANY_push2 hpo (by kernel_rfl) rfl rfl rfl rfl rfl rfl ⟨by kernel_rfl, by kernel_rfl⟩ (by refine ⟨?_, ?_, ?_, ?_, ⟨none, ?_⟩, ?_, ?_, ?_, ?_, ?_, ?_⟩ <;> simp [row_map, encE_mk, encTy_def, h3, h5] <;> omega) ?_
 simp [row_map, encE_mk, encTy_def, h3, h5]
 refine hK _ (by first | rfl | simp) ?_
 simp [hu9, encTy_mk]
 exact AnyAll.nil
 exact AnyAll.nil
 refine AnyAll.cons rfl (fun Z hZ => ?_) ?_
 simp [row_map, encE_mk, encTy_def, h3, h5]
 refine hZ _ ?_
 clear hZ Z
 refine ANY_ready [1, 4] (by kernel_rfl) (by simp) ?_
 refine AnyAll.cons rfl (fun Z hZ => ?_) ?_
 simp [row_map, encE_mk, encTy_def, h3, h5]
 refine hZ _ ?_
 clear hZ Z
 refine ANY_ready [2, 4] (by kernel_rfl) (by simp) ?_
 refine AnyAll.cons rfl (fun Z hZ => ?_) ?_
 simp [row_map, encE_mk, encTy_def, h3, h5]
 refine hZ _ ?_
 clear hZ Z
 refine ANY_one 4 (by kernel_rfl) rfl fun Z hZ => ?_
 simp [row_map, encE_mk, encTy_def, h3, h5]
 refine hZ _ ?_
 clear hZ Z
 refine ANY_push2 hpo (by kernel_rfl) rfl rfl rfl rfl rfl rfl ⟨by kernel_rfl, by kernel_rfl⟩ (by refine ⟨?_, ?_, ?_, ?_, ⟨none, ?_⟩, ?_, ?_, ?_, ?_, ?_, ?_⟩ <;> simp [row_map, encE_mk, encTy_def, h3, h5] <;> omega) ?_
 simp [row_map, encE_mk, encTy_def, h3, h5]
 refine hK _ (by first | rfl | simp) ?_
 simp [hu9, encTy_mk]
 refine AnyAll.cons rfl (fun Z hZ => ?_) ?_
 simp [row_map, encE_mk, encTy_def, h3, h5]
 refine hZ _ ?_
 clear hZ Z
 refine ANY_one 2 (by kernel_rfl) rfl fun Z hZ => ?_
 simp [row_map, encE_mk, encTy_def, h3, h5]
 refine hZ _ ?_
 clear hZ Z
 refine ANY_push2 hpo (by kernel_rfl) rfl rfl rfl rfl rfl rfl ⟨by kernel_rfl, by kernel_rfl⟩ (by refine ⟨?_, ?_, ?_, ?_, ⟨none, ?_⟩, ?_, ?_, ?_, ?_, ?_, ?_⟩ <;> simp [row_map, encE_mk, encTy_def, h3, h5] <;> omega) ?_
 simp [row_map, encE_mk, encTy_def, h3, h5]
 refine hK _ (by first | rfl | simp) ?_
 simp [hu9, encTy_mk]
 exact AnyAll.nil
 refine AnyAll.cons rfl (fun Z hZ => ?_) ?_
 simp [row_map, encE_mk, encTy_def, h3, h5]
 refine hZ _ ?_
 clear hZ Z
 refine ANY_one 1 (by kernel_rfl) rfl fun Z hZ => ?_
 simp [row_map, encE_mk, encTy_def, h3, h5]
 refine hZ _ ?_
 clear hZ Z
 refine ANY_one 2 (by kernel_rfl) rfl fun Z hZ => ?_
 simp [row_map, encE_mk, encTy_def, h3, h5]
 refine hZ _ ?_
 clear hZ Z
 refine ANY_push2 hpo (by kernel_rfl) rfl rfl rfl rfl rfl rfl ⟨by kernel_rfl, by kernel_rfl⟩ (by refine ⟨?_, ?_, ?_, ?_, ⟨none, ?_⟩, ?_, ?_, ?_, ?_, ?_, ?_⟩ <;> simp [row_map, encE_mk, encTy_def, h3, h5] <;> omega) ?_
 simp [row_map, encE_mk, encTy_def, h3, h5]
 refine hK _ (by first | rfl | simp) ?_
 simp [hu9, encTy_mk]
 exact AnyAll.nil
 refine AnyAll.cons rfl (fun Z hZ => ?_) ?_
 simp [row_map, encE_mk, encTy_def, h3, h5]
 refine hZ _ ?_
 clear hZ Z
 refine ANY_ready [1, 3] (by kernel_rfl) (by simp) ?_
 refine AnyAll.cons rfl (fun Z hZ => ?_) ?_
 simp [row_map, encE_mk, encTy_def, h3, h5]
 refine hZ _ ?_
 clear hZ Z
 refine ANY_ready [2, 3] (by kernel_rfl) (by simp) ?_
 refine AnyAll.cons rfl (fun Z hZ => ?_) ?_
 simp [row_map, encE_mk, encTy_def, h3, h5]
 refine hZ _ ?_
 clear hZ Z
 refine ANY_one 3 (by kernel_rfl) rfl fun Z hZ => ?_
 simp [row_map, encE_mk, encTy_def, h3, h5]
 refine hZ _ ?_
 clear hZ Z
 refine ANY_push2 hpo (by kernel_rfl) rfl rfl rfl rfl rfl rfl ⟨by kernel_rfl, by kernel_rfl⟩ (by refine ⟨?_, ?_, ?_, ?_, ⟨none, ?_⟩, ?_, ?_, ?_, ?_, ?_, ?_⟩ <;> simp [row_map, encE_mk, encTy_def, h3, h5] <;> omega) ?_
 simp [row_map, encE_mk, encTy_def, h3, h5]
 refine hK _ (by first | rfl | simp) ?_
 simp [hu9, encTy_mk]
 refine AnyAll.cons rfl (fun Z hZ => ?_) ?_
 simp [row_map, encE_mk, encTy_def, h3, h5]
 refine hZ _ ?_
 clear hZ Z
 refine ANY_one 2 (by kernel_rfl) rfl fun Z hZ => ?_
 simp [row_map, encE_mk, encTy_def, h3, h5]
 refine hZ _ ?_
 clear hZ Z
 refine ANY_push2 hpo (by kernel_rfl) rfl rfl rfl rfl rfl rfl ⟨by kernel_rfl, by kernel_rfl⟩ (by refine ⟨?_, ?_, ?_, ?_, ⟨none, ?_⟩, ?_, ?_, ?_, ?_, ?_, ?_⟩ <;> simp [row_map, encE_mk, encTy_def, h3, h5] <;> omega) ?_
 simp [row_map, encE_mk, encTy_def, h3, h5]
 refine hK _ (by first | rfl | simp) ?_
 simp [hu9, encTy_mk]
 exact AnyAll.nil
 refine AnyAll.cons rfl (fun Z hZ => ?_) ?_
 simp [row_map, encE_mk, encTy_def, h3, h5]
 refine hZ _ ?_
 clear hZ Z
 refine ANY_one 1 (by kernel_rfl) rfl fun Z hZ => ?_
 simp [row_map, encE_mk, encTy_def, h3, h5]
 refine hZ _ ?_
 clear hZ Z
 refine ANY_one 2 (by kernel_rfl) rfl fun Z hZ => ?_
 simp [row_map, encE_mk, encTy_def, h3, h5]
 refine hZ _ ?_
 clear hZ Z
 refine ANY_push2 hpo (by kernel_rfl) rfl rfl rfl rfl rfl rfl ⟨by kernel_rfl, by kernel_rfl⟩ (by refine ⟨?_, ?_, ?_, ?_, ⟨none, ?_⟩, ?_, ?_, ?_, ?_, ?_, ?_⟩ <;> simp [row_map, encE_mk, encTy_def, h3, h5] <;> omega) ?_
 simp [row_map, encE_mk, encTy_def, h3, h5]
 refine hK _ (by first | rfl | simp) ?_
 simp [hu9, encTy_mk]
 exact AnyAll.nil
 exact AnyAll.nil
 refine AnyAll.cons rfl (fun Z hZ => ?_) ?_
 simp [row_map, encE_mk, encTy_def, h3, h5]
 refine hZ _ ?_
 clear hZ Z
 refine ANY_ready [0, 2, 4] (by kernel_rfl) (by simp) ?_
 refine AnyAll.cons rfl (fun Z hZ => ?_) ?_
 simp [row_map, encE_mk, encTy_def, h3, h5]
 refine hZ _ ?_
 clear hZ Z
 refine ANY_ready [2, 3, 4] (by kernel_rfl) (by simp) ?_
 refine AnyAll.cons rfl (fun Z hZ => ?_) ?_
 simp [row_map, encE_mk, encTy_def, h3, h5]
 refine hZ _ ?_
 clear hZ Z
 refine ANY_ready [3, 4] (by kernel_rfl) (by simp) ?_
 refine AnyAll.cons rfl (fun Z hZ => ?_) ?_
 simp [row_map, encE_mk, encTy_def, h3, h5]
 refine hZ _ ?_
 clear hZ Z
 refine ANY_one 4 (by kernel_rfl) rfl fun Z hZ => ?_
 simp [row_map, encE_mk, encTy_def, h3, h5]
 refine hZ _ ?_
 clear hZ Z
 refine ANY_push2 hpo (by kernel_rfl) rfl rfl rfl rfl rfl rfl ⟨by kernel_rfl, by kernel_rfl⟩ (by refine ⟨?_, ?_, ?_, ?_, ⟨none, ?_⟩, ?_, ?_, ?_, ?_, ?_, ?_⟩ <;> simp [row_map, encE_mk, encTy_def, h3, h5] <;> omega) ?_
 simp [row_map, encE_mk, encTy_def, h3, h5]
 refine hK _ (by first | rfl | simp) ?_
 simp [hu9, encTy_mk]
 refine AnyAll.cons rfl (fun Z hZ => ?_) ?_
 simp [row_map, encE_mk, encTy_def, h3, h5]
 refine hZ _ ?_
 clear hZ Z
 refine ANY_one 3 (by kernel_rfl) rfl fun Z hZ => ?_
 simp [row_map, encE_mk, encTy_def, h3, h5]
 refine hZ _ ?_
 clear hZ Z
 refine ANY_push2 hpo (by kernel_rfl) rfl rfl rfl rfl rfl rfl ⟨by kernel_rfl, by kernel_rfl⟩ (by refine ⟨?_, ?_, ?_, ?_, ⟨none, ?_⟩, ?_, ?_, ?_, ?_, ?_, ?_⟩ <;> simp [row_map, encE_mk, encTy_def, h3, h5] <;> omega) ?_
 simp [row_map, encE_mk, encTy_def, h3, h5]
 refine hK _ (by first | rfl | simp) ?_
 simp [hu9, encTy_mk]
 exact AnyAll.nil
 refine AnyAll.cons rfl (fun Z hZ => ?_) ?_
 simp [row_map, encE_mk, encTy_def, h3, h5]
 refine hZ _ ?_
 clear hZ Z
 refine ANY_ready [2, 4] (by kernel_rfl) (by simp) ?_
 refine AnyAll.cons rfl (fun Z hZ => ?_) ?_
 simp [row_map, encE_mk, encTy_def, h3, h5]
 refine hZ _ ?_
 clear hZ Z
 refine ANY_one 4 (by kernel_rfl) rfl fun Z hZ => ?_
 simp [row_map, encE_mk, encTy_def, h3, h5]
 refine hZ _ ?_
 clear hZ Z
 refine ANY_push2 hpo (by kernel_rfl) rfl rfl rfl rfl rfl rfl ⟨by kernel_rfl, by kernel_rfl⟩ (by refine ⟨?_, ?_, ?_, ?_, ⟨none, ?_⟩, ?_, ?_, ?_, ?_, ?_, ?_⟩ <;> simp [row_map, encE_mk, encTy_def, h3, h5] <;> omega) ?_
 simp [row_map, encE_mk, encTy_def, h3, h5]
 refine hK _ (by first | rfl | simp) ?_
 simp [hu9, encTy_mk]
 refine AnyAll.cons rfl (fun Z hZ => ?_) ?_
 simp [row_map, encE_mk, encTy_def, h3, h5]
 refine hZ _ ?_
 clear hZ Z
 refine ANY_one 2 (by kernel_rfl) rfl fun Z hZ => ?_
 simp [row_map, encE_mk, encTy_def, h3, h5]
 refine hZ _ ?_
 clear hZ Z
 refine ANY_push2 hpo (by kernel_rfl) rfl rfl rfl rfl rfl rfl ⟨by kernel_rfl, by kernel_rfl⟩ (by refine ⟨?_, ?_, ?_, ?_, ⟨none, ?_⟩, ?_, ?_, ?_, ?_, ?_, ?_⟩ <;> simp [row_map, encE_mk, encTy_def, h3, h5] <;> omega) ?_
 simp [row_map, encE_mk, encTy_def, h3, h5]
 refine hK _ (by first | rfl | simp) ?_
 simp [hu9, encTy_mk]
 exact AnyAll.nil
 refine AnyAll.cons rfl (fun Z hZ => ?_) ?_
 simp [row_map, encE_mk, encTy_def, h3, h5]
 refine hZ _ ?_
 clear hZ Z
 refine ANY_ready [2, 3] (by kernel_rfl) (by simp) ?_
 refine AnyAll.cons rfl (fun Z hZ => ?_) ?_
 simp [row_map, encE_mk, encTy_def, h3, h5]
 refine hZ _ ?_
 clear hZ Z
 refine ANY_one 3 (by kernel_rfl) rfl fun Z hZ => ?_
 simp [row_map, encE_mk, encTy_def, h3, h5]
 refine hZ _ ?_
 clear hZ Z
 refine ANY_push2 hpo (by kernel_rfl) rfl rfl rfl rfl rfl rfl ⟨by kernel_rfl, by kernel_rfl⟩ (by refine ⟨?_, ?_, ?_, ?_, ⟨none, ?_⟩, ?_, ?_, ?_, ?_, ?_, ?_⟩ <;> simp [row_map, encE_mk, encTy_def, h3, h5] <;> omega) ?_
 simp [row_map, encE_mk, encTy_def, h3, h5]
 refine hK _ (by first | rfl | simp) ?_
 simp [hu9, encTy_mk]
 refine AnyAll.cons rfl (fun Z hZ => ?_) ?_
 simp [row_map, encE_mk, encTy_def, h3, h5]
 refine hZ _ ?_
 clear hZ Z
 refine ANY_one 2 (by kernel_rfl) rfl fun Z hZ => ?_
 simp [row_map, encE_mk, encTy_def, h3, h5]
 refine hZ _ ?_
 clear hZ Z
 refine ANY_push2 hpo (by kernel_rfl) rfl rfl rfl rfl rfl rfl ⟨by kernel_rfl, by kernel_rfl⟩ (by refine ⟨?_, ?_, ?_, ?_, ⟨none, ?_⟩, ?_, ?_, ?_, ?_, ?_, ?_⟩ <;> simp [row_map, encE_mk, encTy_def, h3, h5] <;> omega) ?_
 simp [row_map, encE_mk, encTy_def, h3, h5]
 refine hK _ (by first | rfl | simp) ?_
 simp [hu9, encTy_mk]
 exact AnyAll.nil
 exact AnyAll.nil
 refine AnyAll.cons rfl (fun Z hZ => ?_) ?_
 simp [row_map, encE_mk, encTy_def, h3, h5]
 refine hZ _ ?_
 clear hZ Z
 refine ANY_ready [0, 4] (by kernel_rfl) (by simp) ?_
 refine AnyAll.cons rfl (fun Z hZ => ?_) ?_
 simp [row_map, encE_mk, encTy_def, h3, h5]
 refine hZ _ ?_
 clear hZ Z
 refine ANY_ready [3, 4] (by kernel_rfl) (by simp) ?_
 refine AnyAll.cons rfl (fun Z hZ => ?_) ?_
 simp [row_map, encE_mk, encTy_def, h3, h5]
 refine hZ _ ?_
 clear hZ Z
 refine ANY_one 4 (by kernel_rfl) rfl fun Z hZ => ?_
 simp [row_map, encE_mk, encTy_def, h3, h5]
 refine hZ _ ?_
 clear hZ Z
 refine ANY_push2 hpo (by kernel_rfl) rfl rfl rfl rfl rfl rfl ⟨by kernel_rfl, by kernel_rfl⟩ (by refine ⟨?_, ?_, ?_, ?_, ⟨none, ?_⟩, ?_, ?_, ?_, ?_, ?_, ?_⟩ <;> simp [row_map, encE_mk, encTy_def, h3, h5] <;> omega) ?_
 simp [row_map, encE_mk, encTy_def, h3, h5]
 refine hK _ (by first | rfl | simp) ?_
 simp [hu9, encTy_mk]
 refine AnyAll.cons rfl (fun Z hZ => ?_) ?_
 simp [row_map, encE_mk, encTy_def, h3, h5]
 refine hZ _ ?_
 clear hZ Z
 refine ANY_one 3 (by kernel_rfl) rfl fun Z hZ => ?_
 simp [row_map, encE_mk, encTy_def, h3, h5]
 refine hZ _ ?_
 clear hZ Z
 refine ANY_push2 hpo (by kernel_rfl) rfl rfl rfl rfl rfl rfl ⟨by kernel_rfl, by kernel_rfl⟩ (by refine ⟨?_, ?_, ?_, ?_, ⟨none, ?_⟩, ?_, ?_, ?_, ?_, ?_, ?_⟩ <;> simp [row_map, encE_mk, encTy_def, h3, h5] <;> omega) ?_
 simp [row_map, encE_mk, encTy_def, h3, h5]
 refine hK _ (by first | rfl | simp) ?_
 simp [hu9, encTy_mk]
 exact AnyAll.nil
 refine AnyAll.cons rfl (fun Z hZ => ?_) ?_
 simp [row_map, encE_mk, encTy_def, h3, h5]
 refine hZ _ ?_
 clear hZ Z
 refine ANY_one 0 (by kernel_rfl) rfl fun Z hZ => ?_
 simp [row_map, encE_mk, encTy_def, h3, h5]
 refine hZ _ ?_
 clear hZ Z
 refine ANY_one 3 (by kernel_rfl) rfl fun Z hZ => ?_
 simp [row_map, encE_mk, encTy_def, h3, h5]
 refine hZ _ ?_
 clear hZ Z
 refine ANY_push2 hpo (by kernel_rfl) rfl rfl rfl rfl rfl rfl ⟨by kernel_rfl, by kernel_rfl⟩ (by refine ⟨?_, ?_, ?_, ?_, ⟨none, ?_⟩, ?_, ?_, ?_, ?_, ?_, ?_⟩ <;> simp [row_map, encE_mk, encTy_def, h3, h5] <;> omega) ?_
 simp [row_map, encE_mk, encTy_def, h3, h5]
 refine hK _ (by first | rfl | simp) ?_
 simp [hu9, encTy_mk]
 exact AnyAll.nil
 refine AnyAll.cons rfl (fun Z hZ => ?_) ?_
 simp [row_map, encE_mk, encTy_def, h3, h5]
 refine hZ _ ?_
 clear hZ Z
 refine ANY_ready [0, 2] (by kernel_rfl) (by simp) ?_
 refine AnyAll.cons rfl (fun Z hZ => ?_) ?_
 simp [row_map, encE_mk, encTy_def, h3, h5]
 refine hZ _ ?_
 clear hZ Z
 refine ANY_ready [2, 3] (by kernel_rfl) (by simp) ?_
 refine AnyAll.cons rfl (fun Z hZ => ?_) ?_
 simp [row_map, encE_mk, encTy_def, h3, h5]
 refine hZ _ ?_
 clear hZ Z
 refine ANY_one 3 (by kernel_rfl) rfl fun Z hZ => ?_
 simp [row_map, encE_mk, encTy_def, h3, h5]
 refine hZ _ ?_
 clear hZ Z
 refine ANY_push2 hpo (by kernel_rfl) rfl rfl rfl rfl rfl rfl ⟨by kernel_rfl, by kernel_rfl⟩ (by refine ⟨?_, ?_, ?_, ?_, ⟨none, ?_⟩, ?_, ?_, ?_, ?_, ?_, ?_⟩ <;> simp [row_map, encE_mk, encTy_def, h3, h5] <;> omega) ?_
 simp [row_map, encE_mk, encTy_def, h3, h5]
 refine hK _ (by first | rfl | simp) ?_
 simp [hu9, encTy_mk]
 refine AnyAll.cons rfl (fun Z hZ => ?_) ?_
 simp [row_map, encE_mk, encTy_def, h3, h5]
 refine hZ _ ?_
 clear hZ Z
 refine ANY_one 2 (by kernel_rfl) rfl fun Z hZ => ?_
 simp [row_map, encE_mk, encTy_def, h3, h5]
 refine hZ _ ?_
 clear hZ Z
 refine ANY_push2 hpo (by kernel_rfl) rfl rfl rfl rfl rfl rfl ⟨by kernel_rfl, by kernel_rfl⟩ (by refine ⟨?_, ?_, ?_, ?_, ⟨none, ?_⟩, ?_, ?_, ?_, ?_, ?_, ?_⟩ <;> simp [row_map, encE_mk, encTy_def, h3, h5] <;> omega) ?_
 simp [row_map, encE_mk, encTy_def, h3, h5]
 refine hK _ (by first | rfl | simp) ?_
 simp [hu9, encTy_mk]
 exact AnyAll.nil
 refine AnyAll.cons rfl (fun Z hZ => ?_) ?_
 simp [row_map, encE_mk, encTy_def, h3, h5]
 refine hZ _ ?_
 clear hZ Z
 refine ANY_one 0 (by kernel_rfl) rfl fun Z hZ => ?_
 simp [row_map, encE_mk, encTy_def, h3, h5]
 refine hZ _ ?_
 clear hZ Z
 refine ANY_one 3 (by kernel_rfl) rfl fun Z hZ => ?_
 simp [row_map, encE_mk, encTy_def, h3, h5]
 refine hZ _ ?_
 clear hZ Z
 refine ANY_push2 hpo (by kernel_rfl) rfl rfl rfl rfl rfl rfl ⟨by kernel_rfl, by kernel_rfl⟩ (by refine ⟨?_, ?_, ?_, ?_, ⟨none, ?_⟩, ?_, ?_, ?_, ?_, ?_, ?_⟩ <;> simp [row_map, encE_mk, encTy_def, h3, h5] <;> omega) ?_
 simp [row_map, encE_mk, encTy_def, h3, h5]
 refine hK _ (by first | rfl | simp) ?_
 simp [hu9, encTy_mk]
 exact AnyAll.nil
 exact AnyAll.nil
 refine AnyAll.cons rfl (fun Z hZ => ?_) ?_
 simp [row_map, encE_mk, encTy_def, h3, h5]
 refine hZ _ ?_
 clear hZ Z
 refine ANY_ready [0, 1] (by kernel_rfl) (by simp) ?_
 refine AnyAll.cons rfl (fun Z hZ => ?_) ?_
 simp [row_map, encE_mk, encTy_def, h3, h5]
 refine hZ _ ?_
 clear hZ Z
 refine ANY_ready [1, 3] (by kernel_rfl) (by simp) ?_
 refine AnyAll.cons rfl (fun Z hZ => ?_) ?_
 simp [row_map, encE_mk, encTy_def, h3, h5]
 refine hZ _ ?_
 clear hZ Z
 refine ANY_ready [2, 3] (by kernel_rfl) (by simp) ?_
 refine AnyAll.cons rfl (fun Z hZ => ?_) ?_
 simp [row_map, encE_mk, encTy_def, h3, h5]
 refine hZ _ ?_
 clear hZ Z
 refine ANY_one 3 (by kernel_rfl) rfl fun Z hZ => ?_
 simp [row_map, encE_mk, encTy_def, h3, h5]
 refine hZ _ ?_
 clear hZ Z
 refine ANY_push2 hpo (by kernel_rfl) rfl rfl rfl rfl rfl rfl ⟨by kernel_rfl, by kernel_rfl⟩ (by refine ⟨?_, ?_, ?_, ?_, ⟨none, ?_⟩, ?_, ?_, ?_, ?_, ?_, ?_⟩ <;> simp [row_map, encE_mk, encTy_def, h3, h5] <;> omega) ?_
 simp [row_map, encE_mk, encTy_def, h3, h5]
 refine hK _ (by first | rfl | simp) ?_
 simp [hu9, encTy_mk]
 refine AnyAll.cons rfl (fun Z hZ => ?_) ?_
 simp [row_map, encE_mk, encTy_def, h3, h5]
 refine hZ _ ?_
 clear hZ Z
 refine ANY_one 2 (by kernel_rfl) rfl fun Z hZ => ?_
 simp [row_map, encE_mk, encTy_def, h3, h5]
 refine hZ _ ?_
 clear hZ Z
 refine ANY_push2 hpo (by kernel_rfl) rfl rfl rfl rfl rfl rfl ⟨by kernel_rfl, by kernel_rfl⟩ (by refine ⟨?_, ?_, ?_, ?_, ⟨none, ?_⟩, ?_, ?_, ?_, ?_, ?_, ?_⟩ <;> simp [row_map, encE_mk, encTy_def, h3, h5] <;> omega) ?_
 simp [row_map, encE_mk, encTy_def, h3, h5]
 refine hK _ (by first | rfl | simp) ?_
 simp [hu9, encTy_mk]
 exact AnyAll.nil
 refine AnyAll.cons rfl (fun Z hZ => ?_) ?_
 simp [row_map, encE_mk, encTy_def, h3, h5]
 refine hZ _ ?_
 clear hZ Z
 refine ANY_one 1 (by kernel_rfl) rfl fun Z hZ => ?_
 simp [row_map, encE_mk, encTy_def, h3, h5]
 refine hZ _ ?_
 clear hZ Z
 refine ANY_one 2 (by kernel_rfl) rfl fun Z hZ => ?_
 simp [row_map, encE_mk, encTy_def, h3, h5]
 refine hZ _ ?_
 clear hZ Z
 refine ANY_push2 hpo (by kernel_rfl) rfl rfl rfl rfl rfl rfl ⟨by kernel_rfl, by kernel_rfl⟩ (by refine ⟨?_, ?_, ?_, ?_, ⟨none, ?_⟩, ?_, ?_, ?_, ?_, ?_, ?_⟩ <;> simp [row_map, encE_mk, encTy_def, h3, h5] <;> omega) ?_
 simp [row_map, encE_mk, encTy_def, h3, h5]
 refine hK _ (by first | rfl | simp) ?_
 simp [hu9, encTy_mk]
 exact AnyAll.nil
 refine AnyAll.cons rfl (fun Z hZ => ?_) ?_
 simp [row_map, encE_mk, encTy_def, h3, h5]
 refine hZ _ ?_
 clear hZ Z
 refine ANY_ready [0, 2] (by kernel_rfl) (by simp) ?_
 refine AnyAll.cons rfl (fun Z hZ => ?_) ?_
 simp [row_map, encE_mk, encTy_def, h3, h5]
 refine hZ _ ?_
 clear hZ Z
 refine ANY_ready [2, 3] (by kernel_rfl) (by simp) ?_
 refine AnyAll.cons rfl (fun Z hZ => ?_) ?_
 simp [row_map, encE_mk, encTy_def, h3, h5]
 refine hZ _ ?_
 clear hZ Z
 refine ANY_one 3 (by kernel_rfl) rfl fun Z hZ => ?_
 simp [row_map, encE_mk, encTy_def, h3, h5]
 refine hZ _ ?_
 clear hZ Z
 refine ANY_push2 hpo (by kernel_rfl) rfl rfl rfl rfl rfl rfl ⟨by kernel_rfl, by kernel_rfl⟩ (by refine ⟨?_, ?_, ?_, ?_, ⟨none, ?_⟩, ?_, ?_, ?_, ?_, ?_, ?_⟩ <;> simp [row_map, encE_mk, encTy_def, h3, h5] <;> omega) ?_
 simp [row_map, encE_mk, encTy_def, h3, h5]
 refine hK _ (by first | rfl | simp) ?_
 simp [hu9, encTy_mk]
 refine AnyAll.cons rfl (fun Z hZ => ?_) ?_
 simp [row_map, encE_mk, encTy_def, h3, h5]
 refine hZ _ ?_
 clear hZ Z
 refine ANY_one 2 (by kernel_rfl) rfl fun Z hZ => ?_
 simp [row_map, encE_mk, encTy_def, h3, h5]
 refine hZ _ ?_
 clear hZ Z
 refine ANY_push2 hpo (by kernel_rfl) rfl rfl rfl rfl rfl rfl ⟨by kernel_rfl, by kernel_rfl⟩ (by refine ⟨?_, ?_, ?_, ?_, ⟨none, ?_⟩, ?_, ?_, ?_, ?_, ?_, ?_⟩ <;> simp [row_map, encE_mk, encTy_def, h3, h5] <;> omega) ?_
 simp [row_map, encE_mk, encTy_def, h3, h5]
 refine hK _ (by first | rfl | simp) ?_
 simp [hu9, encTy_mk]
 exact AnyAll.nil
 refine AnyAll.cons rfl (fun Z hZ => ?_) ?_
 simp [row_map, encE_mk, encTy_def, h3, h5]
 refine hZ _ ?_
 clear hZ Z
 refine ANY_one 0 (by kernel_rfl) rfl fun Z hZ => ?_
 simp [row_map, encE_mk, encTy_def, h3, h5]
 refine hZ _ ?_
 clear hZ Z
 refine ANY_one 3 (by kernel_rfl) rfl fun Z hZ => ?_
 simp [row_map, encE_mk, encTy_def, h3, h5]
 refine hZ _ ?_
 clear hZ Z
 refine ANY_push2 hpo (by kernel_rfl) rfl rfl rfl rfl rfl rfl ⟨by kernel_rfl, by kernel_rfl⟩ (by refine ⟨?_, ?_, ?_, ?_, ⟨none, ?_⟩, ?_, ?_, ?_, ?_, ?_, ?_⟩ <;> simp [row_map, encE_mk, encTy_def, h3, h5] <;> omega) ?_
 simp [row_map, encE_mk, encTy_def, h3, h5]
 refine hK _ (by first | rfl | simp) ?_
 simp [hu9, encTy_mk]
 exact AnyAll.nil
 exact AnyAll.nil
 exact AnyAll.nil
 rintro _ rfl
 refine ⟨rfl, by first | rfl | simp [tmOk], [3], by first | rfl | simp, ?_⟩
 simp [AS.out, hu9, encTy_mk]
 have hp9 : partsE (.mk kd nm (.mk tn tas tp) ta ks ps) = ta ++ [.mk tn tas tp] := partsE_yes (by simp [typedE, h3])
 rw [hp9] at hu9 hb9
 simp only [List.length_append, List.length_cons, List.length_nil] at hb9
 refine sr fun Z z => ?_
 simp [row_map, encE_mk, encTy_def, h3]
 refine z _ ?_
 clear z Z
 refine cT (by simp [h3]) ?_
 refine AT_any_q [3] [3] (fun z9 => z9 = { n := 28, tm := [(3, .lp 3 0)], bx := [(3, [.slice ((flT (bodL e) (s.length + 1)).map encTy)])], tb := [(3, 0, 103000, 28)], sh := [], hint := [(103000, 28)], fx := [3] }) Pt.mixed (fun K hK hQ => ?_) ?_
 refine ANY_have (fun ops => PushOps ops #[true, true, true, true, true, false, false, false, false] 5 6 7 8 26 28 20 24 23 22 3 25 26) ⟨⟨_, rfl, rfl, rfl, rfl⟩, ⟨_, rfl, rfl, rfl, rfl⟩, ⟨_, rfl, rfl, rfl, rfl⟩, ⟨_, rfl, rfl, rfl, rfl⟩, by kernel_rfl, by kernel_rfl, by kernel_rfl, by kernel_rfl, by kernel_rfl, by kernel_rfl, by kernel_rfl, by kernel_rfl, by kernel_rfl, by kernel_rfl, by decide⟩ fun hpo => ?_
 refine ANY_ready [0, 1, 4] (by kernel_rfl) (by simp) ?_
 refine AnyAll.cons rfl (fun Z hZ => ?_) ?_
 simp [row_map, encE_mk, encTy_def, h3]
 refine hZ _ ?_
 clear hZ Z
 refine ANY_ready [1, 3, 4] (by kernel_rfl) (by simp) ?_
 refine AnyAll.cons rfl (fun Z hZ => ?_) ?_
 simp [row_map, encE_mk, encTy_def, h3]
 refine hZ _ ?_
 clear hZ Z
 refine ANY_ready [2, 3, 4] (by kernel_rfl) (by simp) ?_
 refine AnyAll.cons rfl (fun Z hZ => ?_) ?_
 simp [row_map, encE_mk, encTy_def, h3]
 refine hZ _ ?_
 clear hZ Z
 refine ANY_ready [3, 4] (by kernel_rfl) (by simp) ?_
 refine AnyAll.cons rfl (fun Z hZ => ?_) ?_
 simp [row_map, encE_mk, encTy_def, h3]
 refine hZ _ ?_
 clear hZ Z
 refine ANY_one 4 (by kernel_rfl) rfl fun Z hZ => ?_
 simp [row_map, encE_mk, encTy_def, h3]
 refine hZ _ ?_
 clear hZ Z
 refine ANY_push2 hpo (by kernel_rfl) rfl rfl rfl rfl rfl rfl ⟨by kernel_rfl, by kernel_rfl⟩ (by refine ⟨?_, ?_, ?_, ?_, ⟨none, ?_⟩, ?_, ?_, ?_, ?_, ?_, ?_⟩ <;> simp [row_map, encE_mk, encTy_def, h3] <;> omega) ?_
 simp [row_map, encE_mk, encTy_def, h3]
 refine hK _ (by first | rfl | simp) ?_
 simp [hu9, encTy_mk]
 refine AnyAll.cons rfl (fun Z hZ => ?_) ?_
 simp [row_map, encE_mk, encTy_def, h3]
 refine hZ _ ?_
 clear hZ Z
 refine ANY_one 3 (by kernel_rfl) rfl fun Z hZ => ?_
 simp [row_map, encE_mk, encTy_def, h3]
 refine hZ _ ?_
 clear hZ Z
 refine ANY_push2 hpo (by kernel_rfl) rfl rfl rfl rfl rfl rfl ⟨by kernel_rfl, by kernel_rfl⟩ (by refine ⟨?_, ?_, ?_, ?_, ⟨none, ?_⟩, ?_, ?_, ?_, ?_, ?_, ?_⟩ <;> simp [row_map, encE_mk, encTy_def, h3] <;> omega) ?_
 simp [row_map, encE_mk, encTy_def, h3]
 refine hK _ (by first | rfl | simp) ?_
 simp [hu9, encTy_mk]
 exact AnyAll.nil
 refine AnyAll.cons rfl (fun Z hZ => ?_) ?_
 simp [row_map, encE_mk, encTy_def, h3]
 refine hZ _ ?_
 clear hZ Z
 refine ANY_ready [2, 4] (by kernel_rfl) (by simp) ?_
 refine AnyAll.cons rfl (fun Z hZ => ?_) ?_
 simp [row_map, encE_mk, encTy_def, h3]
 refine hZ _ ?_
 clear hZ Z
 refine ANY_one 4 (by kernel_rfl) rfl fun Z hZ => ?_
 simp [row_map, encE_mk, encTy_def, h3]
 refine hZ _ ?_
 clear hZ Z
 refine ANY_push2 hpo (by kernel_rfl) rfl rfl rfl rfl rfl rfl ⟨by kernel_rfl, by kernel_rfl⟩ (by refine ⟨?_, ?_, ?_, ?_, ⟨none, ?_⟩, ?_, ?_, ?_, ?_, ?_, ?_⟩ <;> simp [row_map, encE_mk, encTy_def, h3] <;> omega) ?_
 simp [row_map, encE_mk, encTy_def, h3]
 refine hK _ (by first | rfl | simp) ?_
 simp [hu9, encTy_mk]
 refine AnyAll.cons rfl (fun Z hZ => ?_) ?_
 simp [row_map, encE_mk, encTy_def, h3]
 refine hZ _ ?_
 clear hZ Z
 refine ANY_one 2 (by kernel_rfl) rfl fun Z hZ => ?_
 simp [row_map, encE_mk, encTy_def, h3]
 refine hZ _ ?_
 clear hZ Z
 refine ANY_push2 hpo (by kernel_rfl) rfl rfl rfl rfl rfl rfl ⟨by kernel_rfl, by kernel_rfl⟩ (by refine ⟨?_, ?_, ?_, ?_, ⟨none, ?_⟩, ?_, ?_, ?_, ?_, ?_, ?_⟩ <;> simp [row_map, encE_mk, encTy_def, h3] <;> omega) ?_
 simp [row_map, encE_mk, encTy_def, h3]
 refine hK _ (by first | rfl | simp) ?_
 simp [hu9, encTy_mk]
 exact AnyAll.nil
 refine AnyAll.cons rfl (fun Z hZ => ?_) ?_
 simp [row_map, encE_mk, encTy_def, h3]
 refine hZ _ ?_
 clear hZ Z
 refine ANY_ready [2, 3] (by kernel_rfl) (by simp) ?_
 refine AnyAll.cons rfl (fun Z hZ => ?_) ?_
 simp [row_map, encE_mk, encTy_def, h3]
 refine hZ _ ?_
 clear hZ Z
 refine ANY_one 3 (by kernel_rfl) rfl fun Z hZ => ?_
 simp [row_map, encE_mk, encTy_def, h3]
 refine hZ _ ?_
 clear hZ Z
 refine ANY_push2 hpo (by kernel_rfl) rfl rfl rfl rfl rfl rfl ⟨by kernel_rfl, by kernel_rfl⟩ (by refine ⟨?_, ?_, ?_, ?_, ⟨none, ?_⟩, ?_, ?_, ?_, ?_, ?_, ?_⟩ <;> simp [row_map, encE_mk, encTy_def, h3] <;> omega) ?_
 simp [row_map, encE_mk, encTy_def, h3]
 refine hK _ (by first | rfl | simp) ?_
 simp [hu9, encTy_mk]
 refine AnyAll.cons rfl (fun Z hZ => ?_) ?_
 simp [row_map, encE_mk, encTy_def, h3]
 refine hZ _ ?_
 clear hZ Z
 refine ANY_one 2 (by kernel_rfl) rfl fun Z hZ => ?_
 simp [row_map, encE_mk, encTy_def, h3]
 refine hZ _ ?_
 clear hZ Z
 refine ANY_push2 hpo (by kernel_rfl) rfl rfl rfl rfl rfl rfl ⟨by kernel_rfl, by kernel_rfl⟩ (by refine ⟨?_, ?_, ?_, ?_, ⟨none, ?_⟩, ?_, ?_, ?_, ?_, ?_, ?_⟩ <;> simp [row_map, encE_mk, encTy_def, h3] <;> omega) ?_
 simp [row_map, encE_mk, encTy_def, h3]
 refine hK _ (by first | rfl | simp) ?_
 simp [hu9, encTy_mk]
 exact AnyAll.nil
 exact AnyAll.nil
 refine AnyAll.cons rfl (fun Z hZ => ?_) ?_
 simp [row_map, encE_mk, encTy_def, h3]
 refine hZ _ ?_
 clear hZ Z
 refine ANY_ready [1, 4] (by kernel_rfl) (by simp) ?_
 refine AnyAll.cons rfl (fun Z hZ => ?_) ?_
 simp [row_map, encE_mk, encTy_def, h3]
 refine hZ _ ?_
 clear hZ Z
 refine ANY_ready [2, 4] (by kernel_rfl) (by simp) ?_
 refine AnyAll.cons rfl (fun Z hZ => ?_) ?_
 simp [row_map, encE_mk, encTy_def, h3]
 refine hZ _ ?_
 clear hZ Z
 refine ANY_one 4 (by kernel_rfl) rfl fun Z hZ => ?_
 simp [row_map, encE_mk, encTy_def, h3]
 refine hZ _ ?_
 clear hZ Z
 refine ANY_push2 hpo (by kernel_rfl) rfl rfl rfl rfl rfl rfl ⟨by kernel_rfl, by kernel_rfl⟩ (by refine ⟨?_, ?_, ?_, ?_, ⟨none, ?_⟩, ?_, ?_, ?_, ?_, ?_, ?_⟩ <;> simp [row_map, encE_mk, encTy_def, h3] <;> omega) ?_
 simp [row_map, encE_mk, encTy_def, h3]
 refine hK _ (by first | rfl | simp) ?_
 simp [hu9, encTy_mk]
 refine AnyAll.cons rfl (fun Z hZ => ?_) ?_
 simp [row_map, encE_mk, encTy_def, h3]
 refine hZ _ ?_
 clear hZ Z
 refine ANY_one 2 (by kernel_rfl) rfl fun Z hZ => ?_
 simp [row_map, encE_mk, encTy_def, h3]
 refine hZ _ ?_
 clear hZ Z
 refine ANY_push2 hpo (by kernel_rfl) rfl rfl rfl rfl rfl rfl ⟨by kernel_rfl, by kernel_rfl⟩ (by refine ⟨?_, ?_, ?_, ?_, ⟨none, ?_⟩, ?_, ?_, ?_, ?_, ?_, ?_⟩ <;> simp [row_map, encE_mk, encTy_def, h3] <;> omega) ?_
 simp [row_map, encE_mk, encTy_def, h3]
 refine hK _ (by first | rfl | simp) ?_
 simp [hu9, encTy_mk]
 exact AnyAll.nil
 refine AnyAll.cons rfl (fun Z hZ => ?_) ?_
 simp [row_map, encE_mk, encTy_def, h3]
 refine hZ _ ?_
 clear hZ Z
 refine ANY_one 1 (by kernel_rfl) rfl fun Z hZ => ?_
 simp [row_map, encE_mk, encTy_def, h3]
 refine hZ _ ?_
 clear hZ Z
 refine ANY_one 2 (by kernel_rfl) rfl fun Z hZ => ?_
 simp [row_map, encE_mk, encTy_def, h3]
 refine hZ _ ?_
 clear hZ Z
 refine ANY_push2 hpo (by kernel_rfl) rfl rfl rfl rfl rfl rfl ⟨by kernel_rfl, by kernel_rfl⟩ (by refine ⟨?_, ?_, ?_, ?_, ⟨none, ?_⟩, ?_, ?_, ?_, ?_, ?_, ?_⟩ <;> simp [row_map, encE_mk, encTy_def, h3] <;> omega) ?_
 simp [row_map, encE_mk, encTy_def, h3]
 refine hK _ (by first | rfl | simp) ?_
 simp [hu9, encTy_mk]
 exact AnyAll.nil
 refine AnyAll.cons rfl (fun Z hZ => ?_) ?_
 simp [row_map, encE_mk, encTy_def, h3]
 refine hZ _ ?_
 clear hZ Z
 refine ANY_ready [1, 3] (by kernel_rfl) (by simp) ?_
 refine AnyAll.cons rfl (fun Z hZ => ?_) ?_
 simp [row_map, encE_mk, encTy_def, h3]
 refine hZ _ ?_
 clear hZ Z
 refine ANY_ready [2, 3] (by kernel_rfl) (by simp) ?_
 refine AnyAll.cons rfl (fun Z hZ => ?_) ?_
 simp [row_map, encE_mk, encTy_def, h3]
 refine hZ _ ?_
 clear hZ Z
 refine ANY_one 3 (by kernel_rfl) rfl fun Z hZ => ?_
 simp [row_map, encE_mk, encTy_def, h3]
 refine hZ _ ?_
 clear hZ Z
 refine ANY_push2 hpo (by kernel_rfl) rfl rfl rfl rfl rfl rfl ⟨by kernel_rfl, by kernel_rfl⟩ (by refine ⟨?_, ?_, ?_, ?_, ⟨none, ?_⟩, ?_, ?_, ?_, ?_, ?_, ?_⟩ <;> simp [row_map, encE_mk, encTy_def, h3] <;> omega) ?_
 simp [row_map, encE_mk, encTy_def, h3]
 refine hK _ (by first | rfl | simp) ?_
 simp [hu9, encTy_mk]
 refine AnyAll.cons rfl (fun Z hZ => ?_) ?_
 simp [row_map, encE_mk, encTy_def, h3]
 refine hZ _ ?_
 clear hZ Z
 refine ANY_one 2 (by kernel_rfl) rfl fun Z hZ => ?_
 simp [row_map, encE_mk, encTy_def, h3]
 refine hZ _ ?_
 clear hZ Z
 refine ANY_push2 hpo (by kernel_rfl) rfl rfl rfl rfl rfl rfl ⟨by kernel_rfl, by kernel_rfl⟩ (by refine ⟨?_, ?_, ?_, ?_, ⟨none, ?_⟩, ?_, ?_, ?_, ?_, ?_, ?_⟩ <;> simp [row_map, encE_mk, encTy_def, h3] <;> omega) ?_
 simp [row_map, encE_mk, encTy_def, h3]
 refine hK _ (by first | rfl | simp) ?_
 simp [hu9, encTy_mk]
 exact AnyAll.nil
 refine AnyAll.cons rfl (fun Z hZ => ?_) ?_
 simp [row_map, encE_mk, encTy_def, h3]
 refine hZ _ ?_
 clear hZ Z
 refine ANY_one 1 (by kernel_rfl) rfl fun Z hZ => ?_
 simp [row_map, encE_mk, encTy_def, h3]
 refine hZ _ ?_
 clear hZ Z
 refine ANY_one 2 (by kernel_rfl) rfl fun Z hZ => ?_
 simp [row_map, encE_mk, encTy_def, h3]
 refine hZ _ ?_
 clear hZ Z
 refine ANY_push2 hpo (by kernel_rfl) rfl rfl rfl rfl rfl rfl ⟨by kernel_rfl, by kernel_rfl⟩ (by refine ⟨?_, ?_, ?_, ?_, ⟨none, ?_⟩, ?_, ?_, ?_, ?_, ?_, ?_⟩ <;> simp [row_map, encE_mk, encTy_def, h3] <;> omega) ?_
 simp [row_map, encE_mk, encTy_def, h3]
 refine hK _ (by first | rfl | simp) ?_
 simp [hu9, encTy_mk]
 exact AnyAll.nil
 exact AnyAll.nil
 refine AnyAll.cons rfl (fun Z hZ => ?_) ?_
 simp [row_map, encE_mk, encTy_def, h3]
 refine hZ _ ?_
 clear hZ Z
 refine ANY_ready [0, 2, 4] (by kernel_rfl) (by simp) ?_
 refine AnyAll.cons rfl (fun Z hZ => ?_) ?_
 simp [row_map, encE_mk, encTy_def, h3]
 refine hZ _ ?_
 clear hZ Z
 refine ANY_ready [2, 3, 4] (by kernel_rfl) (by simp) ?_
 refine AnyAll.cons rfl (fun Z hZ => ?_) ?_
 simp [row_map, encE_mk, encTy_def, h3]
 refine hZ _ ?_
 clear hZ Z
 refine ANY_ready [3, 4] (by kernel_rfl) (by simp) ?_
 refine AnyAll.cons rfl (fun Z hZ => ?_) ?_
 simp [row_map, encE_mk, encTy_def, h3]
 refine hZ _ ?_
 clear hZ Z
 refine ANY_one 4 (by kernel_rfl) rfl fun Z hZ => ?_
 simp [row_map, encE_mk, encTy_def, h3]
 refine hZ _ ?_
 clear hZ Z
 refine ANY_push2 hpo (by kernel_rfl) rfl rfl rfl rfl rfl rfl ⟨by kernel_rfl, by kernel_rfl⟩ (by refine ⟨?_, ?_, ?_, ?_, ⟨none, ?_⟩, ?_, ?_, ?_, ?_, ?_, ?_⟩ <;> simp [row_map, encE_mk, encTy_def, h3] <;> omega) ?_
 simp [row_map, encE_mk, encTy_def, h3]
 refine hK _ (by first | rfl | simp) ?_
 simp [hu9, encTy_mk]
 refine AnyAll.cons rfl (fun Z hZ => ?_) ?_
 simp [row_map, encE_mk, encTy_def, h3]
 refine hZ _ ?_
 clear hZ Z
 refine ANY_one 3 (by kernel_rfl) rfl fun Z hZ => ?_
 simp [row_map, encE_mk, encTy_def, h3]
 refine hZ _ ?_
 clear hZ Z
 refine ANY_push2 hpo (by kernel_rfl) rfl rfl rfl rfl rfl rfl ⟨by kernel_rfl, by kernel_rfl⟩ (by refine ⟨?_, ?_, ?_, ?_, ⟨none, ?_⟩, ?_, ?_, ?_, ?_, ?_, ?_⟩ <;> simp [row_map, encE_mk, encTy_def, h3] <;> omega) ?_
 simp [row_map, encE_mk, encTy_def, h3]
 refine hK _ (by first | rfl | simp) ?_
 simp [hu9, encTy_mk]
 exact AnyAll.nil
 refine AnyAll.cons rfl (fun Z hZ => ?_) ?_
 simp [row_map, encE_mk, encTy_def, h3]
 refine hZ _ ?_
 clear hZ Z
 refine ANY_ready [2, 4] (by kernel_rfl) (by simp) ?_
 refine AnyAll.cons rfl (fun Z hZ => ?_) ?_
 simp [row_map, encE_mk, encTy_def, h3]
 refine hZ _ ?_
 clear hZ Z
 refine ANY_one 4 (by kernel_rfl) rfl fun Z hZ => ?_
 simp [row_map, encE_mk, encTy_def, h3]
 refine hZ _ ?_
 clear hZ Z
 refine ANY_push2 hpo (by kernel_rfl) rfl rfl rfl rfl rfl rfl ⟨by kernel_rfl, by kernel_rfl⟩ (by refine ⟨?_, ?_, ?_, ?_, ⟨none, ?_⟩, ?_, ?_, ?_, ?_, ?_, ?_⟩ <;> simp [row_map, encE_mk, encTy_def, h3] <;> omega) ?_
 simp [row_map, encE_mk, encTy_def, h3]
 refine hK _ (by first | rfl | simp) ?_
 simp [hu9, encTy_mk]
 refine AnyAll.cons rfl (fun Z hZ => ?_) ?_
 simp [row_map, encE_mk, encTy_def, h3]
 refine hZ _ ?_
 clear hZ Z
 refine ANY_one 2 (by kernel_rfl) rfl fun Z hZ => ?_
 simp [row_map, encE_mk, encTy_def, h3]
 refine hZ _ ?_
 clear hZ Z
 refine ANY_push2 hpo (by kernel_rfl) rfl rfl rfl rfl rfl rfl ⟨by kernel_rfl, by kernel_rfl⟩ (by refine ⟨?_, ?_, ?_, ?_, ⟨none, ?_⟩, ?_, ?_, ?_, ?_, ?_, ?_⟩ <;> simp [row_map, encE_mk, encTy_def, h3] <;> omega) ?_
 simp [row_map, encE_mk, encTy_def, h3]
 refine hK _ (by first | rfl | simp) ?_
 simp [hu9, encTy_mk]
 exact AnyAll.nil
 refine AnyAll.cons rfl (fun Z hZ => ?_) ?_
 simp [row_map, encE_mk, encTy_def, h3]
 refine hZ _ ?_
 clear hZ Z
 refine ANY_ready [2, 3] (by kernel_rfl) (by simp) ?_
 refine AnyAll.cons rfl (fun Z hZ => ?_) ?_
 simp [row_map, encE_mk, encTy_def, h3]
 refine hZ _ ?_
 clear hZ Z
 refine ANY_one 3 (by kernel_rfl) rfl fun Z hZ => ?_
 simp [row_map, encE_mk, encTy_def, h3]
 refine hZ _ ?_
 clear hZ Z
 refine ANY_push2 hpo (by kernel_rfl) rfl rfl rfl rfl rfl rfl ⟨by kernel_rfl, by kernel_rfl⟩ (by refine ⟨?_, ?_, ?_, ?_, ⟨none, ?_⟩, ?_, ?_, ?_, ?_, ?_, ?_⟩ <;> simp [row_map, encE_mk, encTy_def, h3] <;> omega) ?_
 simp [row_map, encE_mk, encTy_def, h3]
 refine hK _ (by first | rfl | simp) ?_
 simp [hu9, encTy_mk]
 refine AnyAll.cons rfl (fun Z hZ => ?_) ?_
 simp [row_map, encE_mk, encTy_def, h3]
 refine hZ _ ?_
 clear hZ Z
 refine ANY_one 2 (by kernel_rfl) rfl fun Z hZ => ?_
 simp [row_map, encE_mk, encTy_def, h3]
 refine hZ _ ?_
 clear hZ Z
 refine ANY_push2 hpo (by kernel_rfl) rfl rfl rfl rfl rfl rfl ⟨by kernel_rfl, by kernel_rfl⟩ (by refine ⟨?_, ?_, ?_, ?_, ⟨none, ?_⟩, ?_, ?_, ?_, ?_, ?_, ?_⟩ <;> simp [row_map, encE_mk, encTy_def, h3] <;> omega) ?_
 simp [row_map, encE_mk, encTy_def, h3]
 refine hK _ (by first | rfl | simp) ?_
 simp [hu9, encTy_mk]
 exact AnyAll.nil
 exact AnyAll.nil
 refine AnyAll.cons rfl (fun Z hZ => ?_) ?_
 simp [row_map, encE_mk, encTy_def, h3]
 refine hZ _ ?_
 clear hZ Z
 refine ANY_ready [0, 4] (by kernel_rfl) (by simp) ?_
 refine AnyAll.cons rfl (fun Z hZ => ?_) ?_
 simp [row_map, encE_mk, encTy_def, h3]
 refine hZ _ ?_
 clear hZ Z
 refine ANY_ready [3, 4] (by kernel_rfl) (by simp) ?_
 refine AnyAll.cons rfl (fun Z hZ => ?_) ?_
 simp [row_map, encE_mk, encTy_def, h3]
 refine hZ _ ?_
 clear hZ Z
 refine ANY_one 4 (by kernel_rfl) rfl fun Z hZ => ?_
 simp [row_map, encE_mk, encTy_def, h3]
 refine hZ _ ?_
 clear hZ Z
 refine ANY_push2 hpo (by kernel_rfl) rfl rfl rfl rfl rfl rfl ⟨by kernel_rfl, by kernel_rfl⟩ (by refine ⟨?_, ?_, ?_, ?_, ⟨none, ?_⟩, ?_, ?_, ?_, ?_, ?_, ?_⟩ <;> simp [row_map, encE_mk, encTy_def, h3] <;> omega) ?_
 simp [row_map, encE_mk, encTy_def, h3]
 refine hK _ (by first | rfl | simp) ?_
 simp [hu9, encTy_mk]
 refine AnyAll.cons rfl (fun Z hZ => ?_) ?_
 simp [row_map, encE_mk, encTy_def, h3]
 refine hZ _ ?_
 clear hZ Z
 refine ANY_one 3 (by kernel_rfl) rfl fun Z hZ => ?_
 simp [row_map, encE_mk, encTy_def, h3]
 refine hZ _ ?_
 clear hZ Z
 refine ANY_push2 hpo (by kernel_rfl) rfl rfl rfl rfl rfl rfl ⟨by kernel_rfl, by kernel_rfl⟩ (by refine ⟨?_, ?_, ?_, ?_, ⟨none, ?_⟩, ?_, ?_, ?_, ?_, ?_, ?_⟩ <;> simp [row_map, encE_mk, encTy_def, h3] <;> omega) ?_
 simp [row_map, encE_mk, encTy_def, h3]
 refine hK _ (by first | rfl | simp) ?_
 simp [hu9, encTy_mk]
 exact AnyAll.nil
 refine AnyAll.cons rfl (fun Z hZ => ?_) ?_
 simp [row_map, encE_mk, encTy_def, h3]
 refine hZ _ ?_
 clear hZ Z
 refine ANY_one 0 (by kernel_rfl) rfl fun Z hZ => ?_
 simp [row_map, encE_mk, encTy_def, h3]
 refine hZ _ ?_
 clear hZ Z
 refine ANY_one 3 (by kernel_rfl) rfl fun Z hZ => ?_
 simp [row_map, encE_mk, encTy_def, h3]
 refine hZ _ ?_
 clear hZ Z
 refine ANY_push2 hpo (by kernel_rfl) rfl rfl rfl rfl rfl rfl ⟨by kernel_rfl, by kernel_rfl⟩ (by refine ⟨?_, ?_, ?_, ?_, ⟨none, ?_⟩, ?_, ?_, ?_, ?_, ?_, ?_⟩ <;> simp [row_map, encE_mk, encTy_def, h3] <;> omega) ?_
 simp [row_map, encE_mk, encTy_def, h3]
 refine hK _ (by first | rfl | simp) ?_
 simp [hu9, encTy_mk]
 exact AnyAll.nil
 refine AnyAll.cons rfl (fun Z hZ => ?_) ?_
 simp [row_map, encE_mk, encTy_def, h3]
 refine hZ _ ?_
 clear hZ Z
 refine ANY_ready [0, 2] (by kernel_rfl) (by simp) ?_
 refine AnyAll.cons rfl (fun Z hZ => ?_) ?_
 simp [row_map, encE_mk, encTy_def, h3]
 refine hZ _ ?_
 clear hZ Z
 refine ANY_ready [2, 3] (by kernel_rfl) (by simp) ?_
 refine AnyAll.cons rfl (fun Z hZ => ?_) ?_
 simp [row_map, encE_mk, encTy_def, h3]
 refine hZ _ ?_
 clear hZ Z
 refine ANY_one 3 (by kernel_rfl) rfl fun Z hZ => ?_
 simp [row_map, encE_mk, encTy_def, h3]
 refine hZ _ ?_
 clear hZ Z
 refine ANY_push2 hpo (by kernel_rfl) rfl rfl rfl rfl rfl rfl ⟨by kernel_rfl, by kernel_rfl⟩ (by refine ⟨?_, ?_, ?_, ?_, ⟨none, ?_⟩, ?_, ?_, ?_, ?_, ?_, ?_⟩ <;> simp [row_map, encE_mk, encTy_def, h3] <;> omega) ?_
 simp [row_map, encE_mk, encTy_def, h3]
 refine hK _ (by first | rfl | simp) ?_
 simp [hu9, encTy_mk]
 refine AnyAll.cons rfl (fun Z hZ => ?_) ?_
 simp [row_map, encE_mk, encTy_def, h3]
 refine hZ _ ?_
 clear hZ Z
 refine ANY_one 2 (by kernel_rfl) rfl fun Z hZ => ?_
 simp [row_map, encE_mk, encTy_def, h3]
 refine hZ _ ?_
 clear hZ Z
 refine ANY_push2 hpo (by kernel_rfl) rfl rfl rfl rfl rfl rfl ⟨by kernel_rfl, by kernel_rfl⟩ (by refine ⟨?_, ?_, ?_, ?_, ⟨none, ?_⟩, ?_, ?_, ?_, ?_, ?_, ?_⟩ <;> simp [row_map, encE_mk, encTy_def, h3] <;> omega) ?_
 simp [row_map, encE_mk, encTy_def, h3]
 refine hK _ (by first | rfl | simp) ?_
 simp [hu9, encTy_mk]
 exact AnyAll.nil
 refine AnyAll.cons rfl (fun Z hZ => ?_) ?_
 simp [row_map, encE_mk, encTy_def, h3]
 refine hZ _ ?_
 clear hZ Z
 refine ANY_one 0 (by kernel_rfl) rfl fun Z hZ => ?_
 simp [row_map, encE_mk, encTy_def, h3]
 refine hZ _ ?_
 clear hZ Z
 refine ANY_one 3 (by kernel_rfl) rfl fun Z hZ => ?_
 simp [row_map, encE_mk, encTy_def, h3]
 refine hZ _ ?_
 clear hZ Z
 refine ANY_push2 hpo (by kernel_rfl) rfl rfl rfl rfl rfl rfl ⟨by kernel_rfl, by kernel_rfl⟩ (by refine ⟨?_, ?_, ?_, ?_, ⟨none, ?_⟩, ?_, ?_, ?_, ?_, ?_, ?_⟩ <;> simp [row_map, encE_mk, encTy_def, h3] <;> omega) ?_
 simp [row_map, encE_mk, encTy_def, h3]
 refine hK _ (by first | rfl | simp) ?_
 simp [hu9, encTy_mk]
 exact AnyAll.nil
 exact AnyAll.nil
 refine AnyAll.cons rfl (fun Z hZ => ?_) ?_
 simp [row_map, encE_mk, encTy_def, h3]
 refine hZ _ ?_
 clear hZ Z
 refine ANY_ready [0, 1] (by kernel_rfl) (by simp) ?_
 refine AnyAll.cons rfl (fun Z hZ => ?_) ?_
 simp [row_map, encE_mk, encTy_def, h3]
 refine hZ _ ?_
 clear hZ Z
 refine ANY_ready [1, 3] (by kernel_rfl) (by simp) ?_
 refine AnyAll.cons rfl (fun Z hZ => ?_) ?_
 simp [row_map, encE_mk, encTy_def, h3]
 refine hZ _ ?_
 clear hZ Z
 refine ANY_ready [2, 3] (by kernel_rfl) (by simp) ?_
 refine AnyAll.cons rfl (fun Z hZ => ?_) ?_
 simp [row_map, encE_mk, encTy_def, h3]
 refine hZ _ ?_
 clear hZ Z
 refine ANY_one 3 (by kernel_rfl) rfl fun Z hZ => ?_
 simp [row_map, encE_mk, encTy_def, h3]
 refine hZ _ ?_
 clear hZ Z
 refine ANY_push2 hpo (by kernel_rfl) rfl rfl rfl rfl rfl rfl ⟨by kernel_rfl, by kernel_rfl⟩ (by refine ⟨?_, ?_, ?_, ?_, ⟨none, ?_⟩, ?_, ?_, ?_, ?_, ?_, ?_⟩ <;> simp [row_map, encE_mk, encTy_def, h3] <;> omega) ?_
 simp [row_map, encE_mk, encTy_def, h3]
 refine hK _ (by first | rfl | simp) ?_
 simp [hu9, encTy_mk]
 refine AnyAll.cons rfl (fun Z hZ => ?_) ?_
 simp [row_map, encE_mk, encTy_def, h3]
 refine hZ _ ?_
 clear hZ Z
 refine ANY_one 2 (by kernel_rfl) rfl fun Z hZ => ?_
 simp [row_map, encE_mk, encTy_def, h3]
 refine hZ _ ?_
 clear hZ Z
 refine ANY_push2 hpo (by kernel_rfl) rfl rfl rfl rfl rfl rfl ⟨by kernel_rfl, by kernel_rfl⟩ (by refine ⟨?_, ?_, ?_, ?_, ⟨none, ?_⟩, ?_, ?_, ?_, ?_, ?_, ?_⟩ <;> simp [row_map, encE_mk, encTy_def, h3] <;> omega) ?_
 simp [row_map, encE_mk, encTy_def, h3]
 refine hK _ (by first | rfl | simp) ?_
 simp [hu9, encTy_mk]
 exact AnyAll.nil
 refine AnyAll.cons rfl (fun Z hZ => ?_) ?_
 simp [row_map, encE_mk, encTy_def, h3]
 refine hZ _ ?_
 clear hZ Z
 refine ANY_one 1 (by kernel_rfl) rfl fun Z hZ => ?_
 simp [row_map, encE_mk, encTy_def, h3]
 refine hZ _ ?_
 clear hZ Z
 refine ANY_one 2 (by kernel_rfl) rfl fun Z hZ => ?_
 simp [row_map, encE_mk, encTy_def, h3]
 refine hZ _ ?_
 clear hZ Z
 refine ANY_push2 hpo (by kernel_rfl) rfl rfl rfl rfl rfl rfl ⟨by kernel_rfl, by kernel_rfl⟩ (by refine ⟨?_, ?_, ?_, ?_, ⟨none, ?_⟩, ?_, ?_, ?_, ?_, ?_, ?_⟩ <;> simp [row_map, encE_mk, encTy_def, h3] <;> omega) ?_
 simp [row_map, encE_mk, encTy_def, h3]
 refine hK _ (by first | rfl | simp) ?_
 simp [hu9, encTy_mk]
 exact AnyAll.nil
 refine AnyAll.cons rfl (fun Z hZ => ?_) ?_
 simp [row_map, encE_mk, encTy_def, h3]
 refine hZ _ ?_
 clear hZ Z
 refine ANY_ready [0, 2] (by kernel_rfl) (by simp) ?_
 refine AnyAll.cons rfl (fun Z hZ => ?_) ?_
 simp [row_map, encE_mk, encTy_def, h3]
 refine hZ _ ?_
 clear hZ Z
 refine ANY_ready [2, 3] (by kernel_rfl) (by simp) ?_
 refine AnyAll.cons rfl (fun Z hZ => ?_) ?_
 simp [row_map, encE_mk, encTy_def, h3]
 refine hZ _ ?_
 clear hZ Z
 refine ANY_one 3 (by kernel_rfl) rfl fun Z hZ => ?_
 simp [row_map, encE_mk, encTy_def, h3]
 refine hZ _ ?_
 clear hZ Z
 refine ANY_push2 hpo (by kernel_rfl) rfl rfl rfl rfl rfl rfl ⟨by kernel_rfl, by kernel_rfl⟩ (by refine ⟨?_, ?_, ?_, ?_, ⟨none, ?_⟩, ?_, ?_, ?_, ?_, ?_, ?_⟩ <;> simp [row_map, encE_mk, encTy_def, h3] <;> omega) ?_
 simp [row_map, encE_mk, encTy_def, h3]
 refine hK _ (by first | rfl | simp) ?_
 simp [hu9, encTy_mk]
 refine AnyAll.cons rfl (fun Z hZ => ?_) ?_
 simp [row_map, encE_mk, encTy_def, h3]
 refine hZ _ ?_
 clear hZ Z
 refine ANY_one 2 (by kernel_rfl) rfl fun Z hZ => ?_
 simp [row_map, encE_mk, encTy_def, h3]
 refine hZ _ ?_
 clear hZ Z
 refine ANY_push2 hpo (by kernel_rfl) rfl rfl rfl rfl rfl rfl ⟨by kernel_rfl, by kernel_rfl⟩ (by refine ⟨?_, ?_, ?_, ?_, ⟨none, ?_⟩, ?_, ?_, ?_, ?_, ?_, ?_⟩ <;> simp [row_map, encE_mk, encTy_def, h3] <;> omega) ?_
 simp [row_map, encE_mk, encTy_def, h3]
 refine hK _ (by first | rfl | simp) ?_
 simp [hu9, encTy_mk]
 exact AnyAll.nil
 refine AnyAll.cons rfl (fun Z hZ => ?_) ?_
 simp [row_map, encE_mk, encTy_def, h3]
 refine hZ _ ?_
 clear hZ Z
 refine ANY_one 0 (by kernel_rfl) rfl fun Z hZ => ?_
 simp [row_map, encE_mk, encTy_def, h3]
 refine hZ _ ?_
 clear hZ Z
 refine ANY_one 3 (by kernel_rfl) rfl fun Z hZ => ?_
 simp [row_map, encE_mk, encTy_def, h3]
 refine hZ _ ?_
 clear hZ Z
 refine ANY_push2 hpo (by kernel_rfl) rfl rfl rfl rfl rfl rfl ⟨by kernel_rfl, by kernel_rfl⟩ (by refine ⟨?_, ?_, ?_, ?_, ⟨none, ?_⟩, ?_, ?_, ?_, ?_, ?_, ?_⟩ <;> simp [row_map, encE_mk, encTy_def, h3] <;> omega) ?_
 simp [row_map, encE_mk, encTy_def, h3]
 refine hK _ (by first | rfl | simp) ?_
 simp [hu9, encTy_mk]
 exact AnyAll.nil
 exact AnyAll.nil
 exact AnyAll.nil
 rintro _ rfl
 refine ⟨rfl, by first | rfl | simp [tmOk], [3], by first | rfl | simp, ?_⟩
 simp [AS.out, hu9, encTy_mk]
 intro hfin
 rw [feedG_all]
 simp [bod_all]
 refine hK1 _ ?_
 refine sr fun Z z => ?_
 simp [row_map, encE_mk, encTy_def]
 refine z _ ?_
 clear z Z
 refine AT_ret ?_
 simp [row_map, encE_mk, encTy_def, Tryz.f59]
 skip

theorem c_decl_body (e : Exp) (hw : wtE e ≤ 1000000000) : Valid Tryz.prog (G0 g rnd) 59 [.agg (encE e)] (.slice ((tysE e).map encTy)) := (c_decl_body_z g e hw).gl rfl

end Go.Proofs.YtdifpfehijnmiaaGreatDoor
end

section
/- Contracts: clones. -/
set_option linter.all false
set_option maxHeartbeats 1000000
set_option maxRecDepth 10000
namespace Go.Proofs.YtdifpfehijnmiaaGreatDoor
open Go Go.Pv
variable (g : Nat → Option (List AV)) (rnd : Bool)

theorem c_decl_copies_api_Type (cid : Nat) (l : List Ty) (hl : l.length ≤ 1000000000) (hc : ∀ x ∈ l, Valid Tryz.prog (G0 g rnd) cid [.agg (encTy x)] (.agg (encTy x))) : Valid Tryz.prog (G0 g rnd) 60 [.slice (l.map encTy), .func cid []] (.slice (l.map encTy)) := by

 refine valid_of [(5, 28)] Tryz.func60 rfl (by kernel_rfl) ?_
 refine sr fun Z z => ?_
 simp [row_map, rows_take, Tryz.f60]
 refine z _ ?_
 clear z Z
 refine sr fun Z z => ?_
 simp [row_map, rows_take]
 refine z _ ?_
 clear z Z
 refine AT_seq_k fun K1 hK1 => ?_
 refine sr fun Z z => ?_
 simp [row_map, rows_take]
 refine z _ ?_
 clear z Z
 refine AT_block ?_
 refine AT_loop_q [1,5,8,9,10] [] (fun j s => ∃ k, k ≤ l.length ∧ j = l.length - k ∧ s = { n := 22, tm := [(1, .v (.func cid []) none), (5, .v (.slice ((l.take k).map encTy)) (some (5, 28))), (8, .v (.slice (l.map encTy)) none), (9, .v (.int .i64 l.length) none), (10, .v (.int .i64 k) none)], bx := [], tb := [], sh := [], hint := [(5, 28)] }) (l.length) (by first | rfl | simp) ?_ ?_
 exact ⟨0, by simp⟩
 rintro j s ⟨k, hk, rfl, rfl⟩ K2 hK2
 refine sr fun Z z => ?_
 simp [row_map, rows_take]
 refine z _ ?_
 clear z Z
 refine AT_seq_k fun K3 hK3 => ?_
 refine AT_cond (g := none) rfl (fun hb11 => ?_) (fun hb11 => ?_)
 simp [row_map, rows_take] at hb11
 refine AT_skip ?_
 refine hK3 _ ?_
 refine AT_seq_k fun K4 hK4 => ?_
 refine AT_block ?_
 refine sr fun Z z => ?_
 simp [row_map, rows_take, hb11]
 refine z _ ?_
 clear z Z
 refine AT_region_q fun Z z => ?_
 simp [row_map, rows_take, hb11]
 refine RVn_call (hc l[k] (by simp)) ?_
 simp [row_map, rows_take, hb11]
 repeat refine sg ?_
 refine z _ ?_
 clear z Z
 refine hK4 _ ?_
 refine AT_region_q fun Z z => ?_
 simp [row_map, rows_take, hb11]
 repeat refine sg ?_
 refine z _ ?_
 clear z Z
 refine hK2 _ (by first | rfl | simp) (l.length - (k+1)) (by omega) ?_
 refine ⟨k+1, by omega, by omega, ?_⟩
 have hk9 : k < l.length := by omega
 simp [List.take_succ_eq_append_getElem hk9, -List.take_append_getElem]
 simp [row_map, rows_take] at hb11
 refine AT_exit ?_
 refine hK1 _ ?_
 refine sr fun Z z => ?_
 simp [row_map, rows_take, hb11]
 refine z _ ?_
 clear z Z
 refine AT_ret ?_
 simp [row_map, rows_take, Tryz.f60]
 rw [List.take_of_length_le (by simp; omega)]

theorem c_decl_copies_api_Formal (cid : Nat) (l : List Fm) (hl : l.length ≤ 1000000000) (hc : ∀ x ∈ l, Valid Tryz.prog (G0 g rnd) cid [.agg (encF x)] (.agg (encF x))) : Valid Tryz.prog (G0 g rnd) 112 [.slice (l.map encF), .func cid []] (.slice (l.map encF)) := by

 refine valid_of [(5, 51)] Tryz.func112 rfl (by kernel_rfl) ?_
 refine sr fun Z z => ?_
 simp [row_map, rows_take, Tryz.f112]
 refine z _ ?_
 clear z Z
 refine sr fun Z z => ?_
 simp [row_map, rows_take]
 refine z _ ?_
 clear z Z
 refine AT_seq_k fun K1 hK1 => ?_
 refine sr fun Z z => ?_
 simp [row_map, rows_take]
 refine z _ ?_
 clear z Z
 refine AT_block ?_
 refine AT_loop_q [1,5,8,9,10] [] (fun j s => ∃ k, k ≤ l.length ∧ j = l.length - k ∧ s = { n := 22, tm := [(1, .v (.func cid []) none), (5, .v (.slice ((l.take k).map encF)) (some (5, 51))), (8, .v (.slice (l.map encF)) none), (9, .v (.int .i64 l.length) none), (10, .v (.int .i64 k) none)], bx := [], tb := [], sh := [], hint := [(5, 51)] }) (l.length) (by first | rfl | simp) ?_ ?_
 exact ⟨0, by simp⟩
 rintro j s ⟨k, hk, rfl, rfl⟩ K2 hK2
 refine sr fun Z z => ?_
 simp [row_map, rows_take]
 refine z _ ?_
 clear z Z
 refine AT_seq_k fun K3 hK3 => ?_
 refine AT_cond (g := none) rfl (fun hb11 => ?_) (fun hb11 => ?_)
 simp [row_map, rows_take] at hb11
 refine AT_skip ?_
 refine hK3 _ ?_
 refine AT_seq_k fun K4 hK4 => ?_
 refine AT_block ?_
 refine sr fun Z z => ?_
 simp [row_map, rows_take, hb11]
 refine z _ ?_
 clear z Z
 refine AT_region_q fun Z z => ?_
 simp [row_map, rows_take, hb11]
 refine RVn_call (hc l[k] (by simp)) ?_
 simp [row_map, rows_take, hb11]
 repeat refine sg ?_
 refine z _ ?_
 clear z Z
 refine hK4 _ ?_
 refine AT_region_q fun Z z => ?_
 simp [row_map, rows_take, hb11]
 repeat refine sg ?_
 refine z _ ?_
 clear z Z
 refine hK2 _ (by first | rfl | simp) (l.length - (k+1)) (by omega) ?_
 refine ⟨k+1, by omega, by omega, ?_⟩
 have hk9 : k < l.length := by omega
 simp [List.take_succ_eq_append_getElem hk9, -List.take_append_getElem]
 simp [row_map, rows_take] at hb11
 refine AT_exit ?_
 refine hK1 _ ?_
 refine sr fun Z z => ?_
 simp [row_map, rows_take, hb11]
 refine z _ ?_
 clear z Z
 refine AT_ret ?_
 simp [row_map, rows_take, Tryz.f112]
 rw [List.take_of_length_le (by simp; omega)]

theorem c_decl_copies_api_Param (cid : Nat) (l : List Fm) (hl : l.length ≤ 1000000000) (hc : ∀ x ∈ l, Valid Tryz.prog (G0 g rnd) cid [.agg (encF x)] (.agg (encF x))) : Valid Tryz.prog (G0 g rnd) 114 [.slice (l.map encF), .func cid []] (.slice (l.map encF)) := by

 refine valid_of [(5, 53)] Tryz.func114 rfl (by kernel_rfl) ?_
 refine sr fun Z z => ?_
 simp [row_map, rows_take, Tryz.f114]
 refine z _ ?_
 clear z Z
 refine sr fun Z z => ?_
 simp [row_map, rows_take]
 refine z _ ?_
 clear z Z
 refine AT_seq_k fun K1 hK1 => ?_
 refine sr fun Z z => ?_
 simp [row_map, rows_take]
 refine z _ ?_
 clear z Z
 refine AT_block ?_
 refine AT_loop_q [1,5,8,9,10] [] (fun j s => ∃ k, k ≤ l.length ∧ j = l.length - k ∧ s = { n := 22, tm := [(1, .v (.func cid []) none), (5, .v (.slice ((l.take k).map encF)) (some (5, 53))), (8, .v (.slice (l.map encF)) none), (9, .v (.int .i64 l.length) none), (10, .v (.int .i64 k) none)], bx := [], tb := [], sh := [], hint := [(5, 53)] }) (l.length) (by first | rfl | simp) ?_ ?_
 exact ⟨0, by simp⟩
 rintro j s ⟨k, hk, rfl, rfl⟩ K2 hK2
 refine sr fun Z z => ?_
 simp [row_map, rows_take]
 refine z _ ?_
 clear z Z
 refine AT_seq_k fun K3 hK3 => ?_
 refine AT_cond (g := none) rfl (fun hb11 => ?_) (fun hb11 => ?_)
 simp [row_map, rows_take] at hb11
 refine AT_skip ?_
 refine hK3 _ ?_
 refine AT_seq_k fun K4 hK4 => ?_
 refine AT_block ?_
 refine sr fun Z z => ?_
 simp [row_map, rows_take, hb11]
 refine z _ ?_
 clear z Z
 refine AT_region_q fun Z z => ?_
 simp [row_map, rows_take, hb11]
 refine RVn_call (hc l[k] (by simp)) ?_
 simp [row_map, rows_take, hb11]
 repeat refine sg ?_
 refine z _ ?_
 clear z Z
 refine hK4 _ ?_
 refine AT_region_q fun Z z => ?_
 simp [row_map, rows_take, hb11]
 repeat refine sg ?_
 refine z _ ?_
 clear z Z
 refine hK2 _ (by first | rfl | simp) (l.length - (k+1)) (by omega) ?_
 refine ⟨k+1, by omega, by omega, ?_⟩
 have hk9 : k < l.length := by omega
 simp [List.take_succ_eq_append_getElem hk9, -List.take_append_getElem]
 simp [row_map, rows_take] at hb11
 refine AT_exit ?_
 refine hK1 _ ?_
 refine sr fun Z z => ?_
 simp [row_map, rows_take, hb11]
 refine z _ ?_
 clear z Z
 refine AT_ret ?_
 simp [row_map, rows_take, Tryz.f114]
 rw [List.take_of_length_le (by simp; omega)]

theorem c_decl_copies_api_Sig (cid : Nat) (l : List Sg) (hl : l.length ≤ 1000000000) (hc : ∀ x ∈ l, Valid Tryz.prog (G0 g rnd) cid [.agg (encG x)] (.agg (encG x))) : Valid Tryz.prog (G0 g rnd) 116 [.slice (l.map encG), .func cid []] (.slice (l.map encG)) := by

 refine valid_of [(5, 30)] Tryz.func116 rfl (by kernel_rfl) ?_
 refine sr fun Z z => ?_
 simp [row_map, rows_take, Tryz.f116]
 refine z _ ?_
 clear z Z
 refine sr fun Z z => ?_
 simp [row_map, rows_take]
 refine z _ ?_
 clear z Z
 refine AT_seq_k fun K1 hK1 => ?_
 refine sr fun Z z => ?_
 simp [row_map, rows_take]
 refine z _ ?_
 clear z Z
 refine AT_block ?_
 refine AT_loop_q [1,5,8,9,10] [] (fun j s => ∃ k, k ≤ l.length ∧ j = l.length - k ∧ s = { n := 22, tm := [(1, .v (.func cid []) none), (5, .v (.slice ((l.take k).map encG)) (some (5, 30))), (8, .v (.slice (l.map encG)) none), (9, .v (.int .i64 l.length) none), (10, .v (.int .i64 k) none)], bx := [], tb := [], sh := [], hint := [(5, 30)] }) (l.length) (by first | rfl | simp) ?_ ?_
 exact ⟨0, by simp⟩
 rintro j s ⟨k, hk, rfl, rfl⟩ K2 hK2
 refine sr fun Z z => ?_
 simp [row_map, rows_take]
 refine z _ ?_
 clear z Z
 refine AT_seq_k fun K3 hK3 => ?_
 refine AT_cond (g := none) rfl (fun hb11 => ?_) (fun hb11 => ?_)
 simp [row_map, rows_take] at hb11
 refine AT_skip ?_
 refine hK3 _ ?_
 refine AT_seq_k fun K4 hK4 => ?_
 refine AT_block ?_
 refine sr fun Z z => ?_
 simp [row_map, rows_take, hb11]
 refine z _ ?_
 clear z Z
 refine AT_region_q fun Z z => ?_
 simp [row_map, rows_take, hb11]
 refine RVn_call (hc l[k] (by simp)) ?_
 simp [row_map, rows_take, hb11]
 repeat refine sg ?_
 refine z _ ?_
 clear z Z
 refine hK4 _ ?_
 refine AT_region_q fun Z z => ?_
 simp [row_map, rows_take, hb11]
 repeat refine sg ?_
 refine z _ ?_
 clear z Z
 refine hK2 _ (by first | rfl | simp) (l.length - (k+1)) (by omega) ?_
 refine ⟨k+1, by omega, by omega, ?_⟩
 have hk9 : k < l.length := by omega
 simp [List.take_succ_eq_append_getElem hk9, -List.take_append_getElem]
 simp [row_map, rows_take] at hb11
 refine AT_exit ?_
 refine hK1 _ ?_
 refine sr fun Z z => ?_
 simp [row_map, rows_take, hb11]
 refine z _ ?_
 clear z Z
 refine AT_ret ?_
 simp [row_map, rows_take, Tryz.f116]
 rw [List.take_of_length_le (by simp; omega)]

theorem c_decl_copies_api_Decl (cid : Nat) (l : List Dc) (hl : l.length ≤ 1000000000) (hc : ∀ x ∈ l, Valid Tryz.prog (G0 g rnd) cid [.agg (encD x)] (.agg (encD x))) : Valid Tryz.prog (G0 g rnd) 74 [.slice (l.map encD), .func cid []] (.slice (l.map encD)) := by

 refine valid_of [(5, 35)] Tryz.func74 rfl (by kernel_rfl) ?_
 refine sr fun Z z => ?_
 simp [row_map, rows_take, Tryz.f74]
 refine z _ ?_
 clear z Z
 refine sr fun Z z => ?_
 simp [row_map, rows_take]
 refine z _ ?_
 clear z Z
 refine AT_seq_k fun K1 hK1 => ?_
 refine sr fun Z z => ?_
 simp [row_map, rows_take]
 refine z _ ?_
 clear z Z
 refine AT_block ?_
 refine AT_loop_q [1,5,8,9,10] [] (fun j s => ∃ k, k ≤ l.length ∧ j = l.length - k ∧ s = { n := 22, tm := [(1, .v (.func cid []) none), (5, .v (.slice ((l.take k).map encD)) (some (5, 35))), (8, .v (.slice (l.map encD)) none), (9, .v (.int .i64 l.length) none), (10, .v (.int .i64 k) none)], bx := [], tb := [], sh := [], hint := [(5, 35)] }) (l.length) (by first | rfl | simp) ?_ ?_
 exact ⟨0, by simp⟩
 rintro j s ⟨k, hk, rfl, rfl⟩ K2 hK2
 refine sr fun Z z => ?_
 simp [row_map, rows_take]
 refine z _ ?_
 clear z Z
 refine AT_seq_k fun K3 hK3 => ?_
 refine AT_cond (g := none) rfl (fun hb11 => ?_) (fun hb11 => ?_)
 simp [row_map, rows_take] at hb11
 refine AT_skip ?_
 refine hK3 _ ?_
 refine AT_seq_k fun K4 hK4 => ?_
 refine AT_block ?_
 refine sr fun Z z => ?_
 simp [row_map, rows_take, hb11]
 refine z _ ?_
 clear z Z
 refine AT_region_q fun Z z => ?_
 simp [row_map, rows_take, hb11]
 refine RVn_call (hc l[k] (by simp)) ?_
 simp [row_map, rows_take, hb11]
 repeat refine sg ?_
 refine z _ ?_
 clear z Z
 refine hK4 _ ?_
 refine AT_region_q fun Z z => ?_
 simp [row_map, rows_take, hb11]
 repeat refine sg ?_
 refine z _ ?_
 clear z Z
 refine hK2 _ (by first | rfl | simp) (l.length - (k+1)) (by omega) ?_
 refine ⟨k+1, by omega, by omega, ?_⟩
 have hk9 : k < l.length := by omega
 simp [List.take_succ_eq_append_getElem hk9, -List.take_append_getElem]
 simp [row_map, rows_take] at hb11
 refine AT_exit ?_
 refine hK1 _ ?_
 refine sr fun Z z => ?_
 simp [row_map, rows_take, hb11]
 refine z _ ?_
 clear z Z
 refine AT_ret ?_
 simp [row_map, rows_take, Tryz.f74]
 rw [List.take_of_length_le (by simp; omega)]

theorem c_decl_cloneFormal (a : Fm) (hw : wtF a ≤ 1000000000) : Valid Tryz.prog (G0 g rnd) 113 [.agg (encF a)] (.agg (encF a)) := by
 have hw2 : a.name.length + 1 + wt a.ty ≤ 1000000000 := hw
 refine valid_of [] Tryz.func113 rfl (by kernel_rfl) ?_
 refine sr fun Z z => ?_
 simp [encF, Tryz.f113]
 refine z _ ?_
 clear z Z
 refine sr fun Z z => ?_
 simp [encF]
 refine RVn_call ((by have h := c_types_Clone g rnd a.ty (by omega); simp only [encTy_def] at h; exact h)) ?_
 simp [encF]
 refine z _ ?_
 clear z Z
 refine sr fun Z z => ?_
 simp [encF]
 refine z _ ?_
 clear z Z
 refine AT_ret ?_
 simp [encF, Tryz.f113]

theorem c_decl_cloneParam (a : Fm) (hw : wtF a ≤ 1000000000) : Valid Tryz.prog (G0 g rnd) 115 [.agg (encF a)] (.agg (encF a)) := by
 have hw2 : a.name.length + 1 + wt a.ty ≤ 1000000000 := hw
 refine valid_of [] Tryz.func115 rfl (by kernel_rfl) ?_
 refine sr fun Z z => ?_
 simp [encF, Tryz.f115]
 refine z _ ?_
 clear z Z
 refine sr fun Z z => ?_
 simp [encF]
 refine RVn_call ((by have h := c_types_Clone g rnd a.ty (by omega); simp only [encTy_def] at h; exact h)) ?_
 simp [encF]
 refine z _ ?_
 clear z Z
 refine sr fun Z z => ?_
 simp [encF]
 refine z _ ?_
 clear z Z
 refine AT_ret ?_
 simp [encF, Tryz.f115]

theorem c_decl_cloneSig (a : Sg) (hw : wtG a ≤ 1000000000) : Valid Tryz.prog (G0 g rnd) 117 [.agg (encG a)] (.agg (encG a)) := by
 have hw2 : a.name.length + 1 + wtFs a.fms + wtFs a.pms + wt a.res ≤ 1000000000 := hw
 refine valid_of [] Tryz.func117 rfl (by kernel_rfl) ?_
 refine sr fun Z z => ?_
 simp [encG, Tryz.f117]
 refine z _ ?_
 clear z Z
 refine AT_seq_draw Pt.mixed (by kernel_rfl) fun Z z => ?_
 simp [encG]
 refine RVdn_call (c_decl_copies_api_Formal g rnd 113 a.fms (by have := wtFs_len a.fms; omega) (fun x hx => c_decl_cloneFormal g rnd x (by have := wtFs_mem hx; omega))) ?_
 simp [encG]
 refine RVdn_call (c_decl_copies_api_Param g rnd 115 a.pms (by have := wtFs_len a.pms; omega) (fun x hx => c_decl_cloneParam g rnd x (by have := wtFs_mem hx; omega))) ?_
 simp [encG]
 refine RVdn_call ((by have h := c_types_Clone g rnd a.res (by omega); simp only [encTy_def] at h; exact h)) ?_
 simp [encG]
 refine z _ ?_
 clear z Z
 refine sr fun Z z => ?_
 simp [encG]
 refine z _ ?_
 clear z Z
 refine AT_ret ?_
 simp [encG, Tryz.f117]

theorem c_slices_Clone_string_string (l : List Str) (hl : l.length ≤ 1000000000) : Valid Tryz.prog (G0 g rnd) 118 [.slice (l.map encS)] (.slice (l.map encS)) := by

 refine valid_of [(5, 9)] Tryz.func118 rfl (by kernel_rfl) ?_
 refine sr fun Z z => ?_
 simp [encS, Tryz.f118]
 refine z _ ?_
 clear z Z
 refine AT_seq_k fun K1 hK1 => ?_
 rcases l with _ | ⟨x, l⟩
 refine sr fun Z z => ?_
 simp [encS]
 refine z _ ?_
 clear z Z
 refine AT_condU rfl ?_ ?_
 refine sr fun Z z => ?_
 simp [encS]
 refine z _ ?_
 clear z Z
 refine AT_ret ?_
 simp [encS, Tryz.f118]
 refine AT_skip ?_
 refine hK1 _ ?_
 refine sr fun Z z => ?_
 simp [encS]
 refine z _ ?_
 clear z Z
 refine AT_ret ?_
 simp [encS, Tryz.f118]
 refine sr fun Z z => ?_
 simp [encS]
 refine z _ ?_
 clear z Z
 refine cF (by simp) ?_
 refine AT_skip ?_
 refine hK1 _ ?_
 refine sr fun Z z => ?_
 simp [encS]
 repeat refine sg ?_
 refine z _ ?_
 clear z Z
 refine AT_ret ?_
 simp [encS, Tryz.f118]

end Go.Proofs.YtdifpfehijnmiaaGreatDoor
end

section
/- Contracts: clones of declarations and programs. -/
set_option linter.all false
set_option maxHeartbeats 1000000
set_option maxRecDepth 10000
namespace Go.Proofs.YtdifpfehijnmiaaGreatDoor
open Go Go.Pv
variable (g : Nat → Option (List AV)) (rnd : Bool)

theorem c_decl_cloneDecl (a : Dc) (hw : wtD a ≤ 1000000000) : Valid Tryz.prog (G0 g rnd) 75 [.agg (encD a)] (.agg (encD a)) := by
 have hw2 : a.name.length + 1 + wtFs a.fms + wtFs a.flds + wtGs a.sigs + a.recv.length + wtSs a.vars + wtG a.sig + wtE a.body ≤ 1000000000 := hw
 refine valid_of [] Tryz.func75 rfl (by kernel_rfl) ?_
 refine sr fun Z z => ?_
 simp [encD, Tryz.f75]
 refine z _ ?_
 clear z Z
 refine AT_seq_draw Pt.mixed (by kernel_rfl) fun Z z => ?_
 simp [encD]
 refine RVdn_call (c_decl_copies_api_Formal g rnd 113 a.fms (by have := wtFs_len a.fms; omega) (fun x hx => c_decl_cloneFormal g rnd x (by have := wtFs_mem hx; omega))) ?_
 simp [encD]
 refine RVdn_call (c_decl_copies_api_Param g rnd 115 a.flds (by have := wtFs_len a.flds; omega) (fun x hx => c_decl_cloneParam g rnd x (by have := wtFs_mem hx; omega))) ?_
 simp [encD]
 refine RVdn_call (c_decl_copies_api_Sig g rnd 117 a.sigs (by have := wtGs_len a.sigs; omega) (fun x hx => c_decl_cloneSig g rnd x (by have := wtGs_mem hx; omega))) ?_
 simp [encD]
 refine z _ ?_
 clear z Z
 refine AT_seq_draw Pt.mixed (by kernel_rfl) fun Z z => ?_
 simp [encD]
 refine RVdn_call (c_slices_Clone_string_string g rnd a.vars (by have := wtSs_len a.vars; omega)) ?_
 simp [encD]
 refine RVdn_call ((by have h := c_decl_cloneSig g rnd a.sig (by omega); simp only [encG] at h; exact h)) ?_
 simp [encD]
 refine RVdn_call ((by have h := c_expr_Clone g rnd a.body (by omega); simp only [encE_def] at h; exact h)) ?_
 simp [encD]
 refine z _ ?_
 clear z Z
 refine sr fun Z z => ?_
 simp [encD]
 refine z _ ?_
 clear z Z
 refine AT_ret ?_
 simp [encD, Tryz.f75]

theorem c_decl_Clone (a : Pg) (hw : wtPg a ≤ 1000000000) : Valid Tryz.prog (G0 g rnd) 23 [.agg (encPg a)] (.agg (encPg a)) := by
 have hw2 : wtDs a.decls + wtE a.main ≤ 1000000000 := hw
 refine valid_of [] Tryz.func23 rfl (by kernel_rfl) ?_
 refine sr fun Z z => ?_
 simp [encPg, Tryz.f23]
 refine z _ ?_
 clear z Z
 refine AT_seq_draw Pt.mixed (by kernel_rfl) fun Z z => ?_
 simp [encPg]
 refine RVdn_call (c_decl_copies_api_Decl g rnd 75 a.decls (by have := wtDs_len a.decls; omega) (fun x hx => c_decl_cloneDecl g rnd x (by have := wtDs_mem hx; omega))) ?_
 simp [encPg]
 refine RVdn_call ((by have h := c_expr_Clone g rnd a.main (by omega); simp only [encE_def] at h; exact h)) ?_
 simp [encPg]
 refine z _ ?_
 clear z Z
 refine AT_ret ?_
 simp [encPg, Tryz.f23]

end Go.Proofs.YtdifpfehijnmiaaGreatDoor
end

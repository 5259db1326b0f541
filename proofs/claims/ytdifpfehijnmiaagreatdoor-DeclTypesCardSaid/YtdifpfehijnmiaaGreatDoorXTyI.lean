import Derived.Test.YtdifpfehijnmiaaGreatDoorPt
import Derived.Test.YtdifpfehijnmiaaGreatDoorPvXa
import Derived.Test.YtdifpfehijnmiaaGreatDoorPvY
import Derived.Test.YtdifpfehijnmiaaGreatDoorXDcH
import Derived.Test.YtdifpfehijnmiaaGreatDoorPvP
import Derived.Test.YtdifpfehijnmiaaGreatDoorXExE
import Derived.Test.YtdifpfehijnmiaaGreatDoorXNaB
section
/- Contracts: the types of an expression. -/
set_option linter.all false
set_option maxHeartbeats 1000000
set_option maxRecDepth 10000
namespace Go.Proofs.YtdifpfehijnmiaaGreatDoor
open Go Go.Pv
variable (g : Nat → Option (List AV)) (rnd : Bool)

theorem c_decl_body_z (e : Exp) (hw : wtE e ≤ 1000000000) : Valid Tryz.prog (G0 g false) 59 [.agg (encE e)] (.slice ((tysE e).map encTy)) := by

 refine valid_of [(103000, 28)] Tryz.func59 rfl (by kernel_rfl) ?_
 refine sr fun Z z => ?_
 simp [row_map, encE_mk, encTy_def, Tryz.f59]
 refine z _ ?_
 clear z Z
 refine sr fun Z z => ?_
 simp [row_map, encE_mk, encTy_def]
 refine z _ ?_
 clear z Z
 refine AT_seq_k fun K1 hK1 => ?_
 refine sr fun Z z => ?_
 simp [row_map, encE_mk, encTy_def]
 refine RVn_call (c_expr_All g false e) ?_
 simp [row_map, encE_mk, encTy_def]
 refine z _ ?_
 clear z Z
 refine AT_block ?_
 refine AT_keep [3,6] [3] (by first | rfl | simp) ?_
 refine AT_rangeFunc rfl rfl (by first | rfl | simp) (by first | decide | simp) [3] (by decide) (elP ((lstE e).map avE)) (fun _ _ => true) (feedG (fun _ _ => true) [] ((lstE e).map avE)) (fun Y hP hgo hel => ⟨_, by have h := c_expr_All_1 g Y hP e hw [] (elOk_P hel _ _ (by simp)); rw [feed_G, hgo] at h; exact h⟩) (fun s => { n := 28, tm := [(3, .lp 3 0), (6, .v (.func 108 [.ro (encE e)]) none)], bx := [(3, [.slice ((flT (bodL e) s.length).map encTy)])], tb := [(3, 0, 103000, 28)], sh := [], hint := [(103000, 28)] }) (by first | rfl | simp [flT_nil]) ?_ ?_
 intro s x hel
 obtain ⟨hs, rfl⟩ := elP_getE hel
 have hb9 := bod_le e s.length hs
 have hg9 := flT_len (bodL e) s.length
 have ht9 := ta_le (lstE e)[s.length]
 have hu9 := bod_succ e s.length hs
 generalize (lstE e)[s.length] = x at hb9 ht9 hu9 ⊢
 obtain ⟨kd, nm, ⟨tn, tas, tp⟩, ta, ks, ps⟩ := x
 have ht9 : ta.length ≤ _ := ht9
 refine AT_region_q fun Z z => ?_
 simp [row_map, encE_mk, encTy_def]
 refine z _ ?_
 clear z Z
 simp only [nrm, reduceIte, Nat.reduceEqDiff]
 refine AT_block ?_
 refine sr fun Z z => ?_
 simp [row_map, encE_mk, encTy_def]
 repeat refine sg ?_
 refine z _ ?_
 clear z Z
 cases h3 : (kd == 3)
 cases h5 : (kd == 5)
 have hp9 : partsE (.mk kd nm (.mk tn tas tp) ta ks ps) = ta := partsE_no (by simp [typedE, h3, h5])
 rw [hp9] at hu9 hb9
 refine sr fun Z z => ?_
 simp [row_map, encE_mk, encTy_def, h3, h5]
 refine z _ ?_
 clear z Z
 refine AT_cond (b := false) (g := none) (by simp [h3, h5]) (fun hb => ?_) (fun hb => ?_)
 cases hb
 clear hb
 refine AT_skip ?_
 refine ⟨rfl, by first | rfl | simp [tmOk], [3], by first | rfl | simp, ?_⟩
 simp [AS.out, hu9, encTy_mk]
 have hp9 : partsE (.mk kd nm (.mk tn tas tp) ta ks ps) = ta ++ [.mk tn tas tp] := partsE_yes (by simp [typedE, h5])
 rw [hp9] at hu9 hb9
 simp only [List.length_append, List.length_cons, List.length_nil] at hb9
 refine sr fun Z z => ?_
 simp [row_map, encE_mk, encTy_def, h3, h5]
 refine z _ ?_
 clear z Z
 refine AT_cond (b := true) (g := none) (by simp [h3, h5]) (fun hb => ?_) (fun hb => ?_)
 clear hb
 refine AT_any_q [3] [3] (fun z9 => z9 = { n := 28, tm := [(3, .lp 3 0)], bx := [(3, [.slice ((flT (bodL e) (s.length + 1)).map encTy)])], tb := [(3, 0, 103000, 28)], sh := [], hint := [(103000, 28)], fx := [3] }) Pt.mixed (fun K hK hQ => ?_) ?_
 refine ANY_have (fun ops => PushOps ops #[true, true, true, true, true, false, false, false, false] 5 6 7 8 26 28 20 24 23 22 3 25 26) ⟨⟨_, rfl, rfl, rfl, rfl⟩, ⟨_, rfl, rfl, rfl, rfl⟩, ⟨_, rfl, rfl, rfl, rfl⟩, ⟨_, rfl, rfl, rfl, rfl⟩, by kernel_rfl, by kernel_rfl, by kernel_rfl, by kernel_rfl, by kernel_rfl, by kernel_rfl, by kernel_rfl, by kernel_rfl, by kernel_rfl, by kernel_rfl, by decide⟩ fun hpo => ?_
 refine ANY_ready [0, 1, 4] (by kernel_rfl) (by simp) ?_
 refine AnyAll.cons rfl (fun Z hZ => ?_) ?_
 simp [row_map, encE_mk, encTy_def, h3, h5]
 refine hZ _ ?_
 clear hZ Z
 refine ANY_ready [1, 3, 4] (by kernel_rfl) (by simp) ?_
 refine AnyAll.cons rfl (fun Z hZ => ?_) ?_
 simp [row_map, encE_mk, encTy_def, h3, h5]
 refine hZ _ ?_
 clear hZ Z
 refine ANY_ready [2, 3, 4] (by kernel_rfl) (by simp) ?_
 refine AnyAll.cons rfl (fun Z hZ => ?_) ?_
 simp [row_map, encE_mk, encTy_def, h3, h5]
 refine hZ _ ?_
 clear hZ Z
 refine ANY_ready [3, 4] (by kernel_rfl) (by simp) ?_
 refine AnyAll.cons rfl (fun Z hZ => ?_) ?_
 simp [row_map, encE_mk, encTy_def, h3, h5]
 refine hZ _ ?_
 clear hZ Z
 refine ANY_one 4 (by kernel_rfl) rfl fun Z hZ => ?_
 simp [row_map, encE_mk, encTy_def, h3, h5]
 refine hZ _ ?_
 clear hZ Z
 refine ANY_push2 hpo (by kernel_rfl) rfl rfl rfl rfl rfl rfl ⟨by kernel_rfl, by kernel_rfl⟩ (by refine ⟨?_, ?_, ?_, ?_, ⟨none, ?_⟩, ?_, ?_, ?_, ?_, ?_, ?_⟩ <;> simp [row_map, encE_mk, encTy_def, h3, h5] <;> omega) ?_
 simp [row_map, encE_mk, encTy_def, h3, h5]
 refine hK _ (by first | rfl | simp) ?_
 simp [hu9, encTy_mk]
 refine AnyAll.cons rfl (fun Z hZ => ?_) ?_
 simp [row_map, encE_mk, encTy_def, h3, h5]
 refine hZ _ ?_
 clear hZ Z
 refine ANY_one 3 (by kernel_rfl) rfl fun Z hZ => ?_
 simp [row_map, encE_mk, encTy_def, h3, h5]
 refine hZ _ ?_
 clear hZ Z
 refine ANY_push2 hpo (by kernel_rfl) rfl rfl rfl rfl rfl rfl ⟨by kernel_rfl, by kernel_rfl⟩ (by refine ⟨?_, ?_, ?_, ?_, ⟨none, ?_⟩, ?_, ?_, ?_, ?_, ?_, ?_⟩ <;> simp [row_map, encE_mk, encTy_def, h3, h5] <;> omega) ?_
 simp [row_map, encE_mk, encTy_def, h3, h5]
 refine hK _ (by first | rfl | simp) ?_
 simp [hu9, encTy_mk]
 exact AnyAll.nil
 refine AnyAll.cons rfl (fun Z hZ => ?_) ?_
 simp [row_map, encE_mk, encTy_def, h3, h5]
 refine hZ _ ?_
 clear hZ Z
 refine ANY_ready [2, 4] (by kernel_rfl) (by simp) ?_
 refine AnyAll.cons rfl (fun Z hZ => ?_) ?_
 simp [row_map, encE_mk, encTy_def, h3, h5]
 refine hZ _ ?_
 clear hZ Z
 refine ANY_one 4 (by kernel_rfl) rfl fun Z hZ => ?_
 simp [row_map, encE_mk, encTy_def, h3, h5]
 refine hZ _ ?_
 clear hZ Z
 refine ANY_push2 hpo (by kernel_rfl) rfl rfl rfl rfl rfl rfl ⟨by kernel_rfl, by kernel_rfl⟩ (by refine ⟨?_, ?_, ?_, ?_, ⟨none, ?_⟩, ?_, ?_, ?_, ?_, ?_, ?_⟩ <;> simp [row_map, encE_mk, encTy_def, h3, h5] <;> omega) ?_
 simp [row_map, encE_mk, encTy_def, h3, h5]
 refine hK _ (by first | rfl | simp) ?_
 simp [hu9, encTy_mk]
 refine AnyAll.cons rfl (fun Z hZ => ?_) ?_
 simp [row_map, encE_mk, encTy_def, h3, h5]
 refine hZ _ ?_
 clear hZ Z
 refine ANY_one 2 (by kernel_rfl) rfl fun Z hZ => ?_
 simp [row_map, encE_mk, encTy_def, h3, h5]
 refine hZ _ ?_
 clear hZ Z
 refine ANY_push2 hpo (by kernel_rfl) rfl rfl rfl rfl rfl rfl ⟨by kernel_rfl, by kernel_rfl⟩ (by refine ⟨?_, ?_, ?_, ?_, ⟨none, ?_⟩, ?_, ?_, ?_, ?_, ?_, ?_⟩ <;> simp [row_map, encE_mk, encTy_def, h3, h5] <;> omega) ?_
 simp [row_map, encE_mk, encTy_def, h3, h5]
 refine hK _ (by first | rfl | simp) ?_
 simp [hu9, encTy_mk]
 exact AnyAll.nil
 refine AnyAll.cons rfl (fun Z hZ => ?_) ?_
 simp [row_map, encE_mk, encTy_def, h3, h5]
 refine hZ _ ?_
 clear hZ Z
 refine ANY_ready [2, 3] (by kernel_rfl) (by simp) ?_
 refine AnyAll.cons rfl (fun Z hZ => ?_) ?_
 simp [row_map, encE_mk, encTy_def, h3, h5]
 refine hZ _ ?_
 clear hZ Z
 refine ANY_one 3 (by kernel_rfl) rfl fun Z hZ => ?_
 simp [row_map, encE_mk, encTy_def, h3, h5]
 refine hZ _ ?_
 clear hZ Z
 refine ANY_push2 hpo (by kernel_rfl) rfl rfl rfl rfl rfl rfl ⟨by kernel_rfl, by kernel_rfl⟩ (by refine ⟨?_, ?_, ?_, ?_, ⟨none, ?_⟩, ?_, ?_, ?_, ?_, ?_, ?_⟩ <;> simp [row_map, encE_mk, encTy_def, h3, h5] <;> omega) ?_
 simp [row_map, encE_mk, encTy_def, h3, h5]
 refine hK _ (by first | rfl | simp) ?_
 simp [hu9, encTy_mk]
 refine AnyAll.cons rfl (fun Z hZ => ?_) ?_
 simp [row_map, encE_mk, encTy_def, h3, h5]
 refine hZ _ ?_
 clear hZ Z
 refine ANY_one 2 (by kernel_rfl) rfl fun Z hZ => ?_
 simp [row_map, encE_mk, encTy_def, h3, h5]
 refine hZ _ ?_
 clear hZ Z
 refine ANY_push2 hpo (by kernel_rfl) rfl rfl rfl rfl rfl rfl ⟨by kernel_rfl, by kernel_rfl⟩ (by refine ⟨?_, ?_, ?_, ?_, ⟨none, ?_⟩, ?_, ?_, ?_, ?_, ?_, ?_⟩ <;> simp [row_map, encE_mk, encTy_def, h3, h5] <;> omega) ?_
 simp [row_map, encE_mk, encTy_def, h3, h5]
 refine hK _ (by first | rfl | simp) ?_
 simp [hu9, encTy_mk]
 exact AnyAll.nil
 exact AnyAll.nil
 refine AnyAll.cons rfl (fun Z hZ => ?_) ?_
 simp [row_map, encE_mk, encTy_def, h3, h5]
 refine hZ _ ?_
 clear hZ Z
 refine ANY_ready [1, 4] (by kernel_rfl) (by simp) ?_
 refine AnyAll.cons rfl (fun Z hZ => ?_) ?_
 simp [row_map, encE_mk, encTy_def, h3, h5]
 refine hZ _ ?_
 clear hZ Z
 refine ANY_ready [2, 4] (by kernel_rfl) (by simp) ?_
 refine AnyAll.cons rfl (fun Z hZ => ?_) ?_
 simp [row_map, encE_mk, encTy_def, h3, h5]
 refine hZ _ ?_
 clear hZ Z
 refine ANY_one 4 (by kernel_rfl) rfl fun Z hZ => ?_
 simp [row_map, encE_mk, encTy_def, h3, h5]
 refine hZ _ ?_
 clear hZ Z
 refine ANY_push2 hpo (by kernel_rfl) rfl rfl rfl rfl rfl rfl ⟨by kernel_rfl, by kernel_rfl⟩ (by refine ⟨?_, ?_, ?_, ?_, ⟨none, ?_⟩, ?_, ?_, ?_, ?_, ?_, ?_⟩ <;> simp [row_map, encE_mk, encTy_def, h3, h5] <;> omega) ?_
 simp [row_map, encE_mk, encTy_def, h3, h5]
 refine hK _ (by first | rfl | simp) ?_
 simp [hu9, encTy_mk]
 refine AnyAll.cons rfl (fun Z hZ => ?_) ?_
 simp [row_map, encE_mk, encTy_def, h3, h5]
 refine hZ _ ?_
 clear hZ Z
 refine ANY_one 2 (by kernel_rfl) rfl fun Z hZ => ?_
 simp [row_map, encE_mk, encTy_def, h3, h5]
 refine hZ _ ?_
 clear hZ Z
 refine ANY_push2 hpo (by kernel_rfl) rfl rfl rfl rfl rfl rfl ⟨by kernel_rfl, by kernel_rfl⟩ (by refine ⟨?_, ?_, ?_, ?_, ⟨none, ?_⟩, ?_, ?_, ?_, ?_, ?_, ?_⟩ <;> simp [row_map, encE_mk, encTy_def, h3, h5] <;> omega) ?_
 simp [row_map, encE_mk, encTy_def, h3, h5]
 refine hK _ (by first | rfl | simp) ?_
 simp [hu9, encTy_mk]
 exact AnyAll.nil
 refine AnyAll.cons rfl (fun Z hZ => ?_) ?_
 simp [row_map, encE_mk, encTy_def, h3, h5]
 refine hZ _ ?_
 clear hZ Z
 refine ANY_one 1 (by kernel_rfl) rfl fun Z hZ => ?_
 simp [row_map, encE_mk, encTy_def, h3, h5]
 refine hZ _ ?_
 clear hZ Z
 refine ANY_one 2 (by kernel_rfl) rfl fun Z hZ => ?_
 simp [row_map, encE_mk, encTy_def, h3, h5]
 refine hZ _ ?_
 clear hZ Z
 refine ANY_push2 hpo (by kernel_rfl) rfl rfl rfl rfl rfl rfl ⟨by kernel_rfl, by kernel_rfl⟩ (by refine ⟨?_, ?_, ?_, ?_, ⟨none, ?_⟩, ?_, ?_, ?_, ?_, ?_, ?_⟩ <;> simp [row_map, encE_mk, encTy_def, h3, h5] <;> omega) ?_
 simp [row_map, encE_mk, encTy_def, h3, h5]
 refine hK _ (by first | rfl | simp) ?_
 simp [hu9, encTy_mk]
 exact AnyAll.nil
 refine AnyAll.cons rfl (fun Z hZ => ?_) ?_
 simp [row_map, encE_mk, encTy_def, h3, h5]
 refine hZ _ ?_
 clear hZ Z
 refine ANY_ready [1, 3] (by kernel_rfl) (by simp) ?_
 refine AnyAll.cons rfl (fun Z hZ => ?_) ?_
 simp [row_map, encE_mk, encTy_def, h3, h5]
 refine hZ _ ?_
 clear hZ Z
 refine ANY_ready [2, 3] (by kernel_rfl) (by simp) ?_
 refine AnyAll.cons rfl (fun Z hZ => ?_) ?_
 simp [row_map, encE_mk, encTy_def, h3, h5]
 refine hZ _ ?_
 clear hZ Z
 refine ANY_one 3 (by kernel_rfl) rfl fun Z hZ => ?_
 simp [row_map, encE_mk, encTy_def, h3, h5]
 refine hZ _ ?_
 clear hZ Z
 refine ANY_push2 hpo (by kernel_rfl) rfl rfl rfl rfl rfl rfl ⟨by kernel_rfl, by kernel_rfl⟩ (by refine ⟨?_, ?_, ?_, ?_, ⟨none, ?_⟩, ?_, ?_, ?_, ?_, ?_, ?_⟩ <;> simp [row_map, encE_mk, encTy_def, h3, h5] <;> omega) ?_
 simp [row_map, encE_mk, encTy_def, h3, h5]
 refine hK _ (by first | rfl | simp) ?_
 simp [hu9, encTy_mk]
 refine AnyAll.cons rfl (fun Z hZ => ?_) ?_
 simp [row_map, encE_mk, encTy_def, h3, h5]
 refine hZ _ ?_
 clear hZ Z
 refine ANY_one 2 (by kernel_rfl) rfl fun Z hZ => ?_
 simp [row_map, encE_mk, encTy_def, h3, h5]
 refine hZ _ ?_
 clear hZ Z
 refine ANY_push2 hpo (by kernel_rfl) rfl rfl rfl rfl rfl rfl ⟨by kernel_rfl, by kernel_rfl⟩ (by refine ⟨?_, ?_, ?_, ?_, ⟨none, ?_⟩, ?_, ?_, ?_, ?_, ?_, ?_⟩ <;> simp [row_map, encE_mk, encTy_def, h3, h5] <;> omega) ?_
 simp [row_map, encE_mk, encTy_def, h3, h5]
 refine hK _ (by first | rfl | simp) ?_
 simp [hu9, encTy_mk]
 exact AnyAll.nil
 refine AnyAll.cons rfl (fun Z hZ => ?_) ?_
 simp [row_map, encE_mk, encTy_def, h3, h5]
 refine hZ _ ?_
 clear hZ Z
 refine ANY_one 1 (by kernel_rfl) rfl fun Z hZ => ?_
 simp [row_map, encE_mk, encTy_def, h3, h5]
 refine hZ _ ?_
 clear hZ Z
 refine ANY_one 2 (by kernel_rfl) rfl fun Z hZ => ?_
 simp [row_map, encE_mk, encTy_def, h3, h5]
 refine hZ _ ?_
 clear hZ Z
 refine ANY_push2 hpo (by kernel_rfl) rfl rfl rfl rfl rfl rfl ⟨by kernel_rfl, by kernel_rfl⟩ (by refine ⟨?_, ?_, ?_, ?_, ⟨none, ?_⟩, ?_, ?_, ?_, ?_, ?_, ?_⟩ <;> simp [row_map, encE_mk, encTy_def, h3, h5] <;> omega) ?_
 simp [row_map, encE_mk, encTy_def, h3, h5]
 refine hK _ (by first | rfl | simp) ?_
 simp [hu9, encTy_mk]
 exact AnyAll.nil
 exact AnyAll.nil
 refine AnyAll.cons rfl (fun Z hZ => ?_) ?_
 simp [row_map, encE_mk, encTy_def, h3, h5]
 refine hZ _ ?_
 clear hZ Z
 refine ANY_ready [0, 2, 4] (by kernel_rfl) (by simp) ?_
 refine AnyAll.cons rfl (fun Z hZ => ?_) ?_
 simp [row_map, encE_mk, encTy_def, h3, h5]
 refine hZ _ ?_
 clear hZ Z
 refine ANY_ready [2, 3, 4] (by kernel_rfl) (by simp) ?_
 refine AnyAll.cons rfl (fun Z hZ => ?_) ?_
 simp [row_map, encE_mk, encTy_def, h3, h5]
 refine hZ _ ?_
 clear hZ Z
 refine ANY_ready [3, 4] (by kernel_rfl) (by simp) ?_
 refine AnyAll.cons rfl (fun Z hZ => ?_) ?_
 simp [row_map, encE_mk, encTy_def, h3, h5]
 refine hZ _ ?_
 clear hZ Z
 refine ANY_one 4 (by kernel_rfl) rfl fun Z hZ => ?_
 simp [row_map, encE_mk, encTy_def, h3, h5]
 refine hZ _ ?_
 clear hZ Z
 refine ANY_push2 hpo (by kernel_rfl) rfl rfl rfl rfl rfl rfl ⟨by kernel_rfl, by kernel_rfl⟩ (by refine ⟨?_, ?_, ?_, ?_, ⟨none, ?_⟩, ?_, ?_, ?_, ?_, ?_, ?_⟩ <;> simp [row_map, encE_mk, encTy_def, h3, h5] <;> omega) ?_
 simp [row_map, encE_mk, encTy_def, h3, h5]
 refine hK _ (by first | rfl | simp) ?_
 simp [hu9, encTy_mk]
 refine AnyAll.cons rfl (fun Z hZ => ?_) ?_
 simp [row_map, encE_mk, encTy_def, h3, h5]
 refine hZ _ ?_
 clear hZ Z
 refine ANY_one 3 (by kernel_rfl) rfl fun Z hZ => ?_
 simp [row_map, encE_mk, encTy_def, h3, h5]
 refine hZ _ ?_
 clear hZ Z
 refine ANY_push2 hpo (by kernel_rfl) rfl rfl rfl rfl rfl rfl ⟨by kernel_rfl, by kernel_rfl⟩ (by refine ⟨?_, ?_, ?_, ?_, ⟨none, ?_⟩, ?_, ?_, ?_, ?_, ?_, ?_⟩ <;> simp [row_map, encE_mk, encTy_def, h3, h5] <;> omega) ?_
 simp [row_map, encE_mk, encTy_def, h3, h5]
 refine hK _ (by first | rfl | simp) ?_
 simp [hu9, encTy_mk]
 exact AnyAll.nil
 refine AnyAll.cons rfl (fun Z hZ => ?_) ?_
 simp [row_map, encE_mk, encTy_def, h3, h5]
 refine hZ _ ?_
 clear hZ Z
 refine ANY_ready [2, 4] (by kernel_rfl) (by simp) ?_
 refine AnyAll.cons rfl (fun Z hZ => ?_) ?_
 simp [row_map, encE_mk, encTy_def, h3, h5]
 refine hZ _ ?_
 clear hZ Z
 refine ANY_one 4 (by kernel_rfl) rfl fun Z hZ => ?_
 simp [row_map, encE_mk, encTy_def, h3, h5]
 refine hZ _ ?_
 clear hZ Z
 refine ANY_push2 hpo (by kernel_rfl) rfl rfl rfl rfl rfl rfl ⟨by kernel_rfl, by kernel_rfl⟩ (by refine ⟨?_, ?_, ?_, ?_, ⟨none, ?_⟩, ?_, ?_, ?_, ?_, ?_, ?_⟩ <;> simp [row_map, encE_mk, encTy_def, h3, h5] <;> omega) ?_
 simp [row_map, encE_mk, encTy_def, h3, h5]
 refine hK _ (by first | rfl | simp) ?_
 simp [hu9, encTy_mk]
 refine AnyAll.cons rfl (fun Z hZ => ?_) ?_
 simp [row_map, encE_mk, encTy_def, h3, h5]
 refine hZ _ ?_
 clear hZ Z
 refine ANY_one 2 (by kernel_rfl) rfl fun Z hZ => ?_
 simp [row_map, encE_mk, encTy_def, h3, h5]
 refine hZ _ ?_
 clear hZ Z
 refine ANY_push2 hpo (by kernel_rfl) rfl rfl rfl rfl rfl rfl ⟨by kernel_rfl, by kernel_rfl⟩ (by refine ⟨?_, ?_, ?_, ?_, ⟨none, ?_⟩, ?_, ?_, ?_, ?_, ?_, ?_⟩ <;> simp [row_map, encE_mk, encTy_def, h3, h5] <;> omega) ?_
 simp [row_map, encE_mk, encTy_def, h3, h5]
 refine hK _ (by first | rfl | simp) ?_
 simp [hu9, encTy_mk]
 exact AnyAll.nil
 refine AnyAll.cons rfl (fun Z hZ => ?_) ?_
 simp [row_map, encE_mk, encTy_def, h3, h5]
 refine hZ _ ?_
 clear hZ Z
 refine ANY_ready [2, 3] (by kernel_rfl) (by simp) ?_
 refine AnyAll.cons rfl (fun Z hZ => ?_) ?_
 simp [row_map, encE_mk, encTy_def, h3, h5]
 refine hZ _ ?_
 clear hZ Z
 refine ANY_one 3 (by kernel_rfl) rfl fun Z hZ => ?_
 simp [row_map, encE_mk, encTy_def, h3, h5]
 refine hZ _ ?_
 clear hZ Z
 refine ANY_push2 hpo (by kernel_rfl) rfl rfl rfl rfl rfl rfl ⟨by kernel_rfl, by kernel_rfl⟩ (by refine ⟨?_, ?_, ?_, ?_, ⟨none, ?_⟩, ?_, ?_, ?_, ?_, ?_, ?_⟩ <;> simp [row_map, encE_mk, encTy_def, h3, h5] <;> omega) ?_
 simp [row_map, encE_mk, encTy_def, h3, h5]
 refine hK _ (by first | rfl | simp) ?_
 simp [hu9, encTy_mk]
 refine AnyAll.cons rfl (fun Z hZ => ?_) ?_
 simp [row_map, encE_mk, encTy_def, h3, h5]
 refine hZ _ ?_
 clear hZ Z
 refine ANY_one 2 (by kernel_rfl) rfl fun Z hZ => ?_
 simp [row_map, encE_mk, encTy_def, h3, h5]
 refine hZ _ ?_
 clear hZ Z
 refine ANY_push2 hpo (by kernel_rfl) rfl rfl rfl rfl rfl rfl ⟨by kernel_rfl, by kernel_rfl⟩ (by refine ⟨?_, ?_, ?_, ?_, ⟨none, ?_⟩, ?_, ?_, ?_, ?_, ?_, ?_⟩ <;> simp [row_map, encE_mk, encTy_def, h3, h5] <;> omega) ?_
 simp [row_map, encE_mk, encTy_def, h3, h5]
 refine hK _ (by first | rfl | simp) ?_
 simp [hu9, encTy_mk]
 exact AnyAll.nil
 exact AnyAll.nil
 refine AnyAll.cons rfl (fun Z hZ => ?_) ?_
 simp [row_map, encE_mk, encTy_def, h3, h5]
 refine hZ _ ?_
 clear hZ Z
 refine ANY_ready [0, 4] (by kernel_rfl) (by simp) ?_
 refine AnyAll.cons rfl (fun Z hZ => ?_) ?_
 simp [row_map, encE_mk, encTy_def, h3, h5]
 refine hZ _ ?_
 clear hZ Z
 refine ANY_ready [3, 4] (by kernel_rfl) (by simp) ?_
 refine AnyAll.cons rfl (fun Z hZ => ?_) ?_
 simp [row_map, encE_mk, encTy_def, h3, h5]
 refine hZ _ ?_
 clear hZ Z
 refine ANY_one 4 (by kernel_rfl) rfl fun Z hZ => ?_
 simp [row_map, encE_mk, encTy_def, h3, h5]
 refine hZ _ ?_
 clear hZ Z
 refine ANY_push2 hpo (by kernel_rfl) rfl rfl rfl rfl rfl rfl ⟨by kernel_rfl, by kernel_rfl⟩ (by refine ⟨?_, ?_, ?_, ?_, ⟨none, ?_⟩, ?_, ?_, ?_, ?_, ?_, ?_⟩ <;> simp [row_map, encE_mk, encTy_def, h3, h5] <;> omega) ?_
 simp [row_map, encE_mk, encTy_def, h3, h5]
 refine hK _ (by first | rfl | simp) ?_
 simp [hu9, encTy_mk]
 refine AnyAll.cons rfl (fun Z hZ => ?_) ?_
 simp [row_map, encE_mk, encTy_def, h3, h5]
 refine hZ _ ?_
 clear hZ Z
 refine ANY_one 3 (by kernel_rfl) rfl fun Z hZ => ?_
 simp [row_map, encE_mk, encTy_def, h3, h5]
 refine hZ _ ?_
 clear hZ Z
 refine ANY_push2 hpo (by kernel_rfl) rfl rfl rfl rfl rfl rfl ⟨by kernel_rfl, by kernel_rfl⟩ (by refine ⟨?_, ?_, ?_, ?_, ⟨none, ?_⟩, ?_, ?_, ?_, ?_, ?_, ?_⟩ <;> simp [row_map, encE_mk, encTy_def, h3, h5] <;> omega) ?_
 simp [row_map, encE_mk, encTy_def, h3, h5]
 refine hK _ (by first | rfl | simp) ?_
 simp [hu9, encTy_mk]
 exact AnyAll.nil
 refine AnyAll.cons rfl (fun Z hZ => ?_) ?_
 simp [row_map, encE_mk, encTy_def, h3, h5]
 refine hZ _ ?_
 clear hZ Z
 refine ANY_one 0 (by kernel_rfl) rfl fun Z hZ => ?_
 simp [row_map, encE_mk, encTy_def, h3, h5]
 refine hZ _ ?_
 clear hZ Z
 refine ANY_one 3 (by kernel_rfl) rfl fun Z hZ => ?_
 simp [row_map, encE_mk, encTy_def, h3, h5]
 refine hZ _ ?_
 clear hZ Z
 refine ANY_push2 hpo (by kernel_rfl) rfl rfl rfl rfl rfl rfl ⟨by kernel_rfl, by kernel_rfl⟩ (by refine ⟨?_, ?_, ?_, ?_, ⟨none, ?_⟩, ?_, ?_, ?_, ?_, ?_, ?_⟩ <;> simp [row_map, encE_mk, encTy_def, h3, h5] <;> omega) ?_
 simp [row_map, encE_mk, encTy_def, h3, h5]
 refine hK _ (by first | rfl | simp) ?_
 simp [hu9, encTy_mk]
 exact AnyAll.nil
 refine AnyAll.cons rfl (fun Z hZ => ?_) ?_
 simp [row_map, encE_mk, encTy_def, h3, h5]
 refine hZ _ ?_
 clear hZ Z
 refine ANY_ready [0, 2] (by kernel_rfl) (by simp) ?_
 refine AnyAll.cons rfl (fun Z hZ => ?_) ?_
 simp [row_map, encE_mk, encTy_def, h3, h5]
 refine hZ _ ?_
 clear hZ Z
 refine ANY_ready [2, 3] (by kernel_rfl) (by simp) ?_
 refine AnyAll.cons rfl (fun Z hZ => ?_) ?_
 simp [row_map, encE_mk, encTy_def, h3, h5]
 refine hZ _ ?_
 clear hZ Z
 refine ANY_one 3 (by kernel_rfl) rfl fun Z hZ => ?_
 simp [row_map, encE_mk, encTy_def, h3, h5]
 refine hZ _ ?_
 clear hZ Z
 refine ANY_push2 hpo (by kernel_rfl) rfl rfl rfl rfl rfl rfl ⟨by kernel_rfl, by kernel_rfl⟩ (by refine ⟨?_, ?_, ?_, ?_, ⟨none, ?_⟩, ?_, ?_, ?_, ?_, ?_, ?_⟩ <;> simp [row_map, encE_mk, encTy_def, h3, h5] <;> omega) ?_
 simp [row_map, encE_mk, encTy_def, h3, h5]
 refine hK _ (by first | rfl | simp) ?_
 simp [hu9, encTy_mk]
 refine AnyAll.cons rfl (fun Z hZ => ?_) ?_
 simp [row_map, encE_mk, encTy_def, h3, h5]
 refine hZ _ ?_
 clear hZ Z
 refine ANY_one 2 (by kernel_rfl) rfl fun Z hZ => ?_
 simp [row_map, encE_mk, encTy_def, h3, h5]
 refine hZ _ ?_
 clear hZ Z
 refine ANY_push2 hpo (by kernel_rfl) rfl rfl rfl rfl rfl rfl ⟨by kernel_rfl, by kernel_rfl⟩ (by refine ⟨?_, ?_, ?_, ?_, ⟨none, ?_⟩, ?_, ?_, ?_, ?_, ?_, ?_⟩ <;> simp [row_map, encE_mk, encTy_def, h3, h5] <;> omega) ?_
 simp [row_map, encE_mk, encTy_def, h3, h5]
 refine hK _ (by first | rfl | simp) ?_
 simp [hu9, encTy_mk]
 exact AnyAll.nil
 refine AnyAll.cons rfl (fun Z hZ => ?_) ?_
 simp [row_map, encE_mk, encTy_def, h3, h5]
 refine hZ _ ?_
 clear hZ Z
 refine ANY_one 0 (by kernel_rfl) rfl fun Z hZ => ?_
 simp [row_map, encE_mk, encTy_def, h3, h5]
 refine hZ _ ?_
 clear hZ Z
 refine ANY_one 3 (by kernel_rfl) rfl fun Z hZ => ?_
 simp [row_map, encE_mk, encTy_def, h3, h5]
 refine hZ _ ?_
 clear hZ Z
 refine ANY_push2 hpo (by kernel_rfl) rfl rfl rfl rfl rfl rfl ⟨by kernel_rfl, by kernel_rfl⟩ (by refine ⟨?_, ?_, ?_, ?_, ⟨none, ?_⟩, ?_, ?_, ?_, ?_, ?_, ?_⟩ <;> simp [row_map, encE_mk, encTy_def, h3, h5] <;> omega) ?_
 simp [row_map, encE_mk, encTy_def, h3, h5]
 refine hK _ (by first | rfl | simp) ?_
 simp [hu9, encTy_mk]
 exact AnyAll.nil
 exact AnyAll.nil
 refine AnyAll.cons rfl (fun Z hZ => ?_) ?_
 simp [row_map, encE_mk, encTy_def, h3, h5]
 refine hZ _ ?_
 clear hZ Z
 refine ANY_ready [0, 1] (by kernel_rfl) (by simp) ?_
 refine AnyAll.cons rfl (fun Z hZ => ?_) ?_
 simp [row_map, encE_mk, encTy_def, h3, h5]
 refine hZ _ ?_
 clear hZ Z
 refine ANY_ready [1, 3] (by kernel_rfl) (by simp) ?_
 refine AnyAll.cons rfl (fun Z hZ => ?_) ?_
 simp [row_map, encE_mk, encTy_def, h3, h5]
 refine hZ _ ?_
 clear hZ Z
 refine ANY_ready [2, 3] (by kernel_rfl) (by simp) ?_
 refine AnyAll.cons rfl (fun Z hZ => ?_) ?_
 simp [row_map, encE_mk, encTy_def, h3, h5]
 refine hZ _ ?_
 clear hZ Z
 refine ANY_one 3 (by kernel_rfl) rfl fun Z hZ => ?_
 simp [row_map, encE_mk, encTy_def, h3, h5]
 refine hZ _ ?_
 clear hZ Z
 refine ANY_push2 hpo (by kernel_rfl) rfl rfl rfl rfl rfl rfl ⟨by kernel_rfl, by kernel_rfl⟩ (by refine ⟨?_, ?_, ?_, ?_, ⟨none, ?_⟩, ?_, ?_, ?_, ?_, ?_, ?_⟩ <;> simp [row_map, encE_mk, encTy_def, h3, h5] <;> omega) ?_
 simp [row_map, encE_mk, encTy_def, h3, h5]
 refine hK _ (by first | rfl | simp) ?_
 simp [hu9, encTy_mk]
 refine AnyAll.cons rfl (fun Z hZ => ?_) ?_
 simp [row_map, encE_mk, encTy_def, h3, h5]
 refine hZ _ ?_
 clear hZ Z
 refine ANY_one 2 (by kernel_rfl) rfl fun Z hZ => ?_
 simp [row_map, encE_mk, encTy_def, h3, h5]
 refine hZ _ ?_
 clear hZ Z
 refine ANY_push2 hpo (by kernel_rfl) rfl rfl rfl rfl rfl rfl ⟨by kernel_rfl, by kernel_rfl⟩ (by refine ⟨?_, ?_, ?_, ?_, ⟨none, ?_⟩, ?_, ?_, ?_, ?_, ?_, ?_⟩ <;> simp [row_map, encE_mk, encTy_def, h3, h5] <;> omega) ?_
 simp [row_map, encE_mk, encTy_def, h3, h5]
 refine hK _ (by first | rfl | simp) ?_
 simp [hu9, encTy_mk]
 exact AnyAll.nil
 refine AnyAll.cons rfl (fun Z hZ => ?_) ?_
 simp [row_map, encE_mk, encTy_def, h3, h5]
 refine hZ _ ?_
 clear hZ Z
 refine ANY_one 1 (by kernel_rfl) rfl fun Z hZ => ?_
 simp [row_map, encE_mk, encTy_def, h3, h5]
 refine hZ _ ?_
 clear hZ Z
 refine ANY_one 2 (by kernel_rfl) rfl fun Z hZ => ?_
 simp [row_map, encE_mk, encTy_def, h3, h5]
 refine hZ _ ?_
 clear hZ Z
 refine ANY_push2 hpo (by kernel_rfl) rfl rfl rfl rfl rfl rfl ⟨by kernel_rfl, by kernel_rfl⟩ (by refine ⟨?_, ?_, ?_, ?_, ⟨none, ?_⟩, ?_, ?_, ?_, ?_, ?_, ?_⟩ <;> simp [row_map, encE_mk, encTy_def, h3, h5] <;> omega) ?_
 simp [row_map, encE_mk, encTy_def, h3, h5]
 refine hK _ (by first | rfl | simp) ?_
 simp [hu9, encTy_mk]
 exact AnyAll.nil
 refine AnyAll.cons rfl (fun Z hZ => ?_) ?_
 simp [row_map, encE_mk, encTy_def, h3, h5]
 refine hZ _ ?_
 clear hZ Z
 refine ANY_ready [0, 2] (by kernel_rfl) (by simp) ?_
 refine AnyAll.cons rfl (fun Z hZ => ?_) ?_
 simp [row_map, encE_mk, encTy_def, h3, h5]
 refine hZ _ ?_
 clear hZ Z
 refine ANY_ready [2, 3] (by kernel_rfl) (by simp) ?_
 refine AnyAll.cons rfl (fun Z hZ => ?_) ?_
 simp [row_map, encE_mk, encTy_def, h3, h5]
 refine hZ _ ?_
 clear hZ Z
 refine ANY_one 3 (by kernel_rfl) rfl fun Z hZ => ?_
 simp [row_map, encE_mk, encTy_def, h3, h5]
 refine hZ _ ?_
 clear hZ Z
 refine ANY_push2 hpo (by kernel_rfl) rfl rfl rfl rfl rfl rfl ⟨by kernel_rfl, by kernel_rfl⟩ (by refine ⟨?_, ?_, ?_, ?_, ⟨none, ?_⟩, ?_, ?_, ?_, ?_, ?_, ?_⟩ <;> simp [row_map, encE_mk, encTy_def, h3, h5] <;> omega) ?_
 simp [row_map, encE_mk, encTy_def, h3, h5]
 refine hK _ (by first | rfl | simp) ?_
 simp [hu9, encTy_mk]
 refine AnyAll.cons rfl (fun Z hZ => ?_) ?_
 simp [row_map, encE_mk, encTy_def, h3, h5]
 refine hZ _ ?_
 clear hZ Z
 refine ANY_one 2 (by kernel_rfl) rfl fun Z hZ => ?_
 simp [row_map, encE_mk, encTy_def, h3, h5]
 refine hZ _ ?_
 clear hZ Z
 refine ANY_push2 hpo (by kernel_rfl) rfl rfl rfl rfl rfl rfl ⟨by kernel_rfl, by kernel_rfl⟩ (by refine ⟨?_, ?_, ?_, ?_, ⟨none, ?_⟩, ?_, ?_, ?_, ?_, ?_, ?_⟩ <;> simp [row_map, encE_mk, encTy_def, h3, h5] <;> omega) ?_
 simp [row_map, encE_mk, encTy_def, h3, h5]
 refine hK _ (by first | rfl | simp) ?_
 simp [hu9, encTy_mk]
 exact AnyAll.nil
 refine AnyAll.cons rfl (fun Z hZ => ?_) ?_
 simp [row_map, encE_mk, encTy_def, h3, h5]
 refine hZ _ ?_
 clear hZ Z
 refine ANY_one 0 (by kernel_rfl) rfl fun Z hZ => ?_
 simp [row_map, encE_mk, encTy_def, h3, h5]
 refine hZ _ ?_
 clear hZ Z
 refine ANY_one 3 (by kernel_rfl) rfl fun Z hZ => ?_
 simp [row_map, encE_mk, encTy_def, h3, h5]
 refine hZ _ ?_
 clear hZ Z
 refine ANY_push2 hpo (by kernel_rfl) rfl rfl rfl rfl rfl rfl ⟨by kernel_rfl, by kernel_rfl⟩ (by refine ⟨?_, ?_, ?_, ?_, ⟨none, ?_⟩, ?_, ?_, ?_, ?_, ?_, ?_⟩ <;> simp [row_map, encE_mk, encTy_def, h3, h5] <;> omega) ?_
 simp [row_map, encE_mk, encTy_def, h3, h5]
 refine hK _ (by first | rfl | simp) ?_
 simp [hu9, encTy_mk]
 exact AnyAll.nil
 exact AnyAll.nil
 exact AnyAll.nil
 rintro _ rfl
 refine ⟨rfl, by first | rfl | simp [tmOk], [3], by first | rfl | simp, ?_⟩
 simp [AS.out, hu9, encTy_mk]
 cases hb
 have hp9 : partsE (.mk kd nm (.mk tn tas tp) ta ks ps) = ta ++ [.mk tn tas tp] := partsE_yes (by simp [typedE, h3])
 rw [hp9] at hu9 hb9
 simp only [List.length_append, List.length_cons, List.length_nil] at hb9
 refine sr fun Z z => ?_
 simp [row_map, encE_mk, encTy_def, h3]
 refine z _ ?_
 clear z Z
 refine AT_cond (b := true) (g := none) (by simp [h3]) (fun hb => ?_) (fun hb => ?_)
 clear hb
 refine AT_any_q [3] [3] (fun z9 => z9 = { n := 28, tm := [(3, .lp 3 0)], bx := [(3, [.slice ((flT (bodL e) (s.length + 1)).map encTy)])], tb := [(3, 0, 103000, 28)], sh := [], hint := [(103000, 28)], fx := [3] }) Pt.mixed (fun K hK hQ => ?_) ?_
 refine ANY_have (fun ops => PushOps ops #[true, true, true, true, true, false, false, false, false] 5 6 7 8 26 28 20 24 23 22 3 25 26) ⟨⟨_, rfl, rfl, rfl, rfl⟩, ⟨_, rfl, rfl, rfl, rfl⟩, ⟨_, rfl, rfl, rfl, rfl⟩, ⟨_, rfl, rfl, rfl, rfl⟩, by kernel_rfl, by kernel_rfl, by kernel_rfl, by kernel_rfl, by kernel_rfl, by kernel_rfl, by kernel_rfl, by kernel_rfl, by kernel_rfl, by kernel_rfl, by decide⟩ fun hpo => ?_
 refine ANY_ready [0, 1, 4] (by kernel_rfl) (by simp) ?_
 refine AnyAll.cons rfl (fun Z hZ => ?_) ?_
 simp [row_map, encE_mk, encTy_def, h3]
 refine hZ _ ?_
 clear hZ Z
 refine ANY_ready [1, 3, 4] (by kernel_rfl) (by simp) ?_
 refine AnyAll.cons rfl (fun Z hZ => ?_) ?_
 simp [row_map, encE_mk, encTy_def, h3]
 refine hZ _ ?_
 clear hZ Z
 refine ANY_ready [2, 3, 4] (by kernel_rfl) (by simp) ?_
 refine AnyAll.cons rfl (fun Z hZ => ?_) ?_
 simp [row_map, encE_mk, encTy_def, h3]
 refine hZ _ ?_
 clear hZ Z
 refine ANY_ready [3, 4] (by kernel_rfl) (by simp) ?_
 refine AnyAll.cons rfl (fun Z hZ => ?_) ?_
 simp [row_map, encE_mk, encTy_def, h3]
 refine hZ _ ?_
 clear hZ Z
 refine ANY_one 4 (by kernel_rfl) rfl fun Z hZ => ?_
 simp [row_map, encE_mk, encTy_def, h3]
 refine hZ _ ?_
 clear hZ Z
 refine ANY_push2 hpo (by kernel_rfl) rfl rfl rfl rfl rfl rfl ⟨by kernel_rfl, by kernel_rfl⟩ (by refine ⟨?_, ?_, ?_, ?_, ⟨none, ?_⟩, ?_, ?_, ?_, ?_, ?_, ?_⟩ <;> simp [row_map, encE_mk, encTy_def, h3] <;> omega) ?_
 simp [row_map, encE_mk, encTy_def, h3]
 refine hK _ (by first | rfl | simp) ?_
 simp [hu9, encTy_mk]
 refine AnyAll.cons rfl (fun Z hZ => ?_) ?_
 simp [row_map, encE_mk, encTy_def, h3]
 refine hZ _ ?_
 clear hZ Z
 refine ANY_one 3 (by kernel_rfl) rfl fun Z hZ => ?_
 simp [row_map, encE_mk, encTy_def, h3]
 refine hZ _ ?_
 clear hZ Z
 refine ANY_push2 hpo (by kernel_rfl) rfl rfl rfl rfl rfl rfl ⟨by kernel_rfl, by kernel_rfl⟩ (by refine ⟨?_, ?_, ?_, ?_, ⟨none, ?_⟩, ?_, ?_, ?_, ?_, ?_, ?_⟩ <;> simp [row_map, encE_mk, encTy_def, h3] <;> omega) ?_
 simp [row_map, encE_mk, encTy_def, h3]
 refine hK _ (by first | rfl | simp) ?_
 simp [hu9, encTy_mk]
 exact AnyAll.nil
 refine AnyAll.cons rfl (fun Z hZ => ?_) ?_
 simp [row_map, encE_mk, encTy_def, h3]
 refine hZ _ ?_
 clear hZ Z
 refine ANY_ready [2, 4] (by kernel_rfl) (by simp) ?_
 refine AnyAll.cons rfl (fun Z hZ => ?_) ?_
 simp [row_map, encE_mk, encTy_def, h3]
 refine hZ _ ?_
 clear hZ Z
 refine ANY_one 4 (by kernel_rfl) rfl fun Z hZ => ?_
 simp [row_map, encE_mk, encTy_def, h3]
 refine hZ _ ?_
 clear hZ Z
 refine ANY_push2 hpo (by kernel_rfl) rfl rfl rfl rfl rfl rfl ⟨by kernel_rfl, by kernel_rfl⟩ (by refine ⟨?_, ?_, ?_, ?_, ⟨none, ?_⟩, ?_, ?_, ?_, ?_, ?_, ?_⟩ <;> simp [row_map, encE_mk, encTy_def, h3] <;> omega) ?_
 simp [row_map, encE_mk, encTy_def, h3]
 refine hK _ (by first | rfl | simp) ?_
 simp [hu9, encTy_mk]
 refine AnyAll.cons rfl (fun Z hZ => ?_) ?_
 simp [row_map, encE_mk, encTy_def, h3]
 refine hZ _ ?_
 clear hZ Z
 refine ANY_one 2 (by kernel_rfl) rfl fun Z hZ => ?_
 simp [row_map, encE_mk, encTy_def, h3]
 refine hZ _ ?_
 clear hZ Z
 refine ANY_push2 hpo (by kernel_rfl) rfl rfl rfl rfl rfl rfl ⟨by kernel_rfl, by kernel_rfl⟩ (by refine ⟨?_, ?_, ?_, ?_, ⟨none, ?_⟩, ?_, ?_, ?_, ?_, ?_, ?_⟩ <;> simp [row_map, encE_mk, encTy_def, h3] <;> omega) ?_
 simp [row_map, encE_mk, encTy_def, h3]
 refine hK _ (by first | rfl | simp) ?_
 simp [hu9, encTy_mk]
 exact AnyAll.nil
 refine AnyAll.cons rfl (fun Z hZ => ?_) ?_
 simp [row_map, encE_mk, encTy_def, h3]
 refine hZ _ ?_
 clear hZ Z
 refine ANY_ready [2, 3] (by kernel_rfl) (by simp) ?_
 refine AnyAll.cons rfl (fun Z hZ => ?_) ?_
 simp [row_map, encE_mk, encTy_def, h3]
 refine hZ _ ?_
 clear hZ Z
 refine ANY_one 3 (by kernel_rfl) rfl fun Z hZ => ?_
 simp [row_map, encE_mk, encTy_def, h3]
 refine hZ _ ?_
 clear hZ Z
 refine ANY_push2 hpo (by kernel_rfl) rfl rfl rfl rfl rfl rfl ⟨by kernel_rfl, by kernel_rfl⟩ (by refine ⟨?_, ?_, ?_, ?_, ⟨none, ?_⟩, ?_, ?_, ?_, ?_, ?_, ?_⟩ <;> simp [row_map, encE_mk, encTy_def, h3] <;> omega) ?_
 simp [row_map, encE_mk, encTy_def, h3]
 refine hK _ (by first | rfl | simp) ?_
 simp [hu9, encTy_mk]
 refine AnyAll.cons rfl (fun Z hZ => ?_) ?_
 simp [row_map, encE_mk, encTy_def, h3]
 refine hZ _ ?_
 clear hZ Z
 refine ANY_one 2 (by kernel_rfl) rfl fun Z hZ => ?_
 simp [row_map, encE_mk, encTy_def, h3]
 refine hZ _ ?_
 clear hZ Z
 refine ANY_push2 hpo (by kernel_rfl) rfl rfl rfl rfl rfl rfl ⟨by kernel_rfl, by kernel_rfl⟩ (by refine ⟨?_, ?_, ?_, ?_, ⟨none, ?_⟩, ?_, ?_, ?_, ?_, ?_, ?_⟩ <;> simp [row_map, encE_mk, encTy_def, h3] <;> omega) ?_
 simp [row_map, encE_mk, encTy_def, h3]
 refine hK _ (by first | rfl | simp) ?_
 simp [hu9, encTy_mk]
 exact AnyAll.nil
 exact AnyAll.nil
 refine AnyAll.cons rfl (fun Z hZ => ?_) ?_
 simp [row_map, encE_mk, encTy_def, h3]
 refine hZ _ ?_
 clear hZ Z
 refine ANY_ready [1, 4] (by kernel_rfl) (by simp) ?_
 refine AnyAll.cons rfl (fun Z hZ => ?_) ?_
 simp [row_map, encE_mk, encTy_def, h3]
 refine hZ _ ?_
 clear hZ Z
 refine ANY_ready [2, 4] (by kernel_rfl) (by simp) ?_
 refine AnyAll.cons rfl (fun Z hZ => ?_) ?_
 simp [row_map, encE_mk, encTy_def, h3]
 refine hZ _ ?_
 clear hZ Z
 refine ANY_one 4 (by kernel_rfl) rfl fun Z hZ => ?_
 simp [row_map, encE_mk, encTy_def, h3]
 refine hZ _ ?_
 clear hZ Z
 refine ANY_push2 hpo (by kernel_rfl) rfl rfl rfl rfl rfl rfl ⟨by kernel_rfl, by kernel_rfl⟩ (by refine ⟨?_, ?_, ?_, ?_, ⟨none, ?_⟩, ?_, ?_, ?_, ?_, ?_, ?_⟩ <;> simp [row_map, encE_mk, encTy_def, h3] <;> omega) ?_
 simp [row_map, encE_mk, encTy_def, h3]
 refine hK _ (by first | rfl | simp) ?_
 simp [hu9, encTy_mk]
 refine AnyAll.cons rfl (fun Z hZ => ?_) ?_
 simp [row_map, encE_mk, encTy_def, h3]
 refine hZ _ ?_
 clear hZ Z
 refine ANY_one 2 (by kernel_rfl) rfl fun Z hZ => ?_
 simp [row_map, encE_mk, encTy_def, h3]
 refine hZ _ ?_
 clear hZ Z
 refine ANY_push2 hpo (by kernel_rfl) rfl rfl rfl rfl rfl rfl ⟨by kernel_rfl, by kernel_rfl⟩ (by refine ⟨?_, ?_, ?_, ?_, ⟨none, ?_⟩, ?_, ?_, ?_, ?_, ?_, ?_⟩ <;> simp [row_map, encE_mk, encTy_def, h3] <;> omega) ?_
 simp [row_map, encE_mk, encTy_def, h3]
 refine hK _ (by first | rfl | simp) ?_
 simp [hu9, encTy_mk]
 exact AnyAll.nil
 refine AnyAll.cons rfl (fun Z hZ => ?_) ?_
 simp [row_map, encE_mk, encTy_def, h3]
 refine hZ _ ?_
 clear hZ Z
 refine ANY_one 1 (by kernel_rfl) rfl fun Z hZ => ?_
 simp [row_map, encE_mk, encTy_def, h3]
 refine hZ _ ?_
 clear hZ Z
 refine ANY_one 2 (by kernel_rfl) rfl fun Z hZ => ?_
 simp [row_map, encE_mk, encTy_def, h3]
 refine hZ _ ?_
 clear hZ Z
 refine ANY_push2 hpo (by kernel_rfl) rfl rfl rfl rfl rfl rfl ⟨by kernel_rfl, by kernel_rfl⟩ (by refine ⟨?_, ?_, ?_, ?_, ⟨none, ?_⟩, ?_, ?_, ?_, ?_, ?_, ?_⟩ <;> simp [row_map, encE_mk, encTy_def, h3] <;> omega) ?_
 simp [row_map, encE_mk, encTy_def, h3]
 refine hK _ (by first | rfl | simp) ?_
 simp [hu9, encTy_mk]
 exact AnyAll.nil
 refine AnyAll.cons rfl (fun Z hZ => ?_) ?_
 simp [row_map, encE_mk, encTy_def, h3]
 refine hZ _ ?_
 clear hZ Z
 refine ANY_ready [1, 3] (by kernel_rfl) (by simp) ?_
 refine AnyAll.cons rfl (fun Z hZ => ?_) ?_
 simp [row_map, encE_mk, encTy_def, h3]
 refine hZ _ ?_
 clear hZ Z
 refine ANY_ready [2, 3] (by kernel_rfl) (by simp) ?_
 refine AnyAll.cons rfl (fun Z hZ => ?_) ?_
 simp [row_map, encE_mk, encTy_def, h3]
 refine hZ _ ?_
 clear hZ Z
 refine ANY_one 3 (by kernel_rfl) rfl fun Z hZ => ?_
 simp [row_map, encE_mk, encTy_def, h3]
 refine hZ _ ?_
 clear hZ Z
 refine ANY_push2 hpo (by kernel_rfl) rfl rfl rfl rfl rfl rfl ⟨by kernel_rfl, by kernel_rfl⟩ (by refine ⟨?_, ?_, ?_, ?_, ⟨none, ?_⟩, ?_, ?_, ?_, ?_, ?_, ?_⟩ <;> simp [row_map, encE_mk, encTy_def, h3] <;> omega) ?_
 simp [row_map, encE_mk, encTy_def, h3]
 refine hK _ (by first | rfl | simp) ?_
 simp [hu9, encTy_mk]
 refine AnyAll.cons rfl (fun Z hZ => ?_) ?_
 simp [row_map, encE_mk, encTy_def, h3]
 refine hZ _ ?_
 clear hZ Z
 refine ANY_one 2 (by kernel_rfl) rfl fun Z hZ => ?_
 simp [row_map, encE_mk, encTy_def, h3]
 refine hZ _ ?_
 clear hZ Z
 refine ANY_push2 hpo (by kernel_rfl) rfl rfl rfl rfl rfl rfl ⟨by kernel_rfl, by kernel_rfl⟩ (by refine ⟨?_, ?_, ?_, ?_, ⟨none, ?_⟩, ?_, ?_, ?_, ?_, ?_, ?_⟩ <;> simp [row_map, encE_mk, encTy_def, h3] <;> omega) ?_
 simp [row_map, encE_mk, encTy_def, h3]
 refine hK _ (by first | rfl | simp) ?_
 simp [hu9, encTy_mk]
 exact AnyAll.nil
 refine AnyAll.cons rfl (fun Z hZ => ?_) ?_
 simp [row_map, encE_mk, encTy_def, h3]
 refine hZ _ ?_
 clear hZ Z
 refine ANY_one 1 (by kernel_rfl) rfl fun Z hZ => ?_
 simp [row_map, encE_mk, encTy_def, h3]
 refine hZ _ ?_
 clear hZ Z
 refine ANY_one 2 (by kernel_rfl) rfl fun Z hZ => ?_
 simp [row_map, encE_mk, encTy_def, h3]
 refine hZ _ ?_
 clear hZ Z
 refine ANY_push2 hpo (by kernel_rfl) rfl rfl rfl rfl rfl rfl ⟨by kernel_rfl, by kernel_rfl⟩ (by refine ⟨?_, ?_, ?_, ?_, ⟨none, ?_⟩, ?_, ?_, ?_, ?_, ?_, ?_⟩ <;> simp [row_map, encE_mk, encTy_def, h3] <;> omega) ?_
 simp [row_map, encE_mk, encTy_def, h3]
 refine hK _ (by first | rfl | simp) ?_
 simp [hu9, encTy_mk]
 exact AnyAll.nil
 exact AnyAll.nil
 refine AnyAll.cons rfl (fun Z hZ => ?_) ?_
 simp [row_map, encE_mk, encTy_def, h3]
 refine hZ _ ?_
 clear hZ Z
 refine ANY_ready [0, 2, 4] (by kernel_rfl) (by simp) ?_
 refine AnyAll.cons rfl (fun Z hZ => ?_) ?_
 simp [row_map, encE_mk, encTy_def, h3]
 refine hZ _ ?_
 clear hZ Z
 refine ANY_ready [2, 3, 4] (by kernel_rfl) (by simp) ?_
 refine AnyAll.cons rfl (fun Z hZ => ?_) ?_
 simp [row_map, encE_mk, encTy_def, h3]
 refine hZ _ ?_
 clear hZ Z
 refine ANY_ready [3, 4] (by kernel_rfl) (by simp) ?_
 refine AnyAll.cons rfl (fun Z hZ => ?_) ?_
 simp [row_map, encE_mk, encTy_def, h3]
 refine hZ _ ?_
 clear hZ Z
 refine ANY_one 4 (by kernel_rfl) rfl fun Z hZ => ?_
 simp [row_map, encE_mk, encTy_def, h3]
 refine hZ _ ?_
 clear hZ Z
 refine ANY_push2 hpo (by kernel_rfl) rfl rfl rfl rfl rfl rfl ⟨by kernel_rfl, by kernel_rfl⟩ (by refine ⟨?_, ?_, ?_, ?_, ⟨none, ?_⟩, ?_, ?_, ?_, ?_, ?_, ?_⟩ <;> simp [row_map, encE_mk, encTy_def, h3] <;> omega) ?_
 simp [row_map, encE_mk, encTy_def, h3]
 refine hK _ (by first | rfl | simp) ?_
 simp [hu9, encTy_mk]
 refine AnyAll.cons rfl (fun Z hZ => ?_) ?_
 simp [row_map, encE_mk, encTy_def, h3]
 refine hZ _ ?_
 clear hZ Z
 refine ANY_one 3 (by kernel_rfl) rfl fun Z hZ => ?_
 simp [row_map, encE_mk, encTy_def, h3]
 refine hZ _ ?_
 clear hZ Z
 refine ANY_push2 hpo (by kernel_rfl) rfl rfl rfl rfl rfl rfl ⟨by kernel_rfl, by kernel_rfl⟩ (by refine ⟨?_, ?_, ?_, ?_, ⟨none, ?_⟩, ?_, ?_, ?_, ?_, ?_, ?_⟩ <;> simp [row_map, encE_mk, encTy_def, h3] <;> omega) ?_
 simp [row_map, encE_mk, encTy_def, h3]
 refine hK _ (by first | rfl | simp) ?_
 simp [hu9, encTy_mk]
 exact AnyAll.nil
 refine AnyAll.cons rfl (fun Z hZ => ?_) ?_
 simp [row_map, encE_mk, encTy_def, h3]
 refine hZ _ ?_
 clear hZ Z
 refine ANY_ready [2, 4] (by kernel_rfl) (by simp) ?_
 refine AnyAll.cons rfl (fun Z hZ => ?_) ?_
 simp [row_map, encE_mk, encTy_def, h3]
 refine hZ _ ?_
 clear hZ Z
 refine ANY_one 4 (by kernel_rfl) rfl fun Z hZ => ?_
 simp [row_map, encE_mk, encTy_def, h3]
 refine hZ _ ?_
 clear hZ Z
 refine ANY_push2 hpo (by kernel_rfl) rfl rfl rfl rfl rfl rfl ⟨by kernel_rfl, by kernel_rfl⟩ (by refine ⟨?_, ?_, ?_, ?_, ⟨none, ?_⟩, ?_, ?_, ?_, ?_, ?_, ?_⟩ <;> simp [row_map, encE_mk, encTy_def, h3] <;> omega) ?_
 simp [row_map, encE_mk, encTy_def, h3]
 refine hK _ (by first | rfl | simp) ?_
 simp [hu9, encTy_mk]
 refine AnyAll.cons rfl (fun Z hZ => ?_) ?_
 simp [row_map, encE_mk, encTy_def, h3]
 refine hZ _ ?_
 clear hZ Z
 refine ANY_one 2 (by kernel_rfl) rfl fun Z hZ => ?_
 simp [row_map, encE_mk, encTy_def, h3]
 refine hZ _ ?_
 clear hZ Z
 refine ANY_push2 hpo (by kernel_rfl) rfl rfl rfl rfl rfl rfl ⟨by kernel_rfl, by kernel_rfl⟩ (by refine ⟨?_, ?_, ?_, ?_, ⟨none, ?_⟩, ?_, ?_, ?_, ?_, ?_, ?_⟩ <;> simp [row_map, encE_mk, encTy_def, h3] <;> omega) ?_
 simp [row_map, encE_mk, encTy_def, h3]
 refine hK _ (by first | rfl | simp) ?_
 simp [hu9, encTy_mk]
 exact AnyAll.nil
 refine AnyAll.cons rfl (fun Z hZ => ?_) ?_
 simp [row_map, encE_mk, encTy_def, h3]
 refine hZ _ ?_
 clear hZ Z
 refine ANY_ready [2, 3] (by kernel_rfl) (by simp) ?_
 refine AnyAll.cons rfl (fun Z hZ => ?_) ?_
 simp [row_map, encE_mk, encTy_def, h3]
 refine hZ _ ?_
 clear hZ Z
 refine ANY_one 3 (by kernel_rfl) rfl fun Z hZ => ?_
 simp [row_map, encE_mk, encTy_def, h3]
 refine hZ _ ?_
 clear hZ Z
 refine ANY_push2 hpo (by kernel_rfl) rfl rfl rfl rfl rfl rfl ⟨by kernel_rfl, by kernel_rfl⟩ (by refine ⟨?_, ?_, ?_, ?_, ⟨none, ?_⟩, ?_, ?_, ?_, ?_, ?_, ?_⟩ <;> simp [row_map, encE_mk, encTy_def, h3] <;> omega) ?_
 simp [row_map, encE_mk, encTy_def, h3]
 refine hK _ (by first | rfl | simp) ?_
 simp [hu9, encTy_mk]
 refine AnyAll.cons rfl (fun Z hZ => ?_) ?_
 simp [row_map, encE_mk, encTy_def, h3]
 refine hZ _ ?_
 clear hZ Z
 refine ANY_one 2 (by kernel_rfl) rfl fun Z hZ => ?_
 simp [row_map, encE_mk, encTy_def, h3]
 refine hZ _ ?_
 clear hZ Z
 refine ANY_push2 hpo (by kernel_rfl) rfl rfl rfl rfl rfl rfl ⟨by kernel_rfl, by kernel_rfl⟩ (by refine ⟨?_, ?_, ?_, ?_, ⟨none, ?_⟩, ?_, ?_, ?_, ?_, ?_, ?_⟩ <;> simp [row_map, encE_mk, encTy_def, h3] <;> omega) ?_
 simp [row_map, encE_mk, encTy_def, h3]
 refine hK _ (by first | rfl | simp) ?_
 simp [hu9, encTy_mk]
 exact AnyAll.nil
 exact AnyAll.nil
 refine AnyAll.cons rfl (fun Z hZ => ?_) ?_
 simp [row_map, encE_mk, encTy_def, h3]
 refine hZ _ ?_
 clear hZ Z
 refine ANY_ready [0, 4] (by kernel_rfl) (by simp) ?_
 refine AnyAll.cons rfl (fun Z hZ => ?_) ?_
 simp [row_map, encE_mk, encTy_def, h3]
 refine hZ _ ?_
 clear hZ Z
 refine ANY_ready [3, 4] (by kernel_rfl) (by simp) ?_
 refine AnyAll.cons rfl (fun Z hZ => ?_) ?_
 simp [row_map, encE_mk, encTy_def, h3]
 refine hZ _ ?_
 clear hZ Z
 refine ANY_one 4 (by kernel_rfl) rfl fun Z hZ => ?_
 simp [row_map, encE_mk, encTy_def, h3]
 refine hZ _ ?_
 clear hZ Z
 refine ANY_push2 hpo (by kernel_rfl) rfl rfl rfl rfl rfl rfl ⟨by kernel_rfl, by kernel_rfl⟩ (by refine ⟨?_, ?_, ?_, ?_, ⟨none, ?_⟩, ?_, ?_, ?_, ?_, ?_, ?_⟩ <;> simp [row_map, encE_mk, encTy_def, h3] <;> omega) ?_
 simp [row_map, encE_mk, encTy_def, h3]
 refine hK _ (by first | rfl | simp) ?_
 simp [hu9, encTy_mk]
 refine AnyAll.cons rfl (fun Z hZ => ?_) ?_
 simp [row_map, encE_mk, encTy_def, h3]
 refine hZ _ ?_
 clear hZ Z
 refine ANY_one 3 (by kernel_rfl) rfl fun Z hZ => ?_
 simp [row_map, encE_mk, encTy_def, h3]
 refine hZ _ ?_
 clear hZ Z
 refine ANY_push2 hpo (by kernel_rfl) rfl rfl rfl rfl rfl rfl ⟨by kernel_rfl, by kernel_rfl⟩ (by refine ⟨?_, ?_, ?_, ?_, ⟨none, ?_⟩, ?_, ?_, ?_, ?_, ?_, ?_⟩ <;> simp [row_map, encE_mk, encTy_def, h3] <;> omega) ?_
 simp [row_map, encE_mk, encTy_def, h3]
 refine hK _ (by first | rfl | simp) ?_
 simp [hu9, encTy_mk]
 exact AnyAll.nil
 refine AnyAll.cons rfl (fun Z hZ => ?_) ?_
 simp [row_map, encE_mk, encTy_def, h3]
 refine hZ _ ?_
 clear hZ Z
 refine ANY_one 0 (by kernel_rfl) rfl fun Z hZ => ?_
 simp [row_map, encE_mk, encTy_def, h3]
 refine hZ _ ?_
 clear hZ Z
 refine ANY_one 3 (by kernel_rfl) rfl fun Z hZ => ?_
 simp [row_map, encE_mk, encTy_def, h3]
 refine hZ _ ?_
 clear hZ Z
 refine ANY_push2 hpo (by kernel_rfl) rfl rfl rfl rfl rfl rfl ⟨by kernel_rfl, by kernel_rfl⟩ (by refine ⟨?_, ?_, ?_, ?_, ⟨none, ?_⟩, ?_, ?_, ?_, ?_, ?_, ?_⟩ <;> simp [row_map, encE_mk, encTy_def, h3] <;> omega) ?_
 simp [row_map, encE_mk, encTy_def, h3]
 refine hK _ (by first | rfl | simp) ?_
 simp [hu9, encTy_mk]
 exact AnyAll.nil
 refine AnyAll.cons rfl (fun Z hZ => ?_) ?_
 simp [row_map, encE_mk, encTy_def, h3]
 refine hZ _ ?_
 clear hZ Z
 refine ANY_ready [0, 2] (by kernel_rfl) (by simp) ?_
 refine AnyAll.cons rfl (fun Z hZ => ?_) ?_
 simp [row_map, encE_mk, encTy_def, h3]
 refine hZ _ ?_
 clear hZ Z
 refine ANY_ready [2, 3] (by kernel_rfl) (by simp) ?_
 refine AnyAll.cons rfl (fun Z hZ => ?_) ?_
 simp [row_map, encE_mk, encTy_def, h3]
 refine hZ _ ?_
 clear hZ Z
 refine ANY_one 3 (by kernel_rfl) rfl fun Z hZ => ?_
 simp [row_map, encE_mk, encTy_def, h3]
 refine hZ _ ?_
 clear hZ Z
 refine ANY_push2 hpo (by kernel_rfl) rfl rfl rfl rfl rfl rfl ⟨by kernel_rfl, by kernel_rfl⟩ (by refine ⟨?_, ?_, ?_, ?_, ⟨none, ?_⟩, ?_, ?_, ?_, ?_, ?_, ?_⟩ <;> simp [row_map, encE_mk, encTy_def, h3] <;> omega) ?_
 simp [row_map, encE_mk, encTy_def, h3]
 refine hK _ (by first | rfl | simp) ?_
 simp [hu9, encTy_mk]
 refine AnyAll.cons rfl (fun Z hZ => ?_) ?_
 simp [row_map, encE_mk, encTy_def, h3]
 refine hZ _ ?_
 clear hZ Z
 refine ANY_one 2 (by kernel_rfl) rfl fun Z hZ => ?_
 simp [row_map, encE_mk, encTy_def, h3]
 refine hZ _ ?_
 clear hZ Z
 refine ANY_push2 hpo (by kernel_rfl) rfl rfl rfl rfl rfl rfl ⟨by kernel_rfl, by kernel_rfl⟩ (by refine ⟨?_, ?_, ?_, ?_, ⟨none, ?_⟩, ?_, ?_, ?_, ?_, ?_, ?_⟩ <;> simp [row_map, encE_mk, encTy_def, h3] <;> omega) ?_
 simp [row_map, encE_mk, encTy_def, h3]
 refine hK _ (by first | rfl | simp) ?_
 simp [hu9, encTy_mk]
 exact AnyAll.nil
 refine AnyAll.cons rfl (fun Z hZ => ?_) ?_
 simp [row_map, encE_mk, encTy_def, h3]
 refine hZ _ ?_
 clear hZ Z
 refine ANY_one 0 (by kernel_rfl) rfl fun Z hZ => ?_
 simp [row_map, encE_mk, encTy_def, h3]
 refine hZ _ ?_
 clear hZ Z
 refine ANY_one 3 (by kernel_rfl) rfl fun Z hZ => ?_
 simp [row_map, encE_mk, encTy_def, h3]
 refine hZ _ ?_
 clear hZ Z
 refine ANY_push2 hpo (by kernel_rfl) rfl rfl rfl rfl rfl rfl ⟨by kernel_rfl, by kernel_rfl⟩ (by refine ⟨?_, ?_, ?_, ?_, ⟨none, ?_⟩, ?_, ?_, ?_, ?_, ?_, ?_⟩ <;> simp [row_map, encE_mk, encTy_def, h3] <;> omega) ?_
 simp [row_map, encE_mk, encTy_def, h3]
 refine hK _ (by first | rfl | simp) ?_
 simp [hu9, encTy_mk]
 exact AnyAll.nil
 exact AnyAll.nil
 refine AnyAll.cons rfl (fun Z hZ => ?_) ?_
 simp [row_map, encE_mk, encTy_def, h3]
 refine hZ _ ?_
 clear hZ Z
 refine ANY_ready [0, 1] (by kernel_rfl) (by simp) ?_
 refine AnyAll.cons rfl (fun Z hZ => ?_) ?_
 simp [row_map, encE_mk, encTy_def, h3]
 refine hZ _ ?_
 clear hZ Z
 refine ANY_ready [1, 3] (by kernel_rfl) (by simp) ?_
 refine AnyAll.cons rfl (fun Z hZ => ?_) ?_
 simp [row_map, encE_mk, encTy_def, h3]
 refine hZ _ ?_
 clear hZ Z
 refine ANY_ready [2, 3] (by kernel_rfl) (by simp) ?_
 refine AnyAll.cons rfl (fun Z hZ => ?_) ?_
 simp [row_map, encE_mk, encTy_def, h3]
 refine hZ _ ?_
 clear hZ Z
 refine ANY_one 3 (by kernel_rfl) rfl fun Z hZ => ?_
 simp [row_map, encE_mk, encTy_def, h3]
 refine hZ _ ?_
 clear hZ Z
 refine ANY_push2 hpo (by kernel_rfl) rfl rfl rfl rfl rfl rfl ⟨by kernel_rfl, by kernel_rfl⟩ (by refine ⟨?_, ?_, ?_, ?_, ⟨none, ?_⟩, ?_, ?_, ?_, ?_, ?_, ?_⟩ <;> simp [row_map, encE_mk, encTy_def, h3] <;> omega) ?_
 simp [row_map, encE_mk, encTy_def, h3]
 refine hK _ (by first | rfl | simp) ?_
 simp [hu9, encTy_mk]
 refine AnyAll.cons rfl (fun Z hZ => ?_) ?_
 simp [row_map, encE_mk, encTy_def, h3]
 refine hZ _ ?_
 clear hZ Z
 refine ANY_one 2 (by kernel_rfl) rfl fun Z hZ => ?_
 simp [row_map, encE_mk, encTy_def, h3]
 refine hZ _ ?_
 clear hZ Z
 refine ANY_push2 hpo (by kernel_rfl) rfl rfl rfl rfl rfl rfl ⟨by kernel_rfl, by kernel_rfl⟩ (by refine ⟨?_, ?_, ?_, ?_, ⟨none, ?_⟩, ?_, ?_, ?_, ?_, ?_, ?_⟩ <;> simp [row_map, encE_mk, encTy_def, h3] <;> omega) ?_
 simp [row_map, encE_mk, encTy_def, h3]
 refine hK _ (by first | rfl | simp) ?_
 simp [hu9, encTy_mk]
 exact AnyAll.nil
 refine AnyAll.cons rfl (fun Z hZ => ?_) ?_
 simp [row_map, encE_mk, encTy_def, h3]
 refine hZ _ ?_
 clear hZ Z
 refine ANY_one 1 (by kernel_rfl) rfl fun Z hZ => ?_
 simp [row_map, encE_mk, encTy_def, h3]
 refine hZ _ ?_
 clear hZ Z
 refine ANY_one 2 (by kernel_rfl) rfl fun Z hZ => ?_
 simp [row_map, encE_mk, encTy_def, h3]
 refine hZ _ ?_
 clear hZ Z
 refine ANY_push2 hpo (by kernel_rfl) rfl rfl rfl rfl rfl rfl ⟨by kernel_rfl, by kernel_rfl⟩ (by refine ⟨?_, ?_, ?_, ?_, ⟨none, ?_⟩, ?_, ?_, ?_, ?_, ?_, ?_⟩ <;> simp [row_map, encE_mk, encTy_def, h3] <;> omega) ?_
 simp [row_map, encE_mk, encTy_def, h3]
 refine hK _ (by first | rfl | simp) ?_
 simp [hu9, encTy_mk]
 exact AnyAll.nil
 refine AnyAll.cons rfl (fun Z hZ => ?_) ?_
 simp [row_map, encE_mk, encTy_def, h3]
 refine hZ _ ?_
 clear hZ Z
 refine ANY_ready [0, 2] (by kernel_rfl) (by simp) ?_
 refine AnyAll.cons rfl (fun Z hZ => ?_) ?_
 simp [row_map, encE_mk, encTy_def, h3]
 refine hZ _ ?_
 clear hZ Z
 refine ANY_ready [2, 3] (by kernel_rfl) (by simp) ?_
 refine AnyAll.cons rfl (fun Z hZ => ?_) ?_
 simp [row_map, encE_mk, encTy_def, h3]
 refine hZ _ ?_
 clear hZ Z
 refine ANY_one 3 (by kernel_rfl) rfl fun Z hZ => ?_
 simp [row_map, encE_mk, encTy_def, h3]
 refine hZ _ ?_
 clear hZ Z
 refine ANY_push2 hpo (by kernel_rfl) rfl rfl rfl rfl rfl rfl ⟨by kernel_rfl, by kernel_rfl⟩ (by refine ⟨?_, ?_, ?_, ?_, ⟨none, ?_⟩, ?_, ?_, ?_, ?_, ?_, ?_⟩ <;> simp [row_map, encE_mk, encTy_def, h3] <;> omega) ?_
 simp [row_map, encE_mk, encTy_def, h3]
 refine hK _ (by first | rfl | simp) ?_
 simp [hu9, encTy_mk]
 refine AnyAll.cons rfl (fun Z hZ => ?_) ?_
 simp [row_map, encE_mk, encTy_def, h3]
 refine hZ _ ?_
 clear hZ Z
 refine ANY_one 2 (by kernel_rfl) rfl fun Z hZ => ?_
 simp [row_map, encE_mk, encTy_def, h3]
 refine hZ _ ?_
 clear hZ Z
 refine ANY_push2 hpo (by kernel_rfl) rfl rfl rfl rfl rfl rfl ⟨by kernel_rfl, by kernel_rfl⟩ (by refine ⟨?_, ?_, ?_, ?_, ⟨none, ?_⟩, ?_, ?_, ?_, ?_, ?_, ?_⟩ <;> simp [row_map, encE_mk, encTy_def, h3] <;> omega) ?_
 simp [row_map, encE_mk, encTy_def, h3]
 refine hK _ (by first | rfl | simp) ?_
 simp [hu9, encTy_mk]
 exact AnyAll.nil
 refine AnyAll.cons rfl (fun Z hZ => ?_) ?_
 simp [row_map, encE_mk, encTy_def, h3]
 refine hZ _ ?_
 clear hZ Z
 refine ANY_one 0 (by kernel_rfl) rfl fun Z hZ => ?_
 simp [row_map, encE_mk, encTy_def, h3]
 refine hZ _ ?_
 clear hZ Z
 refine ANY_one 3 (by kernel_rfl) rfl fun Z hZ => ?_
 simp [row_map, encE_mk, encTy_def, h3]
 refine hZ _ ?_
 clear hZ Z
 refine ANY_push2 hpo (by kernel_rfl) rfl rfl rfl rfl rfl rfl ⟨by kernel_rfl, by kernel_rfl⟩ (by refine ⟨?_, ?_, ?_, ?_, ⟨none, ?_⟩, ?_, ?_, ?_, ?_, ?_, ?_⟩ <;> simp [row_map, encE_mk, encTy_def, h3] <;> omega) ?_
 simp [row_map, encE_mk, encTy_def, h3]
 refine hK _ (by first | rfl | simp) ?_
 simp [hu9, encTy_mk]
 exact AnyAll.nil
 exact AnyAll.nil
 exact AnyAll.nil
 rintro _ rfl
 refine ⟨rfl, by first | rfl | simp [tmOk], [3], by first | rfl | simp, ?_⟩
 simp [AS.out, hu9, encTy_mk]
 cases hb
 intro hfin
 rw [feedG_all]
 simp [bod_all]
 refine hK1 _ ?_
 refine sr fun Z z => ?_
 simp [row_map, encE_mk, encTy_def]
 refine z _ ?_
 clear z Z
 refine AT_ret ?_
 simp [row_map, encE_mk, encTy_def, Tryz.f59]
 skip

theorem c_decl_body (e : Exp) (hw : wtE e ≤ 1000000000) : Valid Tryz.prog (G0 g rnd) 59 [.agg (encE e)] (.slice ((tysE e).map encTy)) := (c_decl_body_z g e hw).gl rfl

end Go.Proofs.YtdifpfehijnmiaaGreatDoor
end

section
/- Contracts. -/
set_option linter.all false
set_option maxHeartbeats 1000000
set_option maxRecDepth 10000
namespace Go.Proofs.YtdifpfehijnmiaaGreatDoor
open Go Go.Pv
variable (g : Nat → Option (List AV)) (rnd : Bool)

theorem c_types_All (l : List Ty) (ns as_ : List (List AV)) (res : Ty → Ty) (hl : l.length ≤ 1099511627776) (hs : ∀ t ∈ l, Valid Tryz.prog (G0 g rnd) 106 [.agg (encTy t), .slice ns, .slice as_] (.agg (encTy (res t)))) : Valid Tryz.prog (G0 g rnd) 137 [.slice (l.map encTy), .slice ns, .slice as_] (.slice ((l.map res).map encTy)) := by

 refine valid_of [(7, 28)] Tryz.func137 rfl (by kernel_rfl) ?_
 refine sr fun Z z => ?_
 simp [row_map, Tryz.f137]
 refine z _ ?_
 clear z Z
 refine sr fun Z z => ?_
 simp [row_map]
 refine z _ ?_
 clear z Z
 refine AT_seq_k fun K1 hK1 => ?_
 refine sr fun Z z => ?_
 simp [row_map]
 refine z _ ?_
 clear z Z
 refine AT_block ?_
 refine AT_loop_q [1,2,7,10,11,12] [] (fun j s => ∃ k, k ≤ l.length ∧ j = l.length - k ∧ s = { n := 25, tm := [(1, .v (.slice ns) none), (2, .v (.slice as_) none), (7, .v (.slice (((l.take k).map res).map encTy)) (some (7, 28))), (10, .v (.slice (l.map encTy)) none), (11, .v (.int .i64 l.length) none), (12, .v (.int .i64 k) none)], bx := [], tb := [], sh := [], hint := [(7, 28)] }) (l.length) (by first | rfl | simp) ?_ ?_
 exact ⟨0, by simp⟩
 rintro j s ⟨k, hk, rfl, rfl⟩ K2 hK2
 refine sr fun Z z => ?_
 simp [row_map]
 refine z _ ?_
 clear z Z
 refine AT_seq_k fun K3 hK3 => ?_
 refine AT_cond (g := none) rfl (fun hb13 => ?_) (fun hb13 => ?_)
 simp [row_map] at hb13
 refine AT_skip ?_
 simp only [nrm, reduceIte, Nat.reduceEqDiff]
 refine hK3 _ ?_
 refine AT_seq_k fun K4 hK4 => ?_
 refine AT_block ?_
 refine sr fun Z z => ?_
 simp [row_map, hb13]
 refine z _ ?_
 clear z Z
 refine AT_region_q fun Z z => ?_
 simp [row_map, hb13]
 refine RVn_call (hs l[k] (by simp)) ?_
 simp [row_map, hb13]
 repeat refine sg ?_
 refine z _ ?_
 clear z Z
 refine hK4 _ ?_
 refine AT_region_q fun Z z => ?_
 simp [row_map, hb13]
 repeat refine sg ?_
 refine z _ ?_
 clear z Z
 simp only [nrm, reduceIte, Nat.reduceEqDiff]
 refine hK2 _ (by first | rfl | simp) (l.length - (k+1)) (by omega) ?_
 have hs2 := take_map_succ (encTy ∘ res) l k hb13
 exact ⟨k+1, by omega, by omega, by simp [hs2]⟩
 simp [row_map] at hb13
 refine AT_exit ?_
 simp only [nrm, reduceIte, Nat.reduceEqDiff]
 refine hK1 _ ?_
 refine sr fun Z z => ?_
 simp [row_map, hb13]
 refine z _ ?_
 clear z Z
 refine AT_ret ?_
 simp [row_map, Tryz.f137]
 rw [List.take_of_length_le (by simpa using hb13)]

end Go.Proofs.YtdifpfehijnmiaaGreatDoor
end

section
/- Contracts. -/
set_option linter.all false
set_option maxHeartbeats 1000000
set_option maxRecDepth 10000
namespace Go.Proofs.YtdifpfehijnmiaaGreatDoor
open Go Go.Pv
variable (g : Nat → Option (List AV)) (rnd : Bool)

theorem c_types_Subst_n : ∀ t : Ty, wt t ≤ 1099511627776 → Valid Tryz.prog (G0 g rnd) 106 [.agg (encTy t), .slice [], .slice []] (.agg (encTy t)) := by
 intro t
 induction t using Ty.ind with
 | h n ts p ih =>
 intro hw
 have hw2 : n.length + 1 + wts ts ≤ 1099511627776 := by simpa [wt] using hw
 have hln := wts_len ts
 refine valid_of [] Tryz.func106 rfl (by kernel_rfl) ?_
 refine sr fun Z z => ?_
 simp [row_map, encTy_mk, Tryz.f106]
 refine z _ ?_
 clear z Z
 refine AT_seq_k fun K1 hK1 => ?_
 refine sr fun Z z => ?_
 simp [row_map, encTy_mk]
 refine RVn_call ((by simpa [idxF] using c_slices_Index_string_string g rnd [] n (by simp) : Valid Tryz.prog (G0 g rnd) 136 [.slice [], .str n] (.int .i64 (-1)))) ?_
 simp [row_map, encTy_mk]
 refine z _ ?_
 clear z Z
 by_cases h0 : ts = []
 have h0b : ((ts.length : Int) == 0) = true := by simpa using h0
 refine sr fun Z z => ?_
 simp [row_map, encTy_mk, h0b]
 refine z _ ?_
 clear z Z
 refine AT_cond (b := false) (g := none) (by simp [h0b]) (fun hb => ?_) (fun hb => ?_)
 cases hb
 clear hb
 refine AT_skip ?_
 simp only [nrm, reduceIte, Nat.reduceEqDiff]
 refine hK1 _ ?_
 refine sr fun Z z => ?_
 simp [row_map, encTy_mk, h0b]
 refine RVn_call ((by simpa using c_types_All g rnd ts [] [] id (by omega) (fun t ht => ih t ht (Nat.le_trans (wts_mem ht) (by omega))) : Valid Tryz.prog (G0 g rnd) 137 [.slice (ts.map encTy), .slice [], .slice []] (.slice (ts.map encTy)))) ?_
 simp [row_map, encTy_mk, h0b]
 refine z _ ?_
 clear z Z
 refine sr fun Z z => ?_
 simp [row_map, encTy_mk, h0b]
 refine z _ ?_
 clear z Z
 refine AT_ret ?_
 simp [row_map, encTy_mk, Tryz.f106]
 have h0b : ((ts.length : Int) == 0) = false := by simpa using h0
 refine sr fun Z z => ?_
 simp [row_map, encTy_mk, h0b]
 refine z _ ?_
 clear z Z
 refine AT_cond (b := false) (g := none) (by simp [h0b]) (fun hb => ?_) (fun hb => ?_)
 cases hb
 clear hb
 refine AT_skip ?_
 simp only [nrm, reduceIte, Nat.reduceEqDiff]
 refine hK1 _ ?_
 refine sr fun Z z => ?_
 simp [row_map, encTy_mk, h0b]
 refine RVn_call ((by simpa using c_types_All g rnd ts [] [] id (by omega) (fun t ht => ih t ht (Nat.le_trans (wts_mem ht) (by omega))) : Valid Tryz.prog (G0 g rnd) 137 [.slice (ts.map encTy), .slice [], .slice []] (.slice (ts.map encTy)))) ?_
 simp [row_map, encTy_mk, h0b]
 refine z _ ?_
 clear z Z
 refine sr fun Z z => ?_
 simp [row_map, encTy_mk, h0b]
 refine z _ ?_
 clear z Z
 refine AT_ret ?_
 simp [row_map, encTy_mk, Tryz.f106]

theorem c_types_Clone (t : Ty) (hw : wt t ≤ 1099511627776) : Valid Tryz.prog (G0 g rnd) 61 [.agg (encTy t)] (.agg (encTy t)) := by

 refine valid_of [] Tryz.func61 rfl (by kernel_rfl) ?_
 refine sr fun Z z => ?_
 simp [Tryz.f61]
 refine z _ ?_
 clear z Z
 refine sr fun Z z => ?_
 simp
 refine RVn_call (c_types_Subst_n g rnd t hw) ?_
 simp
 refine z _ ?_
 clear z Z
 refine AT_ret ?_
 simp [Tryz.f61]

end Go.Proofs.YtdifpfehijnmiaaGreatDoor
end

import Derived.Test.YtdifpfehijnmiaaGreatDoorPt
import Derived.Test.YtdifpfehijnmiaaGreatDoorPvPb
import Derived.Test.YtdifpfehijnmiaaGreatDoorPvY
import Derived.Test.YtdifpfehijnmiaaGreatDoorXTyD
import Derived.Test.YtdifpfehijnmiaaGreatDoorXNaB
import Derived.Test.YtdifpfehijnmiaaGreatDoorPvMb
import Derived.Test.YtdifpfehijnmiaaGreatDoorXExD
section
/- Contracts. -/
set_option linter.all false
set_option maxHeartbeats 1000000
set_option maxRecDepth 10000
namespace Go.Proofs.YtdifpfehijnmiaaGreatDoor
open Go Go.Pv
variable (g : Nat → Option (List AV)) (rnd : Bool)

theorem c_slices_IndexFunc_api_Type_api_Type (Y : Ys) (hP : Y.P = Tryz.prog) (L : Ty → List AV) (caps : List AV) (l : List Ty) (s : List AV) (hl : l.length ≤ 1099511627776) (he : elOk Y s (l.flatMap L)) (hcl : ∀ a ∈ l, ∀ s, elOk Y s (L a) → ValidY Tryz.prog (G1 g Y) Y 151 ([.agg (encTy a)] ++ caps) (s, true) (.bool (!(feed Y s (L a)).2)) (feed Y s (L a))) : ValidY Tryz.prog (G1 g Y) Y 148 [.slice (l.map encTy), .func 151 caps] (s, true) (.int .i64 (visI Y L s l 0)) (feed Y s (l.flatMap L)) := by

 refine validY_of [] Tryz.func148 rfl (by kernel_rfl) rfl hP ?_
 refine sr fun Z z => ?_
 simp [row_map, Tryz.f148]
 refine z _ ?_
 clear z Z
 refine AT_seq_k fun K1 hK1 => ?_
 refine sr fun Z z => ?_
 simp [row_map]
 refine z _ ?_
 clear z Z
 refine AT_block ?_
 refine AT_loop_q [0,1,7,8] [] (fun j st => ∃ k s1, k ≤ l.length ∧ feed Y s (l.flatMap L) = feed Y s1 ((l.drop k).flatMap L) ∧ visI Y L s l 0 = visI Y L s1 (l.drop k) k ∧ elOk Y s1 ((l.drop k).flatMap L) ∧ j = l.length - k ∧ st = { n := 19, tm := [(0, .v (.slice (l.map encTy)) none), (1, .v (.func 151 caps) none), (7, .v (.int .i64 l.length) none), (8, .v (.int .i64 k) none)], bx := [], tb := [], sh := [], hint := [], ys := (s1, true) }) (l.length) (by first | rfl | simp) ?_ ?_
 exact ⟨0, s, by simp [he]⟩
 rintro j st ⟨k, s1, hk, hf, hv, hel, rfl, rfl⟩ K2 hK2
 refine sr fun Z z => ?_
 simp [row_map]
 refine z _ ?_
 clear z Z
 refine AT_seq_k fun K3 hK3 => ?_
 refine AT_cond (g := none) rfl (fun hb9 => ?_) (fun hb9 => ?_)
 simp [row_map] at hb9
 refine AT_skip ?_
 refine hK3 _ ?_
 refine AT_seq_k fun K4 hK4 => ?_
 refine AT_block ?_
 refine sr fun Z z => ?_
 simp [row_map, hb9]
 refine z _ ?_
 clear z Z
 refine sr fun Z z => ?_
 have hk9 : k < l.length := by omega
 have hda := List.drop_eq_getElem_cons hk9
 simp [row_map, hb9]
 refine RVn_callY rfl (by simp) (hcl l[k] (by simp) s1 (by rw [hda, List.flatMap_cons, elOk_app] at hel; exact hel.1)) ?_
 simp [row_map, hb9]
 refine z _ ?_
 clear z Z
 refine AT_cond (g := none) rfl (fun hb16 => ?_) (fun hb16 => ?_)
 simp [row_map, hb9] at hb16
 refine sr fun Z z => ?_
 simp [row_map, hb9]
 refine z _ ?_
 clear z Z
 refine AT_ret ?_
 simp [row_map, Tryz.f148]
 (refine ⟨?_, ?_⟩
  · rw [hv, hda, visI, if_neg (by simp [hb16])]
  · rw [hf, hda, List.flatMap_cons, feed_app, if_neg (by simp [hb16])])
 simp [row_map, hb9] at hb16
 refine AT_skip ?_
 refine hK4 _ ?_
 refine AT_region_q fun Z z => ?_
 simp [row_map, hb9]
 repeat refine sg ?_
 refine z _ ?_
 clear z Z
 refine hK2 _ (by first | rfl | simp) (l.length - (k+1)) (by omega) ?_
 refine ⟨k+1, (feed Y s1 (L l[k])).1, by omega, ?_, ?_, ?_, by omega, ?_⟩
 · rw [hf, hda, List.flatMap_cons, feed_app, if_pos hb16]
 · rw [hv, hda, visI, if_pos hb16]
 · rw [hda, List.flatMap_cons, elOk_app] at hel; exact hel.2 hb16
 · simp; exact Prod.ext rfl hb16
 simp [row_map] at hb9
 refine AT_exit ?_
 refine hK1 _ ?_
 refine sr fun Z z => ?_
 simp [row_map, hb9]
 refine z _ ?_
 clear z Z
 refine AT_ret ?_
 simp [row_map, Tryz.f148]
 (have hnil := List.drop_eq_nil_of_le (show l.length ≤ k by omega)
  rw [hf, hv, hnil]; simp [visI, feed])

theorem c_slices_ContainsFunc_api_Type_api_Type (Y : Ys) (hP : Y.P = Tryz.prog) (L : Ty → List AV) (caps : List AV) (l : List Ty) (s : List AV) (hl : l.length ≤ 1099511627776) (he : elOk Y s (l.flatMap L)) (hcl : ∀ a ∈ l, ∀ s, elOk Y s (L a) → ValidY Tryz.prog (G1 g Y) Y 151 ([.agg (encTy a)] ++ caps) (s, true) (.bool (!(feed Y s (L a)).2)) (feed Y s (L a))) : ValidY Tryz.prog (G1 g Y) Y 127 [.slice (l.map encTy), .func 151 caps] (s, true) (.bool (!(feed Y s (l.flatMap L)).2)) (feed Y s (l.flatMap L)) := by

 refine validY_of [] Tryz.func127 rfl (by kernel_rfl) rfl hP ?_
 refine sr fun Z z => ?_
 simp [Tryz.f127]
 refine z _ ?_
 clear z Z
 refine sr fun Z z => ?_
 simp
 refine RVn_callY rfl (by simp) (c_slices_IndexFunc_api_Type_api_Type g Y hP L caps l s hl he hcl) ?_
 simp
 refine z _ ?_
 clear z Z
 refine AT_ret ?_
 simp [Tryz.f127]
 exact visI_feed Y L s l 0

end Go.Proofs.YtdifpfehijnmiaaGreatDoor
end

section
/- Contracts. -/
set_option linter.all false
set_option maxHeartbeats 1000000
set_option maxRecDepth 10000
namespace Go.Proofs.YtdifpfehijnmiaaGreatDoor
open Go Go.Pv
variable (g : Nat → Option (List AV)) (rnd : Bool)

theorem c_types_visit_1 (Y : Ys) (hP : Y.P = Tryz.prog) (t : Ty) (s : List AV) (r : Bool) (ys : List AV × Bool) (hv : ValidY Tryz.prog (G1 g Y) Y 145 [.agg (encTy t), .yld Y.l] (s, true) (.bool r) ys) : ValidY Tryz.prog (G1 g Y) Y 151 [.agg (encTy t), .ro [.yld Y.l]] (s, true) (.bool (!r)) ys := by

 refine validY_of [(200002, 0)] Tryz.func151 rfl (by kernel_rfl) rfl hP ?_
 refine sr fun Z z => ?_
 simp [Tryz.f151]
 refine z _ ?_
 clear z Z
 refine sr fun Z z => ?_
 simp
 refine RVn_callY rfl (by simp) (hv) ?_
 simp
 refine z _ ?_
 clear z Z
 refine AT_ret ?_
 simp [Tryz.f151]

theorem c_types_visit (Y : Ys) (hP : Y.P = Tryz.prog) : ∀ t : Ty, wt t ≤ 1099511627776 → ∀ s : List AV, elOk Y s ((lst t).map AV.str) → ValidY Tryz.prog (G1 g Y) Y 145 [.agg (encTy t), .yld Y.l] (s, true) (.bool (feed Y s ((lst t).map AV.str)).2) (feed Y s ((lst t).map AV.str)) := by
 intro t
 induction t using Ty.ind with
 | h n ts p ih =>
 intro hw
 have hw2 : n.length + 1 + wts ts ≤ 1099511627776 := by simpa [wt] using hw
 have hln := wts_len ts
 intro s he
 have hfl : (lsts ts).map AV.str = ts.flatMap (fun t => (lst t).map AV.str) := by rw [lsts_flat, List.map_flatten, List.map_map, List.flatMap_def]; rfl
 have hlst : (lst (.mk n ts p)).map AV.str = .str n :: ts.flatMap (fun t => (lst t).map AV.str) := by simp [lst, hfl]
 rw [hlst] at he ⊢
 have he1 : Y.el s (.str n) := he.1
 refine validY_of [(200002, 0), (200003, 0)] Tryz.func145 rfl (by kernel_rfl) rfl hP ?_
 refine sr fun Z z => ?_
 simp [row_map, encTy_mk, Tryz.f145]
 refine z _ ?_
 clear z Z
 refine AT_seq_k fun K1 hK1 => ?_
 cases hgo : Y.go s (.str n)
 refine sr fun Z z => ?_
 simp [row_map, encTy_mk, hgo]
 refine RVn_yld rfl rfl (by simp) rfl (he1) ?_
 simp [row_map, encTy_mk, hgo]
 refine z _ ?_
 clear z Z
 refine cT (by simp [hgo]) ?_
 refine sr fun Z z => ?_
 simp [row_map, encTy_mk, hgo]
 refine z _ ?_
 clear z Z
 refine AT_ret ?_
 simp [row_map, encTy_mk, Tryz.f145]
 simp [feed, hgo]
 refine sr fun Z z => ?_
 simp [row_map, encTy_mk, hgo]
 refine RVn_yld rfl rfl (by simp) rfl (he1) ?_
 simp [row_map, encTy_mk, hgo]
 refine z _ ?_
 clear z Z
 refine cF (by simp [hgo]) ?_
 refine AT_skip ?_
 refine hK1 _ ?_
 refine sr fun Z z => ?_
 simp [row_map, encTy_mk, hgo]
 refine z _ ?_
 clear z Z
 refine sr fun Z z => ?_
 simp [row_map, encTy_mk, hgo]
 refine RVn_callY rfl (by simp) (c_slices_ContainsFunc_api_Type_api_Type g Y hP (fun t => (lst t).map AV.str) [.ro [.yld Y.l]] ts (s ++ [.str n]) (by omega) (he.2 hgo) (fun a ha s2 hs2 => c_types_visit_1 g Y hP a s2 _ _ (ih a ha (Nat.le_trans (wts_mem ha) (by omega)) s2 hs2))) ?_
 simp [row_map, encTy_mk, hgo]
 refine z _ ?_
 clear z Z
 refine AT_ret ?_
 simp [row_map, encTy_mk, Tryz.f145]
 simp [feed, hgo]

theorem c_types_Names_1 (Y : Ys) (hP : Y.P = Tryz.prog) (t : Ty) (hw : wt t ≤ 1099511627776) (s : List AV) (he : elOk Y s ((lst t).map AV.str)) : ValidY Tryz.prog (G1 g Y) Y 144 [.yld Y.l, .ro (encTy t)] (s, true) (.tup []) (feed Y s ((lst t).map AV.str)) := by

 refine validY_of [] Tryz.func144 rfl (by kernel_rfl) rfl hP ?_
 refine AT_region_q fun Z z => ?_
 simp [Tryz.f144]
 refine RVn_callY rfl (by simp) (c_types_visit g Y hP t hw s he) ?_
 simp
 refine z _ ?_
 clear z Z
 simp [Tryz.f144]

theorem c_types_Names (t : Ty) : Valid Tryz.prog (G0 g rnd) 124 [.agg (encTy t)] (.func 144 [.ro (encTy t)]) := by

 refine valid_of [(200001, 0)] Tryz.func124 rfl (by kernel_rfl) ?_
 refine sr fun Z z => ?_
 simp [Tryz.f124]
 refine z _ ?_
 clear z Z
 refine sr fun Z z => ?_
 simp
 refine z _ ?_
 clear z Z
 refine AT_ret ?_
 simp [Tryz.f124]

theorem rightT_len {t : Ty} (hw : wt t ≤ 1099511627776) : ∀ s ∈ lst t, s.length ≤ 1099511627776 := fun s hs => Nat.le_trans (Nat.le_of_lt (lst_mem_wt t s hs)) hw

end Go.Proofs.YtdifpfehijnmiaaGreatDoor
end

section
/- Contracts: expressions handed out. -/
set_option linter.all false
set_option maxHeartbeats 1000000
set_option maxRecDepth 10000
namespace Go.Proofs.YtdifpfehijnmiaaGreatDoor
open Go Go.Pv
variable (g : Nat → Option (List AV)) (rnd : Bool)

theorem c_slices_IndexFunc_api_Type_api_Type_q (fid : Nat) (caps : List AV) (q : Ty → Bool) (l : List Ty) (hl : l.length ≤ 1099511627776) (hq : ∀ x ∈ l, Valid Tryz.prog (G0 g rnd) fid ([.agg (encTy x)] ++ caps) (.bool (q x))) : Valid Tryz.prog (G0 g rnd) 148 [.slice (l.map encTy), .func fid caps] (.int .i64 (idxQ q l 0)) := by

 refine valid_of [] Tryz.func148 rfl (by kernel_rfl) ?_
 refine sr fun Z z => ?_
 simp [row_map, Tryz.f148]
 refine z _ ?_
 clear z Z
 refine AT_seq_k fun K1 hK1 => ?_
 refine sr fun Z z => ?_
 simp [row_map]
 refine z _ ?_
 clear z Z
 refine AT_block ?_
 refine AT_loop_q [0,1,7,8] [] (fun j s => ∃ k, k ≤ l.length ∧ idxQ q l 0 = idxQ q (l.drop k) k ∧ j = l.length - k ∧ s = { n := 19, tm := [(0, .v (.slice (l.map encTy)) none), (1, .v (.func fid caps) none), (7, .v (.int .i64 l.length) none), (8, .v (.int .i64 k) none)], bx := [], tb := [], sh := [], hint := [] }) (l.length) (by first | rfl | simp) ?_ ?_
 exact ⟨0, by simp⟩
 rintro j s ⟨k, hk, hc, rfl, rfl⟩ K2 hK2
 refine sr fun Z z => ?_
 simp [row_map]
 refine z _ ?_
 clear z Z
 refine AT_seq_k fun K3 hK3 => ?_
 refine AT_cond (g := none) rfl (fun hb9 => ?_) (fun hb9 => ?_)
 simp [row_map] at hb9
 refine AT_skip ?_
 refine hK3 _ ?_
 refine AT_seq_k fun K4 hK4 => ?_
 refine AT_block ?_
 refine sr fun Z z => ?_
 simp [row_map, hb9]
 refine z _ ?_
 clear z Z
 refine sr fun Z z => ?_
 have hk9 : k < l.length := by omega
 have hda := List.drop_eq_getElem_cons hk9
 simp [row_map, hb9]
 refine RVn_call (hq l[k] (by simp)) ?_
 simp [row_map, hb9]
 refine z _ ?_
 clear z Z
 refine AT_cond (g := none) rfl (fun hb16 => ?_) (fun hb16 => ?_)
 refine sr fun Z z => ?_
 simp [row_map, hb9, hb16]
 refine z _ ?_
 clear z Z
 refine AT_ret ?_
 simp [row_map, Tryz.f148]
 (· rw [hc, hda, idxQ, if_pos hb16])
 refine AT_skip ?_
 refine hK4 _ ?_
 refine AT_region_q fun Z z => ?_
 simp [row_map, hb9, hb16]
 repeat refine sg ?_
 refine z _ ?_
 clear z Z
 refine hK2 _ (by first | rfl | simp) (l.length - (k+1)) (by omega) ?_
 refine ⟨k+1, by omega, ?_, by omega, by simp⟩
 rw [hc, hda, idxQ, if_neg (by simp [hb16])]
 simp [row_map] at hb9
 refine AT_exit ?_
 refine hK1 _ ?_
 refine sr fun Z z => ?_
 simp [row_map, hb9]
 refine z _ ?_
 clear z Z
 refine AT_ret ?_
 simp [row_map, Tryz.f148]
 (rw [hc, List.drop_eq_nil_of_le (by omega)]; rfl)

theorem c_slices_ContainsFunc_api_Type_api_Type_q (fid : Nat) (caps : List AV) (q : Ty → Bool) (l : List Ty) (hl : l.length ≤ 1099511627776) (hq : ∀ x ∈ l, Valid Tryz.prog (G0 g rnd) fid ([.agg (encTy x)] ++ caps) (.bool (q x))) : Valid Tryz.prog (G0 g rnd) 127 [.slice (l.map encTy), .func fid caps] (.bool (l.any q)) := by

 refine valid_of [] Tryz.func127 rfl (by kernel_rfl) ?_
 refine sr fun Z z => ?_
 simp [Tryz.f127]
 refine z _ ?_
 clear z Z
 refine sr fun Z z => ?_
 simp
 refine RVn_call (c_slices_IndexFunc_api_Type_api_Type_q g rnd fid caps q l hl hq) ?_
 simp
 refine z _ ?_
 clear z Z
 refine AT_ret ?_
 simp [Tryz.f127]
 exact idxQ_any q l 0

theorem c_slices_IndexFunc_api_Expr_api_Expr (Y : Ys) (hP : Y.P = Tryz.prog) (L : Exp → List AV) (caps : List AV) (l : List Exp) (s : List AV) (hl : l.length ≤ 1099511627776) (he : elOk Y s (l.flatMap L)) (hcl : ∀ a ∈ l, ∀ s, elOk Y s (L a) → ValidY Tryz.prog (G1 g Y) Y 138 ([.agg (encE a)] ++ caps) (s, true) (.bool (!(feed Y s (L a)).2)) (feed Y s (L a))) : ValidY Tryz.prog (G1 g Y) Y 150 [.slice (l.map encE), .func 138 caps] (s, true) (.int .i64 (visI Y L s l 0)) (feed Y s (l.flatMap L)) := by

 refine validY_of [] Tryz.func150 rfl (by kernel_rfl) rfl hP ?_
 refine sr fun Z z => ?_
 simp [row_map, Tryz.f150]
 refine z _ ?_
 clear z Z
 refine AT_seq_k fun K1 hK1 => ?_
 refine sr fun Z z => ?_
 simp [row_map]
 refine z _ ?_
 clear z Z
 refine AT_block ?_
 refine AT_loop_q [0,1,7,8] [] (fun j st => ∃ k s1, k ≤ l.length ∧ feed Y s (l.flatMap L) = feed Y s1 ((l.drop k).flatMap L) ∧ visI Y L s l 0 = visI Y L s1 (l.drop k) k ∧ elOk Y s1 ((l.drop k).flatMap L) ∧ j = l.length - k ∧ st = { n := 19, tm := [(0, .v (.slice (l.map encE)) none), (1, .v (.func 138 caps) none), (7, .v (.int .i64 l.length) none), (8, .v (.int .i64 k) none)], bx := [], tb := [], sh := [], hint := [], ys := (s1, true) }) (l.length) (by first | rfl | simp) ?_ ?_
 exact ⟨0, s, by simp [he]⟩
 rintro j st ⟨k, s1, hk, hf, hv, hel, rfl, rfl⟩ K2 hK2
 refine sr fun Z z => ?_
 simp [row_map]
 refine z _ ?_
 clear z Z
 refine AT_seq_k fun K3 hK3 => ?_
 refine AT_cond (g := none) rfl (fun hb9 => ?_) (fun hb9 => ?_)
 simp [row_map] at hb9
 refine AT_skip ?_
 refine hK3 _ ?_
 refine AT_seq_k fun K4 hK4 => ?_
 refine AT_block ?_
 refine sr fun Z z => ?_
 simp [row_map, hb9]
 refine z _ ?_
 clear z Z
 refine sr fun Z z => ?_
 have hk9 : k < l.length := by omega
 have hda := List.drop_eq_getElem_cons hk9
 simp [row_map, hb9]
 refine RVn_callY rfl (by simp) (hcl l[k] (by simp) s1 (by rw [hda, List.flatMap_cons, elOk_app] at hel; exact hel.1)) ?_
 simp [row_map, hb9]
 refine z _ ?_
 clear z Z
 refine AT_cond (g := none) rfl (fun hb16 => ?_) (fun hb16 => ?_)
 simp [row_map, hb9] at hb16
 refine sr fun Z z => ?_
 simp [row_map, hb9]
 refine z _ ?_
 clear z Z
 refine AT_ret ?_
 simp [row_map, Tryz.f150]
 (refine ⟨?_, ?_⟩
  · rw [hv, hda, visI, if_neg (by simp [hb16])]
  · rw [hf, hda, List.flatMap_cons, feed_app, if_neg (by simp [hb16])])
 simp [row_map, hb9] at hb16
 refine AT_skip ?_
 refine hK4 _ ?_
 refine AT_region_q fun Z z => ?_
 simp [row_map, hb9]
 repeat refine sg ?_
 refine z _ ?_
 clear z Z
 refine hK2 _ (by first | rfl | simp) (l.length - (k+1)) (by omega) ?_
 refine ⟨k+1, (feed Y s1 (L l[k])).1, by omega, ?_, ?_, ?_, by omega, ?_⟩
 · rw [hf, hda, List.flatMap_cons, feed_app, if_pos hb16]
 · rw [hv, hda, visI, if_pos hb16]
 · rw [hda, List.flatMap_cons, elOk_app] at hel; exact hel.2 hb16
 · simp; exact Prod.ext rfl hb16
 simp [row_map] at hb9
 refine AT_exit ?_
 refine hK1 _ ?_
 refine sr fun Z z => ?_
 simp [row_map, hb9]
 refine z _ ?_
 clear z Z
 refine AT_ret ?_
 simp [row_map, Tryz.f150]
 (have hnil := List.drop_eq_nil_of_le (show l.length ≤ k by omega)
  rw [hf, hv, hnil]; simp [visI, feed])

theorem c_slices_ContainsFunc_api_Expr_api_Expr (Y : Ys) (hP : Y.P = Tryz.prog) (L : Exp → List AV) (caps : List AV) (l : List Exp) (s : List AV) (hl : l.length ≤ 1099511627776) (he : elOk Y s (l.flatMap L)) (hcl : ∀ a ∈ l, ∀ s, elOk Y s (L a) → ValidY Tryz.prog (G1 g Y) Y 138 ([.agg (encE a)] ++ caps) (s, true) (.bool (!(feed Y s (L a)).2)) (feed Y s (L a))) : ValidY Tryz.prog (G1 g Y) Y 139 [.slice (l.map encE), .func 138 caps] (s, true) (.bool (!(feed Y s (l.flatMap L)).2)) (feed Y s (l.flatMap L)) := by

 refine validY_of [] Tryz.func139 rfl (by kernel_rfl) rfl hP ?_
 refine sr fun Z z => ?_
 simp [Tryz.f139]
 refine z _ ?_
 clear z Z
 refine sr fun Z z => ?_
 simp
 refine RVn_callY rfl (by simp) (c_slices_IndexFunc_api_Expr_api_Expr g Y hP L caps l s hl he hcl) ?_
 simp
 refine z _ ?_
 clear z Z
 refine AT_ret ?_
 simp [Tryz.f139]
 exact visI_feed Y L s l 0

theorem c_expr_visit_1 (Y : Ys) (hP : Y.P = Tryz.prog) (e : Exp) (s : List AV) (r : Bool) (ys : List AV × Bool) (hv : ValidY Tryz.prog (G1 g Y) Y 109 [.agg (encE e), .yld Y.l] (s, true) (.bool r) ys) : ValidY Tryz.prog (G1 g Y) Y 138 [.agg (encE e), .ro [.yld Y.l]] (s, true) (.bool (!r)) ys := by

 refine validY_of [(200002, 0)] Tryz.func138 rfl (by kernel_rfl) rfl hP ?_
 refine sr fun Z z => ?_
 simp [Tryz.f138]
 refine z _ ?_
 clear z Z
 refine sr fun Z z => ?_
 simp
 refine RVn_callY rfl (by simp) (hv) ?_
 simp
 refine z _ ?_
 clear z Z
 refine AT_ret ?_
 simp [Tryz.f138]

theorem c_expr_visit (Y : Ys) (hP : Y.P = Tryz.prog) : ∀ e : Exp, wtE e ≤ 1000000000 → ∀ s : List AV, elOk Y s ((lstE e).map avE) → ValidY Tryz.prog (G1 g Y) Y 109 [.agg (encE e), .yld Y.l] (s, true) (.bool (feed Y s ((lstE e).map avE)).2) (feed Y s ((lstE e).map avE)) := by
 intro e
 induction e using Exp.ind with
 | h kd n t ta l p ih =>
 intro hw
 have hw2 : n.length + 1 + wt t + wts ta + wtEs l ≤ 1000000000 := by simpa [wtE_mk] using hw
 have hln := wtEs_len l
 have hla := wts_len ta
 intro s he
 have hfl : (lstEs l).map avE = l.flatMap (fun e => (lstE e).map avE) := by rw [lstEs_flat, List.map_flatten, List.map_map, List.flatMap_def]; rfl
 have hlst : (lstE (.mk kd n t ta l p)).map avE = .agg (encE (.mk kd n t ta l p)) :: l.flatMap (fun e => (lstE e).map avE) := by simp [lstE, hfl]
 rw [hlst] at he ⊢
 have he1 : Y.el s (.agg (encE (.mk kd n t ta l p))) := he.1
 refine validY_of [(200002, 0), (200003, 0)] Tryz.func109 rfl (by kernel_rfl) rfl hP ?_
 refine sr fun Z z => ?_
 simp [row_map, Tryz.f109]
 refine z _ ?_
 clear z Z
 refine AT_seq_k fun K1 hK1 => ?_
 cases hgo : Y.go s (.agg (encE (.mk kd n t ta l p)))
 refine sr fun Z z => ?_
 simp [row_map, hgo]
 refine RVn_yld rfl rfl (by simp) rfl (he1) ?_
 simp [row_map, hgo]
 refine z _ ?_
 clear z Z
 refine cT (by simp [hgo]) ?_
 refine sr fun Z z => ?_
 simp [row_map, hgo]
 refine z _ ?_
 clear z Z
 refine AT_ret ?_
 simp [row_map, Tryz.f109]
 simp [feed, hgo]
 refine sr fun Z z => ?_
 simp [row_map, hgo]
 refine RVn_yld rfl rfl (by simp) rfl (he1) ?_
 simp [row_map, hgo]
 refine z _ ?_
 clear z Z
 refine cF (by simp [hgo]) ?_
 refine AT_skip ?_
 refine hK1 _ ?_
 refine sr fun Z z => ?_
 simp [row_map, hgo]
 refine z _ ?_
 clear z Z
 refine sr fun Z z => ?_
 simp [row_map, hgo]
 refine RVn_callY rfl (by simp) (c_slices_ContainsFunc_api_Expr_api_Expr g Y hP (fun e => (lstE e).map avE) [.ro [.yld Y.l]] l (s ++ [.agg (encE (.mk kd n t ta l p))]) (by omega) (he.2 hgo) (fun a ha s2 hs2 => c_expr_visit_1 g Y hP a s2 _ _ (ih a ha (Nat.le_trans (wtEs_mem ha) (by omega)) s2 hs2))) ?_
 simp [row_map, hgo]
 refine z _ ?_
 clear z Z
 refine AT_ret ?_
 simp [row_map, Tryz.f109]
 simp [feed, hgo]

theorem c_expr_All_1 (Y : Ys) (hP : Y.P = Tryz.prog) (e : Exp) (hw : wtE e ≤ 1000000000) (s : List AV) (he : elOk Y s ((lstE e).map avE)) : ValidY Tryz.prog (G1 g Y) Y 108 [.yld Y.l, .ro (encE e)] (s, true) (.tup []) (feed Y s ((lstE e).map avE)) := by

 refine validY_of [] Tryz.func108 rfl (by kernel_rfl) rfl hP ?_
 refine AT_region_q fun Z z => ?_
 simp [Tryz.f108]
 refine RVn_callY rfl (by simp) (c_expr_visit g Y hP e hw s he) ?_
 simp
 refine z _ ?_
 clear z Z
 simp [Tryz.f108]

theorem c_expr_All (e : Exp) : Valid Tryz.prog (G0 g rnd) 70 [.agg (encE e)] (.func 108 [.ro (encE e)]) := by

 refine valid_of [(200001, 0)] Tryz.func70 rfl (by kernel_rfl) ?_
 refine sr fun Z z => ?_
 simp [Tryz.f70]
 refine z _ ?_
 clear z Z
 refine sr fun Z z => ?_
 simp
 refine z _ ?_
 clear z Z
 refine AT_ret ?_
 simp [Tryz.f70]

end Go.Proofs.YtdifpfehijnmiaaGreatDoor
end

import Derived.Test.YtjkabaejabibnaaDoorPt
import Derived.Test.YtjkabaejabibnaaDoorPvPb
import Derived.Test.YtjkabaejabibnaaDoorPvY
import Derived.Test.YtjkabaejabibnaaDoorXTyA
import Derived.Test.YtjkabaejabibnaaDoorXNaB
import Derived.Test.YtjkabaejabibnaaDoorPvMb
import Derived.Test.YtjkabaejabibnaaDoorXExZ
section
/- Contracts. -/
set_option linter.all false
set_option maxHeartbeats 1000000
set_option maxRecDepth 10000
namespace Go.Proofs.YtjkabaejabibnaaDoor
open Go Go.Pv
variable (g : Nat → Option (List AV)) (rnd : Bool)

theorem c_slices_IndexFunc_api_Type_api_Type (Y : Ys) (hP : Y.P = Tryd.prog) (L : Ty → List AV) (caps : List AV) (l : List Ty) (s : List AV) (hl : l.length ≤ 1099511627776) (he : elOk Y s (l.flatMap L)) (hcl : ∀ a ∈ l, ∀ s, elOk Y s (L a) → ValidY Tryd.prog (G1 g Y) Y 96 ([.agg (encTy a)] ++ caps) (s, true) (.bool (!(feed Y s (L a)).2)) (feed Y s (L a))) : ValidY Tryd.prog (G1 g Y) Y 79 [.slice (l.map encTy), .func 96 caps] (s, true) (.int .i64 (visI Y L s l 0)) (feed Y s (l.flatMap L)) := by

 refine validY_of [] Tryd.func79 rfl (by kernel_rfl) rfl hP ?_
 refine sr fun Z z => ?_
 simp [row_map, Tryd.f79]
 refine z _ ?_
 clear z Z
 refine AT_seq_k fun K1 hK1 => ?_
 refine sr fun Z z => ?_
 simp [row_map]
 refine z _ ?_
 clear z Z
 refine AT_block ?_
 refine AT_loop_q [0,1,7,8] [] (fun j st => ∃ k s1, k ≤ l.length ∧ feed Y s (l.flatMap L) = feed Y s1 ((l.drop k).flatMap L) ∧ visI Y L s l 0 = visI Y L s1 (l.drop k) k ∧ elOk Y s1 ((l.drop k).flatMap L) ∧ j = l.length - k ∧ st = { n := 19, tm := [(0, .v (.slice (l.map encTy)) none), (1, .v (.func 96 caps) none), (7, .v (.int .i64 l.length) none), (8, .v (.int .i64 k) none)], bx := [], tb := [], sh := [], hint := [], ys := (s1, true) }) (l.length) (by first | rfl | simp) ?_ ?_
 exact ⟨0, s, by simp [he]⟩
 rintro j st ⟨k, s1, hk, hf, hv, hel, rfl, rfl⟩ K2 hK2
 refine sr fun Z z => ?_
 simp [row_map]
 refine z _ ?_
 clear z Z
 refine AT_seq_k fun K3 hK3 => ?_
 refine AT_cond (g := none) rfl (fun hb9 => ?_) (fun hb9 => ?_)
 simp [row_map] at hb9
 refine AT_skip ?_
 refine hK3 _ ?_
 refine AT_seq_k fun K4 hK4 => ?_
 refine AT_block ?_
 refine sr fun Z z => ?_
 simp [row_map, hb9]
 refine z _ ?_
 clear z Z
 refine sr fun Z z => ?_
 have hk9 : k < l.length := by omega
 have hda := List.drop_eq_getElem_cons hk9
 simp [row_map, hb9]
 refine RVn_callY rfl (by simp) (hcl l[k] (by simp) s1 (by rw [hda, List.flatMap_cons, elOk_app] at hel; exact hel.1)) ?_
 simp [row_map, hb9]
 refine z _ ?_
 clear z Z
 refine AT_cond (g := none) rfl (fun hb16 => ?_) (fun hb16 => ?_)
 simp [row_map, hb9] at hb16
 refine sr fun Z z => ?_
 simp [row_map, hb9]
 refine z _ ?_
 clear z Z
 refine AT_ret ?_
 simp [row_map, Tryd.f79]
 (refine ⟨?_, ?_⟩
  · rw [hv, hda, visI, if_neg (by simp [hb16])]
  · rw [hf, hda, List.flatMap_cons, feed_app, if_neg (by simp [hb16])])
 simp [row_map, hb9] at hb16
 refine AT_skip ?_
 refine hK4 _ ?_
 refine AT_region_q fun Z z => ?_
 simp [row_map, hb9]
 repeat refine sg ?_
 refine z _ ?_
 clear z Z
 refine hK2 _ (by first | rfl | simp) (l.length - (k+1)) (by omega) ?_
 refine ⟨k+1, (feed Y s1 (L l[k])).1, by omega, ?_, ?_, ?_, by omega, ?_⟩
 · rw [hf, hda, List.flatMap_cons, feed_app, if_pos hb16]
 · rw [hv, hda, visI, if_pos hb16]
 · rw [hda, List.flatMap_cons, elOk_app] at hel; exact hel.2 hb16
 · simp; exact Prod.ext rfl hb16
 simp [row_map] at hb9
 refine AT_exit ?_
 refine hK1 _ ?_
 refine sr fun Z z => ?_
 simp [row_map, hb9]
 refine z _ ?_
 clear z Z
 refine AT_ret ?_
 simp [row_map, Tryd.f79]
 (have hnil := List.drop_eq_nil_of_le (show l.length ≤ k by omega)
  rw [hf, hv, hnil]; simp [visI, feed])

theorem c_slices_ContainsFunc_api_Type_api_Type (Y : Ys) (hP : Y.P = Tryd.prog) (L : Ty → List AV) (caps : List AV) (l : List Ty) (s : List AV) (hl : l.length ≤ 1099511627776) (he : elOk Y s (l.flatMap L)) (hcl : ∀ a ∈ l, ∀ s, elOk Y s (L a) → ValidY Tryd.prog (G1 g Y) Y 96 ([.agg (encTy a)] ++ caps) (s, true) (.bool (!(feed Y s (L a)).2)) (feed Y s (L a))) : ValidY Tryd.prog (G1 g Y) Y 62 [.slice (l.map encTy), .func 96 caps] (s, true) (.bool (!(feed Y s (l.flatMap L)).2)) (feed Y s (l.flatMap L)) := by

 refine validY_of [] Tryd.func62 rfl (by kernel_rfl) rfl hP ?_
 refine sr fun Z z => ?_
 simp [Tryd.f62]
 refine z _ ?_
 clear z Z
 refine sr fun Z z => ?_
 simp
 refine RVn_callY rfl (by simp) (c_slices_IndexFunc_api_Type_api_Type g Y hP L caps l s hl he hcl) ?_
 simp
 refine z _ ?_
 clear z Z
 refine AT_ret ?_
 simp [Tryd.f62]
 exact visI_feed Y L s l 0

end Go.Proofs.YtjkabaejabibnaaDoor
end

section
/- Contracts. -/
set_option linter.all false
set_option maxHeartbeats 1000000
set_option maxRecDepth 10000
namespace Go.Proofs.YtjkabaejabibnaaDoor
open Go Go.Pv
variable (g : Nat → Option (List AV)) (rnd : Bool)

theorem c_types_visit_1 (Y : Ys) (hP : Y.P = Tryd.prog) (t : Ty) (s : List AV) (r : Bool) (ys : List AV × Bool) (hv : ValidY Tryd.prog (G1 g Y) Y 91 [.agg (encTy t), .yld Y.l] (s, true) (.bool r) ys) : ValidY Tryd.prog (G1 g Y) Y 96 [.agg (encTy t), .ro [.yld Y.l]] (s, true) (.bool (!r)) ys := by

 refine validY_of [(200002, 0)] Tryd.func96 rfl (by kernel_rfl) rfl hP ?_
 refine sr fun Z z => ?_
 simp [Tryd.f96]
 refine z _ ?_
 clear z Z
 refine sr fun Z z => ?_
 simp
 refine RVn_callY rfl (by simp) (hv) ?_
 simp
 refine z _ ?_
 clear z Z
 refine AT_ret ?_
 simp [Tryd.f96]

theorem c_types_visit (Y : Ys) (hP : Y.P = Tryd.prog) : ∀ t : Ty, wt t ≤ 1099511627776 → ∀ s : List AV, elOk Y s ((lst t).map AV.str) → ValidY Tryd.prog (G1 g Y) Y 91 [.agg (encTy t), .yld Y.l] (s, true) (.bool (feed Y s ((lst t).map AV.str)).2) (feed Y s ((lst t).map AV.str)) := by
 intro t
 induction t using Ty.ind with
 | h n ts p ih =>
 intro hw
 have hw2 : n.length + 1 + wts ts ≤ 1099511627776 := by simpa [wt] using hw
 have hln := wts_len ts
 intro s he
 have hfl : (lsts ts).map AV.str = ts.flatMap (fun t => (lst t).map AV.str) := by rw [lsts_flat, List.map_flatten, List.map_map, List.flatMap_def]; rfl
 have hlst : (lst (.mk n ts p)).map AV.str = .str n :: ts.flatMap (fun t => (lst t).map AV.str) := by simp [lst, hfl]
 rw [hlst] at he ⊢
 have he1 : Y.el s (.str n) := he.1
 refine validY_of [(200002, 0), (200003, 0)] Tryd.func91 rfl (by kernel_rfl) rfl hP ?_
 refine sr fun Z z => ?_
 simp [row_map, encTy_mk, Tryd.f91]
 refine z _ ?_
 clear z Z
 refine AT_seq_k fun K1 hK1 => ?_
 cases hgo : Y.go s (.str n)
 refine sr fun Z z => ?_
 simp [row_map, encTy_mk, hgo]
 refine RVn_yld rfl rfl (by simp) rfl (he1) ?_
 simp [row_map, encTy_mk, hgo]
 refine z _ ?_
 clear z Z
 refine cT (by simp [hgo]) ?_
 refine sr fun Z z => ?_
 simp [row_map, encTy_mk, hgo]
 refine z _ ?_
 clear z Z
 refine AT_ret ?_
 simp [row_map, encTy_mk, Tryd.f91]
 simp [feed, hgo]
 refine sr fun Z z => ?_
 simp [row_map, encTy_mk, hgo]
 refine RVn_yld rfl rfl (by simp) rfl (he1) ?_
 simp [row_map, encTy_mk, hgo]
 refine z _ ?_
 clear z Z
 refine cF (by simp [hgo]) ?_
 refine AT_skip ?_
 refine hK1 _ ?_
 refine sr fun Z z => ?_
 simp [row_map, encTy_mk, hgo]
 refine z _ ?_
 clear z Z
 refine sr fun Z z => ?_
 simp [row_map, encTy_mk, hgo]
 refine RVn_callY rfl (by simp) (c_slices_ContainsFunc_api_Type_api_Type g Y hP (fun t => (lst t).map AV.str) [.ro [.yld Y.l]] ts (s ++ [.str n]) (by omega) (he.2 hgo) (fun a ha s2 hs2 => c_types_visit_1 g Y hP a s2 _ _ (ih a ha (Nat.le_trans (wts_mem ha) (by omega)) s2 hs2))) ?_
 simp [row_map, encTy_mk, hgo]
 refine z _ ?_
 clear z Z
 refine AT_ret ?_
 simp [row_map, encTy_mk, Tryd.f91]
 simp [feed, hgo]

theorem c_types_Names_1 (Y : Ys) (hP : Y.P = Tryd.prog) (t : Ty) (hw : wt t ≤ 1099511627776) (s : List AV) (he : elOk Y s ((lst t).map AV.str)) : ValidY Tryd.prog (G1 g Y) Y 90 [.yld Y.l, .ro (encTy t)] (s, true) (.tup []) (feed Y s ((lst t).map AV.str)) := by

 refine validY_of [] Tryd.func90 rfl (by kernel_rfl) rfl hP ?_
 refine AT_region_q fun Z z => ?_
 simp [Tryd.f90]
 refine RVn_callY rfl (by simp) (c_types_visit g Y hP t hw s he) ?_
 simp
 refine z _ ?_
 clear z Z
 simp [Tryd.f90]

theorem c_types_Names (t : Ty) : Valid Tryd.prog (G0 g rnd) 78 [.agg (encTy t)] (.func 90 [.ro (encTy t)]) := by

 refine valid_of [(200001, 0)] Tryd.func78 rfl (by kernel_rfl) ?_
 refine sr fun Z z => ?_
 simp [Tryd.f78]
 refine z _ ?_
 clear z Z
 refine sr fun Z z => ?_
 simp
 refine z _ ?_
 clear z Z
 refine AT_ret ?_
 simp [Tryd.f78]

theorem rightT_len {t : Ty} (hw : wt t ≤ 1099511627776) : ∀ s ∈ lst t, s.length ≤ 1099511627776 := fun s hs => Nat.le_trans (Nat.le_of_lt (lst_mem_wt t s hs)) hw

end Go.Proofs.YtjkabaejabibnaaDoor
end

section
/- Contracts: expressions handed out. -/
set_option linter.all false
set_option maxHeartbeats 1000000
set_option maxRecDepth 10000
namespace Go.Proofs.YtjkabaejabibnaaDoor
open Go Go.Pv
variable (g : Nat → Option (List AV)) (rnd : Bool)

theorem c_slices_IndexFunc_api_Type_api_Type_q (fid : Nat) (caps : List AV) (q : Ty → Bool) (l : List Ty) (hl : l.length ≤ 1099511627776) (hq : ∀ x ∈ l, Valid Tryd.prog (G0 g rnd) fid ([.agg (encTy x)] ++ caps) (.bool (q x))) : Valid Tryd.prog (G0 g rnd) 79 [.slice (l.map encTy), .func fid caps] (.int .i64 (idxQ q l 0)) := by

 refine valid_of [] Tryd.func79 rfl (by kernel_rfl) ?_
 refine sr fun Z z => ?_
 simp [row_map, Tryd.f79]
 refine z _ ?_
 clear z Z
 refine AT_seq_k fun K1 hK1 => ?_
 refine sr fun Z z => ?_
 simp [row_map]
 refine z _ ?_
 clear z Z
 refine AT_block ?_
 refine AT_loop_q [0,1,7,8] [] (fun j s => ∃ k, k ≤ l.length ∧ idxQ q l 0 = idxQ q (l.drop k) k ∧ j = l.length - k ∧ s = { n := 19, tm := [(0, .v (.slice (l.map encTy)) none), (1, .v (.func fid caps) none), (7, .v (.int .i64 l.length) none), (8, .v (.int .i64 k) none)], bx := [], tb := [], sh := [], hint := [] }) (l.length) (by first | rfl | simp) ?_ ?_
 exact ⟨0, by simp⟩
 rintro j s ⟨k, hk, hc, rfl, rfl⟩ K2 hK2
 refine sr fun Z z => ?_
 simp [row_map]
 refine z _ ?_
 clear z Z
 refine AT_seq_k fun K3 hK3 => ?_
 refine AT_cond (g := none) rfl (fun hb9 => ?_) (fun hb9 => ?_)
 simp [row_map] at hb9
 refine AT_skip ?_
 refine hK3 _ ?_
 refine AT_seq_k fun K4 hK4 => ?_
 refine AT_block ?_
 refine sr fun Z z => ?_
 simp [row_map, hb9]
 refine z _ ?_
 clear z Z
 refine sr fun Z z => ?_
 have hk9 : k < l.length := by omega
 have hda := List.drop_eq_getElem_cons hk9
 simp [row_map, hb9]
 refine RVn_call (hq l[k] (by simp)) ?_
 simp [row_map, hb9]
 refine z _ ?_
 clear z Z
 refine AT_cond (g := none) rfl (fun hb16 => ?_) (fun hb16 => ?_)
 refine sr fun Z z => ?_
 simp [row_map, hb9, hb16]
 refine z _ ?_
 clear z Z
 refine AT_ret ?_
 simp [row_map, Tryd.f79]
 (· rw [hc, hda, idxQ, if_pos hb16])
 refine AT_skip ?_
 refine hK4 _ ?_
 refine AT_region_q fun Z z => ?_
 simp [row_map, hb9, hb16]
 repeat refine sg ?_
 refine z _ ?_
 clear z Z
 refine hK2 _ (by first | rfl | simp) (l.length - (k+1)) (by omega) ?_
 refine ⟨k+1, by omega, ?_, by omega, by simp⟩
 rw [hc, hda, idxQ, if_neg (by simp [hb16])]
 simp [row_map] at hb9
 refine AT_exit ?_
 refine hK1 _ ?_
 refine sr fun Z z => ?_
 simp [row_map, hb9]
 refine z _ ?_
 clear z Z
 refine AT_ret ?_
 simp [row_map, Tryd.f79]
 (rw [hc, List.drop_eq_nil_of_le (by omega)]; rfl)

theorem c_slices_ContainsFunc_api_Type_api_Type_q (fid : Nat) (caps : List AV) (q : Ty → Bool) (l : List Ty) (hl : l.length ≤ 1099511627776) (hq : ∀ x ∈ l, Valid Tryd.prog (G0 g rnd) fid ([.agg (encTy x)] ++ caps) (.bool (q x))) : Valid Tryd.prog (G0 g rnd) 62 [.slice (l.map encTy), .func fid caps] (.bool (l.any q)) := by

 refine valid_of [] Tryd.func62 rfl (by kernel_rfl) ?_
 refine sr fun Z z => ?_
 simp [Tryd.f62]
 refine z _ ?_
 clear z Z
 refine sr fun Z z => ?_
 simp
 refine RVn_call (c_slices_IndexFunc_api_Type_api_Type_q g rnd fid caps q l hl hq) ?_
 simp
 refine z _ ?_
 clear z Z
 refine AT_ret ?_
 simp [Tryd.f62]
 exact idxQ_any q l 0

theorem c_slices_IndexFunc_api_Expr_api_Expr (Y : Ys) (hP : Y.P = Tryd.prog) (L : Exp → List AV) (caps : List AV) (l : List Exp) (s : List AV) (hl : l.length ≤ 1099511627776) (he : elOk Y s (l.flatMap L)) (hcl : ∀ a ∈ l, ∀ s, elOk Y s (L a) → ValidY Tryd.prog (G1 g Y) Y 70 ([.agg (encE a)] ++ caps) (s, true) (.bool (!(feed Y s (L a)).2)) (feed Y s (L a))) : ValidY Tryd.prog (G1 g Y) Y 87 [.slice (l.map encE), .func 70 caps] (s, true) (.int .i64 (visI Y L s l 0)) (feed Y s (l.flatMap L)) := by

 refine validY_of [] Tryd.func87 rfl (by kernel_rfl) rfl hP ?_
 refine sr fun Z z => ?_
 simp [row_map, Tryd.f87]
 refine z _ ?_
 clear z Z
 refine AT_seq_k fun K1 hK1 => ?_
 refine sr fun Z z => ?_
 simp [row_map]
 refine z _ ?_
 clear z Z
 refine AT_block ?_
 refine AT_loop_q [0,1,7,8] [] (fun j st => ∃ k s1, k ≤ l.length ∧ feed Y s (l.flatMap L) = feed Y s1 ((l.drop k).flatMap L) ∧ visI Y L s l 0 = visI Y L s1 (l.drop k) k ∧ elOk Y s1 ((l.drop k).flatMap L) ∧ j = l.length - k ∧ st = { n := 19, tm := [(0, .v (.slice (l.map encE)) none), (1, .v (.func 70 caps) none), (7, .v (.int .i64 l.length) none), (8, .v (.int .i64 k) none)], bx := [], tb := [], sh := [], hint := [], ys := (s1, true) }) (l.length) (by first | rfl | simp) ?_ ?_
 exact ⟨0, s, by simp [he]⟩
 rintro j st ⟨k, s1, hk, hf, hv, hel, rfl, rfl⟩ K2 hK2
 refine sr fun Z z => ?_
 simp [row_map]
 refine z _ ?_
 clear z Z
 refine AT_seq_k fun K3 hK3 => ?_
 refine AT_cond (g := none) rfl (fun hb9 => ?_) (fun hb9 => ?_)
 simp [row_map] at hb9
 refine AT_skip ?_
 refine hK3 _ ?_
 refine AT_seq_k fun K4 hK4 => ?_
 refine AT_block ?_
 refine sr fun Z z => ?_
 simp [row_map, hb9]
 refine z _ ?_
 clear z Z
 refine sr fun Z z => ?_
 have hk9 : k < l.length := by omega
 have hda := List.drop_eq_getElem_cons hk9
 simp [row_map, hb9]
 refine RVn_callY rfl (by simp) (hcl l[k] (by simp) s1 (by rw [hda, List.flatMap_cons, elOk_app] at hel; exact hel.1)) ?_
 simp [row_map, hb9]
 refine z _ ?_
 clear z Z
 refine AT_cond (g := none) rfl (fun hb16 => ?_) (fun hb16 => ?_)
 simp [row_map, hb9] at hb16
 refine sr fun Z z => ?_
 simp [row_map, hb9]
 refine z _ ?_
 clear z Z
 refine AT_ret ?_
 simp [row_map, Tryd.f87]
 (refine ⟨?_, ?_⟩
  · rw [hv, hda, visI, if_neg (by simp [hb16])]
  · rw [hf, hda, List.flatMap_cons, feed_app, if_neg (by simp [hb16])])
 simp [row_map, hb9] at hb16
 refine AT_skip ?_
 refine hK4 _ ?_
 refine AT_region_q fun Z z => ?_
 simp [row_map, hb9]
 repeat refine sg ?_
 refine z _ ?_
 clear z Z
 refine hK2 _ (by first | rfl | simp) (l.length - (k+1)) (by omega) ?_
 refine ⟨k+1, (feed Y s1 (L l[k])).1, by omega, ?_, ?_, ?_, by omega, ?_⟩
 · rw [hf, hda, List.flatMap_cons, feed_app, if_pos hb16]
 · rw [hv, hda, visI, if_pos hb16]
 · rw [hda, List.flatMap_cons, elOk_app] at hel; exact hel.2 hb16
 · simp; exact Prod.ext rfl hb16
 simp [row_map] at hb9
 refine AT_exit ?_
 refine hK1 _ ?_
 refine sr fun Z z => ?_
 simp [row_map, hb9]
 refine z _ ?_
 clear z Z
 refine AT_ret ?_
 simp [row_map, Tryd.f87]
 (have hnil := List.drop_eq_nil_of_le (show l.length ≤ k by omega)
  rw [hf, hv, hnil]; simp [visI, feed])

theorem c_slices_ContainsFunc_api_Expr_api_Expr (Y : Ys) (hP : Y.P = Tryd.prog) (L : Exp → List AV) (caps : List AV) (l : List Exp) (s : List AV) (hl : l.length ≤ 1099511627776) (he : elOk Y s (l.flatMap L)) (hcl : ∀ a ∈ l, ∀ s, elOk Y s (L a) → ValidY Tryd.prog (G1 g Y) Y 70 ([.agg (encE a)] ++ caps) (s, true) (.bool (!(feed Y s (L a)).2)) (feed Y s (L a))) : ValidY Tryd.prog (G1 g Y) Y 71 [.slice (l.map encE), .func 70 caps] (s, true) (.bool (!(feed Y s (l.flatMap L)).2)) (feed Y s (l.flatMap L)) := by

 refine validY_of [] Tryd.func71 rfl (by kernel_rfl) rfl hP ?_
 refine sr fun Z z => ?_
 simp [Tryd.f71]
 refine z _ ?_
 clear z Z
 refine sr fun Z z => ?_
 simp
 refine RVn_callY rfl (by simp) (c_slices_IndexFunc_api_Expr_api_Expr g Y hP L caps l s hl he hcl) ?_
 simp
 refine z _ ?_
 clear z Z
 refine AT_ret ?_
 simp [Tryd.f71]
 exact visI_feed Y L s l 0

theorem c_expr_visit_1 (Y : Ys) (hP : Y.P = Tryd.prog) (e : Exp) (s : List AV) (r : Bool) (ys : List AV × Bool) (hv : ValidY Tryd.prog (G1 g Y) Y 57 [.agg (encE e), .yld Y.l] (s, true) (.bool r) ys) : ValidY Tryd.prog (G1 g Y) Y 70 [.agg (encE e), .ro [.yld Y.l]] (s, true) (.bool (!r)) ys := by

 refine validY_of [(200002, 0)] Tryd.func70 rfl (by kernel_rfl) rfl hP ?_
 refine sr fun Z z => ?_
 simp [Tryd.f70]
 refine z _ ?_
 clear z Z
 refine sr fun Z z => ?_
 simp
 refine RVn_callY rfl (by simp) (hv) ?_
 simp
 refine z _ ?_
 clear z Z
 refine AT_ret ?_
 simp [Tryd.f70]

theorem c_expr_visit (Y : Ys) (hP : Y.P = Tryd.prog) : ∀ e : Exp, wtE e ≤ 1000000000 → ∀ s : List AV, elOk Y s ((lstE e).map avE) → ValidY Tryd.prog (G1 g Y) Y 57 [.agg (encE e), .yld Y.l] (s, true) (.bool (feed Y s ((lstE e).map avE)).2) (feed Y s ((lstE e).map avE)) := by
 intro e
 induction e using Exp.ind with
 | h kd n t ta l p ih =>
 intro hw
 have hw2 : n.length + 1 + wt t + wts ta + wtEs l ≤ 1000000000 := by simpa [wtE_mk] using hw
 have hln := wtEs_len l
 have hla := wts_len ta
 intro s he
 have hfl : (lstEs l).map avE = l.flatMap (fun e => (lstE e).map avE) := by rw [lstEs_flat, List.map_flatten, List.map_map, List.flatMap_def]; rfl
 have hlst : (lstE (.mk kd n t ta l p)).map avE = .agg (encE (.mk kd n t ta l p)) :: l.flatMap (fun e => (lstE e).map avE) := by simp [lstE, hfl]
 rw [hlst] at he ⊢
 have he1 : Y.el s (.agg (encE (.mk kd n t ta l p))) := he.1
 refine validY_of [(200002, 0), (200003, 0)] Tryd.func57 rfl (by kernel_rfl) rfl hP ?_
 refine sr fun Z z => ?_
 simp [row_map, Tryd.f57]
 refine z _ ?_
 clear z Z
 refine AT_seq_k fun K1 hK1 => ?_
 cases hgo : Y.go s (.agg (encE (.mk kd n t ta l p)))
 refine sr fun Z z => ?_
 simp [row_map, hgo]
 refine RVn_yld rfl rfl (by simp) rfl (he1) ?_
 simp [row_map, hgo]
 refine z _ ?_
 clear z Z
 refine cT (by simp [hgo]) ?_
 refine sr fun Z z => ?_
 simp [row_map, hgo]
 refine z _ ?_
 clear z Z
 refine AT_ret ?_
 simp [row_map, Tryd.f57]
 simp [feed, hgo]
 refine sr fun Z z => ?_
 simp [row_map, hgo]
 refine RVn_yld rfl rfl (by simp) rfl (he1) ?_
 simp [row_map, hgo]
 refine z _ ?_
 clear z Z
 refine cF (by simp [hgo]) ?_
 refine AT_skip ?_
 refine hK1 _ ?_
 refine sr fun Z z => ?_
 simp [row_map, hgo]
 refine z _ ?_
 clear z Z
 refine sr fun Z z => ?_
 simp [row_map, hgo]
 refine RVn_callY rfl (by simp) (c_slices_ContainsFunc_api_Expr_api_Expr g Y hP (fun e => (lstE e).map avE) [.ro [.yld Y.l]] l (s ++ [.agg (encE (.mk kd n t ta l p))]) (by omega) (he.2 hgo) (fun a ha s2 hs2 => c_expr_visit_1 g Y hP a s2 _ _ (ih a ha (Nat.le_trans (wtEs_mem ha) (by omega)) s2 hs2))) ?_
 simp [row_map, hgo]
 refine z _ ?_
 clear z Z
 refine AT_ret ?_
 simp [row_map, Tryd.f57]
 simp [feed, hgo]

theorem c_expr_All_1 (Y : Ys) (hP : Y.P = Tryd.prog) (e : Exp) (hw : wtE e ≤ 1000000000) (s : List AV) (he : elOk Y s ((lstE e).map avE)) : ValidY Tryd.prog (G1 g Y) Y 56 [.yld Y.l, .ro (encE e)] (s, true) (.tup []) (feed Y s ((lstE e).map avE)) := by

 refine validY_of [] Tryd.func56 rfl (by kernel_rfl) rfl hP ?_
 refine AT_region_q fun Z z => ?_
 simp [Tryd.f56]
 refine RVn_callY rfl (by simp) (c_expr_visit g Y hP e hw s he) ?_
 simp
 refine z _ ?_
 clear z Z
 simp [Tryd.f56]

theorem c_expr_All (e : Exp) : Valid Tryd.prog (G0 g rnd) 28 [.agg (encE e)] (.func 56 [.ro (encE e)]) := by

 refine valid_of [(200001, 0)] Tryd.func28 rfl (by kernel_rfl) ?_
 refine sr fun Z z => ?_
 simp [Tryd.f28]
 refine z _ ?_
 clear z Z
 refine sr fun Z z => ?_
 simp
 refine z _ ?_
 clear z Z
 refine AT_ret ?_
 simp [Tryd.f28]

end Go.Proofs.YtjkabaejabibnaaDoor
end

import Derived.Test.YtjkabaejabibnaaDoorPt
import Derived.Test.YtjkabaejabibnaaDoorPvPa
import Derived.Test.YtjkabaejabibnaaDoorPvZ
import Derived.Test.YtjkabaejabibnaaDoorXExA
import Derived.Test.YtjkabaejabibnaaDoorXNaB
import Derived.Test.YtjkabaejabibnaaDoorPvMc
section
/- Contracts. -/
set_option linter.all false
set_option maxHeartbeats 1000000
set_option maxRecDepth 10000
namespace Go.Proofs.YtjkabaejabibnaaDoor
open Go Go.Pv
variable (g : Nat → Option (List AV)) (rnd : Bool)

theorem c_slices_IndexFunc_api_Type_api_Type (Y : Ys) (hP : Y.P = Tryd.prog) (L : Ty → List AV) (caps : List AV) (l : List Ty) (s : List AV) (hl : l.length ≤ 1099511627776) (he : elOk Y s (l.flatMap L)) (hcl : ∀ a ∈ l, ∀ s, elOk Y s (L a) → ValidY Tryd.prog (G1 g Y) Y 96 ([.agg (encTy a)] ++ caps) (s, true) (.bool (!(feed Y s (L a)).2)) (feed Y s (L a))) : ValidY Tryd.prog (G1 g Y) Y 79 [.slice (l.map encTy), .func 96 caps] (s, true) (.int .i64 (visI Y L s l 0)) (feed Y s (l.flatMap L)) := by

 refine validY_of [] Tryd.func79 rfl (by kernel_rfl) rfl hP ?_
 refine AT_seq_region fun K1 hK1 => ?_
 simp [row_map, Tryd.f79]
 repeat refine sg ?_
 refine hK1 _ ?_
 clear hK1 K1
 refine AT_seq_k fun K2 hK2 => ?_
 refine AT_seq_region fun K3 hK3 => ?_
 simp [row_map]
 repeat refine sg ?_
 refine hK3 _ ?_
 clear hK3 K3
 refine AT_block ?_
 refine AT_loop_q [0,1,7,8] [] (fun j st => ∃ k s1, k ≤ l.length ∧ feed Y s (l.flatMap L) = feed Y s1 ((l.drop k).flatMap L) ∧ visI Y L s l 0 = visI Y L s1 (l.drop k) k ∧ elOk Y s1 ((l.drop k).flatMap L) ∧ j = l.length - k ∧ st = { n := 19, tm := [(0, .v (.slice (l.map encTy)) none), (1, .v (.func 96 caps) none), (7, .v (.int .i64 l.length) none), (8, .v (.int .i64 k) none)], bx := [], tb := [], sh := [], hint := [], ys := (s1, true) }) (l.length) (by first | rfl | simp) ?_ ?_
 ·
  exact ⟨0, s, by simp [he]⟩
 ·
  rintro j st ⟨k, s1, hk, hf, hv, hel, rfl, rfl⟩ K4 hK4
  refine AT_seq_region fun K5 hK5 => ?_
  simp [row_map]
  repeat refine sg ?_
  refine hK5 _ ?_
  clear hK5 K5
  refine AT_seq_k fun K6 hK6 => ?_
  refine AT_cond (g := none) rfl (fun hb9 => ?_) (fun hb9 => ?_)
  ·
   try simp [row_map] at hb9
   refine AT_skip ?_
   try simp only [nrm, reduceIte, Nat.reduceEqDiff]
   refine hK6 _ ?_
   refine AT_seq_k fun K7 hK7 => ?_
   refine AT_block ?_
   refine AT_seq_region fun K8 hK8 => ?_
   simp [row_map, hb9]
   repeat refine sg ?_
   refine hK8 _ ?_
   clear hK8 K8
   refine AT_seq_region fun K9 hK9 => ?_
   have hk9 : k < l.length := by omega
   have hda := List.drop_eq_getElem_cons hk9
   simp [row_map, hb9]
   repeat refine sg ?_
   refine RVn_callY rfl (by simp) (hcl l[k] (by simp) s1 (by rw [hda, List.flatMap_cons, elOk_app] at hel; exact hel.1)) ?_
   simp [row_map, hb9]
   repeat refine sg ?_
   refine hK9 _ ?_
   clear hK9 K9
   refine AT_cond (g := none) rfl (fun hb16 => ?_) (fun hb16 => ?_)
   ·
    try simp [row_map, hb9] at hb16
    refine AT_seq_region fun K10 hK10 => ?_
    simp [row_map, hb9]
    repeat refine sg ?_
    refine hK10 _ ?_
    clear hK10 K10
    refine AT_ret ?_
    simp [row_map, Tryd.f79]
    first
    | (refine ⟨?_, ?_⟩
       · rw [hv, hda, visI, if_neg (by simp [hb16])]
       · rw [hf, hda, List.flatMap_cons, feed_app, if_neg (by simp [hb16])])
    | (have hnil := List.drop_eq_nil_of_le (show l.length ≤ k by omega)
       rw [hf, hv, hnil]; simp [visI, feed])
   ·
    try simp [row_map, hb9] at hb16
    refine AT_skip ?_
    try simp only [nrm, reduceIte, Nat.reduceEqDiff]
    refine hK7 _ ?_
    refine AT_region_q fun K11 hK11 => ?_
    simp [row_map, hb9]
    repeat refine sg ?_
    refine hK11 _ ?_
    clear hK11 K11
    try simp only [nrm, reduceIte, Nat.reduceEqDiff]
    refine hK4 _ (by first | rfl | simp) (l.length - (k+1)) (by omega) ?_
    refine ⟨k+1, (feed Y s1 (L l[k])).1, by omega, ?_, ?_, ?_, by omega, ?_⟩
    · rw [hf, hda, List.flatMap_cons, feed_app, if_pos hb16]
    · rw [hv, hda, visI, if_pos hb16]
    · rw [hda, List.flatMap_cons, elOk_app] at hel; exact hel.2 hb16
    · simp; exact Prod.ext rfl hb16
  ·
   try simp [row_map] at hb9
   refine AT_exit ?_
   try simp only [nrm, reduceIte, Nat.reduceEqDiff]
   refine hK2 _ ?_
   refine AT_seq_region fun K12 hK12 => ?_
   simp [row_map, hb9]
   repeat refine sg ?_
   refine hK12 _ ?_
   clear hK12 K12
   refine AT_ret ?_
   simp [row_map, Tryd.f79]
   first
   | (refine ⟨?_, ?_⟩
      · rw [hv, hda, visI, if_neg (by simp [hb16])]
      · rw [hf, hda, List.flatMap_cons, feed_app, if_neg (by simp [hb16])])
   | (have hnil := List.drop_eq_nil_of_le (show l.length ≤ k by omega)
      rw [hf, hv, hnil]; simp [visI, feed])

theorem c_slices_ContainsFunc_api_Type_api_Type (Y : Ys) (hP : Y.P = Tryd.prog) (L : Ty → List AV) (caps : List AV) (l : List Ty) (s : List AV) (hl : l.length ≤ 1099511627776) (he : elOk Y s (l.flatMap L)) (hcl : ∀ a ∈ l, ∀ s, elOk Y s (L a) → ValidY Tryd.prog (G1 g Y) Y 96 ([.agg (encTy a)] ++ caps) (s, true) (.bool (!(feed Y s (L a)).2)) (feed Y s (L a))) : ValidY Tryd.prog (G1 g Y) Y 62 [.slice (l.map encTy), .func 96 caps] (s, true) (.bool (!(feed Y s (l.flatMap L)).2)) (feed Y s (l.flatMap L)) := by

 refine validY_of [] Tryd.func62 rfl (by kernel_rfl) rfl hP ?_
 refine AT_seq_region fun K1 hK1 => ?_
 simp [Tryd.f62]
 repeat refine sg ?_
 refine hK1 _ ?_
 clear hK1 K1
 refine AT_seq_region fun K2 hK2 => ?_
 simp
 repeat refine sg ?_
 refine RVn_callY rfl (by simp) (c_slices_IndexFunc_api_Type_api_Type g Y hP L caps l s hl he hcl) ?_
 simp
 repeat refine sg ?_
 refine hK2 _ ?_
 clear hK2 K2
 refine AT_ret ?_
 simp [Tryd.f62]
 exact visI_feed Y L s l 0

end Go.Proofs.YtjkabaejabibnaaDoor
end

section
/- Contracts. -/
set_option linter.all false
set_option maxHeartbeats 1000000
set_option maxRecDepth 10000
namespace Go.Proofs.YtjkabaejabibnaaDoor
open Go Go.Pv
variable (g : Nat → Option (List AV)) (rnd : Bool)

theorem c_types_visit_1 (Y : Ys) (hP : Y.P = Tryd.prog) (t : Ty) (s : List AV) (r : Bool) (ys : List AV × Bool) (hv : ValidY Tryd.prog (G1 g Y) Y 91 [.agg (encTy t), .yld Y.l] (s, true) (.bool r) ys) : ValidY Tryd.prog (G1 g Y) Y 96 [.agg (encTy t), .ro [.yld Y.l]] (s, true) (.bool (!r)) ys := by

 refine validY_of [(200002, 0)] Tryd.func96 rfl (by kernel_rfl) rfl hP ?_
 refine AT_seq_region fun K1 hK1 => ?_
 simp [Tryd.f96]
 repeat refine sg ?_
 refine hK1 _ ?_
 clear hK1 K1
 refine AT_seq_region fun K2 hK2 => ?_
 simp
 repeat refine sg ?_
 refine RVn_callY rfl (by simp) (hv) ?_
 simp
 repeat refine sg ?_
 refine hK2 _ ?_
 clear hK2 K2
 refine AT_ret ?_
 simp [Tryd.f96]

theorem c_types_visit (Y : Ys) (hP : Y.P = Tryd.prog) : ∀ t : Ty, wt t ≤ 1099511627776 → ∀ s : List AV, elOk Y s ((lst t).map AV.str) → ValidY Tryd.prog (G1 g Y) Y 91 [.agg (encTy t), .yld Y.l] (s, true) (.bool (feed Y s ((lst t).map AV.str)).2) (feed Y s ((lst t).map AV.str)) := by
 intro t
 induction t using Ty.ind with
 | h n ts p ih =>
 intro hw
 have hw2 : n.length + 1 + wts ts ≤ 1099511627776 := by simpa [wt] using hw
 have hln := wts_len ts
 intro s he
 have hfl : (lsts ts).map AV.str = ts.flatMap (fun t => (lst t).map AV.str) := by rw [lsts_flat, List.map_flatten, List.map_map, List.flatMap_def]; rfl
 have hlst : (lst (.mk n ts p)).map AV.str = .str n :: ts.flatMap (fun t => (lst t).map AV.str) := by simp [lst, hfl]
 rw [hlst] at he ⊢
 have he1 : Y.el s (.str n) := he.1
 refine validY_of [(200002, 0), (200003, 0)] Tryd.func91 rfl (by kernel_rfl) rfl hP ?_
 refine AT_seq_region fun K1 hK1 => ?_
 simp [row_map, encTy_mk, Tryd.f91]
 repeat refine sg ?_
 refine hK1 _ ?_
 clear hK1 K1
 refine AT_seq_k fun K2 hK2 => ?_
 cases hgo : Y.go s (.str n)
 ·
  refine AT_seq_region fun K3 hK3 => ?_
  simp [row_map, encTy_mk, hgo]
  repeat refine sg ?_
  refine RVn_yld rfl rfl (by simp) rfl (he1) ?_
  simp [row_map, encTy_mk, hgo]
  repeat refine sg ?_
  refine hK3 _ ?_
  clear hK3 K3
  refine AT_cond (b := true) (g := none) (by simp [hgo]) (fun hb => ?_) (fun hb => ?_)
  ·
   clear hb
   refine AT_seq_region fun K4 hK4 => ?_
   simp [row_map, encTy_mk, hgo]
   repeat refine sg ?_
   refine hK4 _ ?_
   clear hK4 K4
   refine AT_ret ?_
   simp [row_map, encTy_mk, Tryd.f91]
   simp [feed, hgo]
  ·
   cases hb
 ·
  refine AT_seq_region fun K5 hK5 => ?_
  simp [row_map, encTy_mk, hgo]
  repeat refine sg ?_
  refine RVn_yld rfl rfl (by simp) rfl (he1) ?_
  simp [row_map, encTy_mk, hgo]
  repeat refine sg ?_
  refine hK5 _ ?_
  clear hK5 K5
  refine AT_cond (b := false) (g := none) (by simp [hgo]) (fun hb => ?_) (fun hb => ?_)
  ·
   cases hb
  ·
   clear hb
   refine AT_skip ?_
   try simp only [nrm, reduceIte, Nat.reduceEqDiff]
   refine hK2 _ ?_
   refine AT_seq_region fun K6 hK6 => ?_
   simp [row_map, encTy_mk, hgo]
   repeat refine sg ?_
   refine hK6 _ ?_
   clear hK6 K6
   refine AT_seq_region fun K7 hK7 => ?_
   simp [row_map, encTy_mk, hgo]
   repeat refine sg ?_
   refine RVn_callY rfl (by simp) (c_slices_ContainsFunc_api_Type_api_Type g Y hP (fun t => (lst t).map AV.str) [.ro [.yld Y.l]] ts (s ++ [.str n]) (by omega) (he.2 hgo) (fun a ha s2 hs2 => c_types_visit_1 g Y hP a s2 _ _ (ih a ha (Nat.le_trans (wts_mem ha) (by omega)) s2 hs2))) ?_
   simp [row_map, encTy_mk, hgo]
   repeat refine sg ?_
   refine hK7 _ ?_
   clear hK7 K7
   refine AT_ret ?_
   simp [row_map, encTy_mk, Tryd.f91]
   simp [feed, hgo]

theorem c_types_Names_1 (Y : Ys) (hP : Y.P = Tryd.prog) (t : Ty) (hw : wt t ≤ 1099511627776) (s : List AV) (he : elOk Y s ((lst t).map AV.str)) : ValidY Tryd.prog (G1 g Y) Y 90 [.yld Y.l, .ro (encTy t)] (s, true) (.tup []) (feed Y s ((lst t).map AV.str)) := by

 refine validY_of [] Tryd.func90 rfl (by kernel_rfl) rfl hP ?_
 refine AT_region_q fun K1 hK1 => ?_
 simp [Tryd.f90]
 repeat refine sg ?_
 refine RVn_callY rfl (by simp) (c_types_visit g Y hP t hw s he) ?_
 simp
 repeat refine sg ?_
 refine hK1 _ ?_
 clear hK1 K1
 try simp only [nrm, reduceIte, Nat.reduceEqDiff]
 simp [Tryd.f90]

theorem c_types_Names (t : Ty) : Valid Tryd.prog (G0 g rnd) 78 [.agg (encTy t)] (.func 90 [.ro (encTy t)]) := by

 refine valid_of [(200001, 0)] Tryd.func78 rfl (by kernel_rfl) ?_
 refine AT_seq_region fun K1 hK1 => ?_
 simp [Tryd.f78]
 repeat refine sg ?_
 refine hK1 _ ?_
 clear hK1 K1
 refine AT_seq_region fun K2 hK2 => ?_
 simp
 repeat refine sg ?_
 refine hK2 _ ?_
 clear hK2 K2
 refine AT_ret ?_
 simp [Tryd.f78]

theorem rightT_len {t : Ty} (hw : wt t ≤ 1099511627776) : ∀ s ∈ lst t, s.length ≤ 1099511627776 := fun s hs => Nat.le_trans (Nat.le_of_lt (lst_mem_wt t s hs)) hw

theorem c_ref04x_Right (t : Ty) (hw : wt t ≤ 1099511627776) : Valid Tryd.prog (G0 g rnd) 33 [.agg (encTy t)] (.bool (rightT t)) := by

 refine valid_of [] Tryd.func33 rfl (by kernel_rfl) ?_
 refine AT_seq_region fun K1 hK1 => ?_
 simp [row_map, Tryd.f33]
 repeat refine sg ?_
 refine hK1 _ ?_
 clear hK1 K1
 refine AT_seq_region fun K2 hK2 => ?_
 have hll := lst_wt t
 simp [row_map]
 repeat refine sg ?_
 refine RVn_call (c_ref04x_List g rnd t hw) ?_
 simp [row_map]
 repeat refine sg ?_
 refine hK2 _ ?_
 clear hK2 K2
 refine AT_seq_k fun K3 hK3 => ?_
 refine AT_seq_region fun K4 hK4 => ?_
 simp [row_map]
 repeat refine sg ?_
 refine hK4 _ ?_
 clear hK4 K4
 refine AT_block ?_
 refine AT_loop_q [3,4] [] (fun j s => ∃ k, k ≤ (lst t).length ∧ rightT t = ((lst t).drop k).all isName ∧ j = (lst t).length - k ∧ s = { n := 19, tm := [(3, .v (.slice ((lst t).map encS)) none), (4, .v (.int .i64 k) none)], bx := [], tb := [], sh := [], hint := [] }) ((lst t).length) (by first | rfl | simp) ?_ ?_
 ·
  exact ⟨0, by simp [rightT]⟩
 ·
  rintro j s ⟨k, hk, hc, rfl, rfl⟩ K5 hK5
  refine AT_seq_k fun K6 hK6 => ?_
  refine AT_seq_region fun K7 hK7 => ?_
  have hll := lst_wt t
  simp [row_map]
  repeat refine sg ?_
  refine hK7 _ ?_
  clear hK7 K7
  refine AT_cond (g := none) rfl (fun hb10 => ?_) (fun hb10 => ?_)
  ·
   try simp [row_map] at hb10
   refine AT_skip ?_
   try simp only [nrm, reduceIte, Nat.reduceEqDiff]
   refine hK6 _ ?_
   refine AT_seq_k fun K8 hK8 => ?_
   refine AT_block ?_
   refine AT_seq_region fun K9 hK9 => ?_
   have hda := List.drop_eq_getElem_cons hb10
   simp [row_map, hb10]
   repeat refine sg ?_
   refine RVn_call (c_ref01x_Is g rnd _ (rightT_len hw _ (by simp))) ?_
   simp [row_map, hb10]
   repeat refine sg ?_
   refine hK9 _ ?_
   clear hK9 K9
   refine AT_cond (g := none) rfl (fun hb18 => ?_) (fun hb18 => ?_)
   ·
    try simp [row_map, hb10] at hb18
    refine AT_seq_region fun K10 hK10 => ?_
    simp [row_map, hb10]
    repeat refine sg ?_
    refine hK10 _ ?_
    clear hK10 K10
    refine AT_ret ?_
    simp [row_map, Tryd.f33]
    first
    | (rw [hc, hda, List.all_cons, hb18]; rfl)
    | (rw [hc, List.drop_eq_nil_of_le hb10]; rfl)
   ·
    try simp [row_map, hb10] at hb18
    refine AT_skip ?_
    try simp only [nrm, reduceIte, Nat.reduceEqDiff]
    refine hK8 _ ?_
    refine AT_region_q fun K11 hK11 => ?_
    simp [row_map, hb10]
    repeat refine sg ?_
    refine hK11 _ ?_
    clear hK11 K11
    try simp only [nrm, reduceIte, Nat.reduceEqDiff]
    refine hK5 _ (by first | rfl | simp) ((lst t).length - (k+1)) (by omega) ?_
    refine ⟨k+1, by omega, ?_, by omega, by simp⟩
    rw [hc, hda, List.all_cons, hb18, Bool.true_and]
  ·
   try simp [row_map] at hb10
   refine AT_exit ?_
   try simp only [nrm, reduceIte, Nat.reduceEqDiff]
   refine hK3 _ ?_
   refine AT_seq_region fun K12 hK12 => ?_
   simp [row_map, hb10]
   repeat refine sg ?_
   refine hK12 _ ?_
   clear hK12 K12
   refine AT_ret ?_
   simp [row_map, Tryd.f33]
   first
   | (rw [hc, hda, List.all_cons, hb18]; rfl)
   | (rw [hc, List.drop_eq_nil_of_le hb10]; rfl)

end Go.Proofs.YtjkabaejabibnaaDoor
end

section
/- Contracts: expressions handed out. -/
set_option linter.all false
set_option maxHeartbeats 1000000
set_option maxRecDepth 10000
namespace Go.Proofs.YtjkabaejabibnaaDoor
open Go Go.Pv
variable (g : Nat → Option (List AV)) (rnd : Bool)

theorem c_slices_IndexFunc_api_Type_api_Type_q (fid : Nat) (caps : List AV) (q : Ty → Bool) (l : List Ty) (hl : l.length ≤ 1099511627776) (hq : ∀ x ∈ l, Valid Tryd.prog (G0 g rnd) fid ([.agg (encTy x)] ++ caps) (.bool (q x))) : Valid Tryd.prog (G0 g rnd) 79 [.slice (l.map encTy), .func fid caps] (.int .i64 (idxQ q l 0)) := by

 refine valid_of [] Tryd.func79 rfl (by kernel_rfl) ?_
 refine AT_seq_region fun K1 hK1 => ?_
 simp [row_map, Tryd.f79]
 repeat refine sg ?_
 refine hK1 _ ?_
 clear hK1 K1
 refine AT_seq_k fun K2 hK2 => ?_
 refine AT_seq_region fun K3 hK3 => ?_
 simp [row_map]
 repeat refine sg ?_
 refine hK3 _ ?_
 clear hK3 K3
 refine AT_block ?_
 refine AT_loop_q [0,1,7,8] [] (fun j s => ∃ k, k ≤ l.length ∧ idxQ q l 0 = idxQ q (l.drop k) k ∧ j = l.length - k ∧ s = { n := 19, tm := [(0, .v (.slice (l.map encTy)) none), (1, .v (.func fid caps) none), (7, .v (.int .i64 l.length) none), (8, .v (.int .i64 k) none)], bx := [], tb := [], sh := [], hint := [] }) (l.length) (by first | rfl | simp) ?_ ?_
 ·
  exact ⟨0, by simp⟩
 ·
  rintro j s ⟨k, hk, hc, rfl, rfl⟩ K4 hK4
  refine AT_seq_region fun K5 hK5 => ?_
  simp [row_map]
  repeat refine sg ?_
  refine hK5 _ ?_
  clear hK5 K5
  refine AT_seq_k fun K6 hK6 => ?_
  refine AT_cond (g := none) rfl (fun hb9 => ?_) (fun hb9 => ?_)
  ·
   try simp [row_map] at hb9
   refine AT_skip ?_
   try simp only [nrm, reduceIte, Nat.reduceEqDiff]
   refine hK6 _ ?_
   refine AT_seq_k fun K7 hK7 => ?_
   refine AT_block ?_
   refine AT_seq_region fun K8 hK8 => ?_
   simp [row_map, hb9]
   repeat refine sg ?_
   refine hK8 _ ?_
   clear hK8 K8
   refine AT_seq_region fun K9 hK9 => ?_
   have hk9 : k < l.length := by omega
   have hda := List.drop_eq_getElem_cons hk9
   simp [row_map, hb9]
   repeat refine sg ?_
   refine RVn_call (hq l[k] (by simp)) ?_
   simp [row_map, hb9]
   repeat refine sg ?_
   refine hK9 _ ?_
   clear hK9 K9
   refine AT_cond (g := none) rfl (fun hb16 => ?_) (fun hb16 => ?_)
   ·
    try simp [row_map, hb9] at hb16
    refine AT_seq_region fun K10 hK10 => ?_
    simp [row_map, hb9, hb16]
    repeat refine sg ?_
    refine hK10 _ ?_
    clear hK10 K10
    refine AT_ret ?_
    simp [row_map, Tryd.f79]
    first
    | (rw [hc, hda, idxQ, if_pos hb16]; done)
    | (rw [hc, List.drop_eq_nil_of_le (by omega)]; rfl)
   ·
    try simp [row_map, hb9] at hb16
    refine AT_skip ?_
    try simp only [nrm, reduceIte, Nat.reduceEqDiff]
    refine hK7 _ ?_
    refine AT_region_q fun K11 hK11 => ?_
    simp [row_map, hb9, hb16]
    repeat refine sg ?_
    refine hK11 _ ?_
    clear hK11 K11
    try simp only [nrm, reduceIte, Nat.reduceEqDiff]
    refine hK4 _ (by first | rfl | simp) (l.length - (k+1)) (by omega) ?_
    refine ⟨k+1, by omega, ?_, by omega, by simp⟩
    rw [hc, hda, idxQ, if_neg (by simp [hb16])]
  ·
   try simp [row_map] at hb9
   refine AT_exit ?_
   try simp only [nrm, reduceIte, Nat.reduceEqDiff]
   refine hK2 _ ?_
   refine AT_seq_region fun K12 hK12 => ?_
   simp [row_map, hb9]
   repeat refine sg ?_
   refine hK12 _ ?_
   clear hK12 K12
   refine AT_ret ?_
   simp [row_map, Tryd.f79]
   first
   | (rw [hc, hda, idxQ, if_pos hb16]; done)
   | (rw [hc, List.drop_eq_nil_of_le (by omega)]; rfl)

theorem c_slices_ContainsFunc_api_Type_api_Type_q (fid : Nat) (caps : List AV) (q : Ty → Bool) (l : List Ty) (hl : l.length ≤ 1099511627776) (hq : ∀ x ∈ l, Valid Tryd.prog (G0 g rnd) fid ([.agg (encTy x)] ++ caps) (.bool (q x))) : Valid Tryd.prog (G0 g rnd) 62 [.slice (l.map encTy), .func fid caps] (.bool (l.any q)) := by

 refine valid_of [] Tryd.func62 rfl (by kernel_rfl) ?_
 refine AT_seq_region fun K1 hK1 => ?_
 simp [Tryd.f62]
 repeat refine sg ?_
 refine hK1 _ ?_
 clear hK1 K1
 refine AT_seq_region fun K2 hK2 => ?_
 simp
 repeat refine sg ?_
 refine RVn_call (c_slices_IndexFunc_api_Type_api_Type_q g rnd fid caps q l hl hq) ?_
 simp
 repeat refine sg ?_
 refine hK2 _ ?_
 clear hK2 K2
 refine AT_ret ?_
 simp [Tryd.f62]
 exact idxQ_any q l 0

theorem c_slices_IndexFunc_api_Expr_api_Expr (Y : Ys) (hP : Y.P = Tryd.prog) (L : Exp → List AV) (caps : List AV) (l : List Exp) (s : List AV) (hl : l.length ≤ 1099511627776) (he : elOk Y s (l.flatMap L)) (hcl : ∀ a ∈ l, ∀ s, elOk Y s (L a) → ValidY Tryd.prog (G1 g Y) Y 70 ([.agg (encE a)] ++ caps) (s, true) (.bool (!(feed Y s (L a)).2)) (feed Y s (L a))) : ValidY Tryd.prog (G1 g Y) Y 87 [.slice (l.map encE), .func 70 caps] (s, true) (.int .i64 (visI Y L s l 0)) (feed Y s (l.flatMap L)) := by

 refine validY_of [] Tryd.func87 rfl (by kernel_rfl) rfl hP ?_
 refine AT_seq_region fun K1 hK1 => ?_
 simp [row_map, Tryd.f87]
 repeat refine sg ?_
 refine hK1 _ ?_
 clear hK1 K1
 refine AT_seq_k fun K2 hK2 => ?_
 refine AT_seq_region fun K3 hK3 => ?_
 simp [row_map]
 repeat refine sg ?_
 refine hK3 _ ?_
 clear hK3 K3
 refine AT_block ?_
 refine AT_loop_q [0,1,7,8] [] (fun j st => ∃ k s1, k ≤ l.length ∧ feed Y s (l.flatMap L) = feed Y s1 ((l.drop k).flatMap L) ∧ visI Y L s l 0 = visI Y L s1 (l.drop k) k ∧ elOk Y s1 ((l.drop k).flatMap L) ∧ j = l.length - k ∧ st = { n := 19, tm := [(0, .v (.slice (l.map encE)) none), (1, .v (.func 70 caps) none), (7, .v (.int .i64 l.length) none), (8, .v (.int .i64 k) none)], bx := [], tb := [], sh := [], hint := [], ys := (s1, true) }) (l.length) (by first | rfl | simp) ?_ ?_
 ·
  exact ⟨0, s, by simp [he]⟩
 ·
  rintro j st ⟨k, s1, hk, hf, hv, hel, rfl, rfl⟩ K4 hK4
  refine AT_seq_region fun K5 hK5 => ?_
  simp [row_map]
  repeat refine sg ?_
  refine hK5 _ ?_
  clear hK5 K5
  refine AT_seq_k fun K6 hK6 => ?_
  refine AT_cond (g := none) rfl (fun hb9 => ?_) (fun hb9 => ?_)
  ·
   try simp [row_map] at hb9
   refine AT_skip ?_
   try simp only [nrm, reduceIte, Nat.reduceEqDiff]
   refine hK6 _ ?_
   refine AT_seq_k fun K7 hK7 => ?_
   refine AT_block ?_
   refine AT_seq_region fun K8 hK8 => ?_
   simp [row_map, hb9]
   repeat refine sg ?_
   refine hK8 _ ?_
   clear hK8 K8
   refine AT_seq_region fun K9 hK9 => ?_
   have hk9 : k < l.length := by omega
   have hda := List.drop_eq_getElem_cons hk9
   simp [row_map, hb9]
   repeat refine sg ?_
   refine RVn_callY rfl (by simp) (hcl l[k] (by simp) s1 (by rw [hda, List.flatMap_cons, elOk_app] at hel; exact hel.1)) ?_
   simp [row_map, hb9]
   repeat refine sg ?_
   refine hK9 _ ?_
   clear hK9 K9
   refine AT_cond (g := none) rfl (fun hb16 => ?_) (fun hb16 => ?_)
   ·
    try simp [row_map, hb9] at hb16
    refine AT_seq_region fun K10 hK10 => ?_
    simp [row_map, hb9]
    repeat refine sg ?_
    refine hK10 _ ?_
    clear hK10 K10
    refine AT_ret ?_
    simp [row_map, Tryd.f87]
    first
    | (refine ⟨?_, ?_⟩
       · rw [hv, hda, visI, if_neg (by simp [hb16])]
       · rw [hf, hda, List.flatMap_cons, feed_app, if_neg (by simp [hb16])])
    | (have hnil := List.drop_eq_nil_of_le (show l.length ≤ k by omega)
       rw [hf, hv, hnil]; simp [visI, feed])
   ·
    try simp [row_map, hb9] at hb16
    refine AT_skip ?_
    try simp only [nrm, reduceIte, Nat.reduceEqDiff]
    refine hK7 _ ?_
    refine AT_region_q fun K11 hK11 => ?_
    simp [row_map, hb9]
    repeat refine sg ?_
    refine hK11 _ ?_
    clear hK11 K11
    try simp only [nrm, reduceIte, Nat.reduceEqDiff]
    refine hK4 _ (by first | rfl | simp) (l.length - (k+1)) (by omega) ?_
    refine ⟨k+1, (feed Y s1 (L l[k])).1, by omega, ?_, ?_, ?_, by omega, ?_⟩
    · rw [hf, hda, List.flatMap_cons, feed_app, if_pos hb16]
    · rw [hv, hda, visI, if_pos hb16]
    · rw [hda, List.flatMap_cons, elOk_app] at hel; exact hel.2 hb16
    · simp; exact Prod.ext rfl hb16
  ·
   try simp [row_map] at hb9
   refine AT_exit ?_
   try simp only [nrm, reduceIte, Nat.reduceEqDiff]
   refine hK2 _ ?_
   refine AT_seq_region fun K12 hK12 => ?_
   simp [row_map, hb9]
   repeat refine sg ?_
   refine hK12 _ ?_
   clear hK12 K12
   refine AT_ret ?_
   simp [row_map, Tryd.f87]
   first
   | (refine ⟨?_, ?_⟩
      · rw [hv, hda, visI, if_neg (by simp [hb16])]
      · rw [hf, hda, List.flatMap_cons, feed_app, if_neg (by simp [hb16])])
   | (have hnil := List.drop_eq_nil_of_le (show l.length ≤ k by omega)
      rw [hf, hv, hnil]; simp [visI, feed])

theorem c_slices_ContainsFunc_api_Expr_api_Expr (Y : Ys) (hP : Y.P = Tryd.prog) (L : Exp → List AV) (caps : List AV) (l : List Exp) (s : List AV) (hl : l.length ≤ 1099511627776) (he : elOk Y s (l.flatMap L)) (hcl : ∀ a ∈ l, ∀ s, elOk Y s (L a) → ValidY Tryd.prog (G1 g Y) Y 70 ([.agg (encE a)] ++ caps) (s, true) (.bool (!(feed Y s (L a)).2)) (feed Y s (L a))) : ValidY Tryd.prog (G1 g Y) Y 71 [.slice (l.map encE), .func 70 caps] (s, true) (.bool (!(feed Y s (l.flatMap L)).2)) (feed Y s (l.flatMap L)) := by

 refine validY_of [] Tryd.func71 rfl (by kernel_rfl) rfl hP ?_
 refine AT_seq_region fun K1 hK1 => ?_
 simp [Tryd.f71]
 repeat refine sg ?_
 refine hK1 _ ?_
 clear hK1 K1
 refine AT_seq_region fun K2 hK2 => ?_
 simp
 repeat refine sg ?_
 refine RVn_callY rfl (by simp) (c_slices_IndexFunc_api_Expr_api_Expr g Y hP L caps l s hl he hcl) ?_
 simp
 repeat refine sg ?_
 refine hK2 _ ?_
 clear hK2 K2
 refine AT_ret ?_
 simp [Tryd.f71]
 exact visI_feed Y L s l 0

theorem c_expr_visit_1 (Y : Ys) (hP : Y.P = Tryd.prog) (e : Exp) (s : List AV) (r : Bool) (ys : List AV × Bool) (hv : ValidY Tryd.prog (G1 g Y) Y 57 [.agg (encE e), .yld Y.l] (s, true) (.bool r) ys) : ValidY Tryd.prog (G1 g Y) Y 70 [.agg (encE e), .ro [.yld Y.l]] (s, true) (.bool (!r)) ys := by

 refine validY_of [(200002, 0)] Tryd.func70 rfl (by kernel_rfl) rfl hP ?_
 refine AT_seq_region fun K1 hK1 => ?_
 simp [Tryd.f70]
 repeat refine sg ?_
 refine hK1 _ ?_
 clear hK1 K1
 refine AT_seq_region fun K2 hK2 => ?_
 simp
 repeat refine sg ?_
 refine RVn_callY rfl (by simp) (hv) ?_
 simp
 repeat refine sg ?_
 refine hK2 _ ?_
 clear hK2 K2
 refine AT_ret ?_
 simp [Tryd.f70]

theorem c_expr_visit (Y : Ys) (hP : Y.P = Tryd.prog) : ∀ e : Exp, wtE e ≤ 1000000000 → ∀ s : List AV, elOk Y s ((lstE e).map avE) → ValidY Tryd.prog (G1 g Y) Y 57 [.agg (encE e), .yld Y.l] (s, true) (.bool (feed Y s ((lstE e).map avE)).2) (feed Y s ((lstE e).map avE)) := by
 intro e
 induction e using Exp.ind with
 | h kd n t ta l p ih =>
 intro hw
 have hw2 : n.length + 1 + wt t + wts ta + wtEs l ≤ 1000000000 := by simpa [wtE_mk] using hw
 have hln := wtEs_len l
 have hla := wts_len ta
 intro s he
 have hfl : (lstEs l).map avE = l.flatMap (fun e => (lstE e).map avE) := by rw [lstEs_flat, List.map_flatten, List.map_map, List.flatMap_def]; rfl
 have hlst : (lstE (.mk kd n t ta l p)).map avE = .agg (encE (.mk kd n t ta l p)) :: l.flatMap (fun e => (lstE e).map avE) := by simp [lstE, hfl]
 rw [hlst] at he ⊢
 have he1 : Y.el s (.agg (encE (.mk kd n t ta l p))) := he.1
 refine validY_of [(200002, 0), (200003, 0)] Tryd.func57 rfl (by kernel_rfl) rfl hP ?_
 refine AT_seq_region fun K1 hK1 => ?_
 simp [row_map, Tryd.f57]
 repeat refine sg ?_
 refine hK1 _ ?_
 clear hK1 K1
 refine AT_seq_k fun K2 hK2 => ?_
 cases hgo : Y.go s (.agg (encE (.mk kd n t ta l p)))
 ·
  refine AT_seq_region fun K3 hK3 => ?_
  simp [row_map, hgo]
  repeat refine sg ?_
  refine RVn_yld rfl rfl (by simp) rfl (he1) ?_
  simp [row_map, hgo]
  repeat refine sg ?_
  refine hK3 _ ?_
  clear hK3 K3
  refine AT_cond (b := true) (g := none) (by simp [hgo]) (fun hb => ?_) (fun hb => ?_)
  ·
   clear hb
   refine AT_seq_region fun K4 hK4 => ?_
   simp [row_map, hgo]
   repeat refine sg ?_
   refine hK4 _ ?_
   clear hK4 K4
   refine AT_ret ?_
   simp [row_map, Tryd.f57]
   simp [feed, hgo]
  ·
   cases hb
 ·
  refine AT_seq_region fun K5 hK5 => ?_
  simp [row_map, hgo]
  repeat refine sg ?_
  refine RVn_yld rfl rfl (by simp) rfl (he1) ?_
  simp [row_map, hgo]
  repeat refine sg ?_
  refine hK5 _ ?_
  clear hK5 K5
  refine AT_cond (b := false) (g := none) (by simp [hgo]) (fun hb => ?_) (fun hb => ?_)
  ·
   cases hb
  ·
   clear hb
   refine AT_skip ?_
   try simp only [nrm, reduceIte, Nat.reduceEqDiff]
   refine hK2 _ ?_
   refine AT_seq_region fun K6 hK6 => ?_
   simp [row_map, hgo]
   repeat refine sg ?_
   refine hK6 _ ?_
   clear hK6 K6
   refine AT_seq_region fun K7 hK7 => ?_
   simp [row_map, hgo]
   repeat refine sg ?_
   refine RVn_callY rfl (by simp) (c_slices_ContainsFunc_api_Expr_api_Expr g Y hP (fun e => (lstE e).map avE) [.ro [.yld Y.l]] l (s ++ [.agg (encE (.mk kd n t ta l p))]) (by omega) (he.2 hgo) (fun a ha s2 hs2 => c_expr_visit_1 g Y hP a s2 _ _ (ih a ha (Nat.le_trans (wtEs_mem ha) (by omega)) s2 hs2))) ?_
   simp [row_map, hgo]
   repeat refine sg ?_
   refine hK7 _ ?_
   clear hK7 K7
   refine AT_ret ?_
   simp [row_map, Tryd.f57]
   simp [feed, hgo]

theorem c_expr_All_1 (Y : Ys) (hP : Y.P = Tryd.prog) (e : Exp) (hw : wtE e ≤ 1000000000) (s : List AV) (he : elOk Y s ((lstE e).map avE)) : ValidY Tryd.prog (G1 g Y) Y 56 [.yld Y.l, .ro (encE e)] (s, true) (.tup []) (feed Y s ((lstE e).map avE)) := by

 refine validY_of [] Tryd.func56 rfl (by kernel_rfl) rfl hP ?_
 refine AT_region_q fun K1 hK1 => ?_
 simp [Tryd.f56]
 repeat refine sg ?_
 refine RVn_callY rfl (by simp) (c_expr_visit g Y hP e hw s he) ?_
 simp
 repeat refine sg ?_
 refine hK1 _ ?_
 clear hK1 K1
 try simp only [nrm, reduceIte, Nat.reduceEqDiff]
 simp [Tryd.f56]

theorem c_expr_All (e : Exp) : Valid Tryd.prog (G0 g rnd) 28 [.agg (encE e)] (.func 56 [.ro (encE e)]) := by

 refine valid_of [(200001, 0)] Tryd.func28 rfl (by kernel_rfl) ?_
 refine AT_seq_region fun K1 hK1 => ?_
 simp [Tryd.f28]
 repeat refine sg ?_
 refine hK1 _ ?_
 clear hK1 K1
 refine AT_seq_region fun K2 hK2 => ?_
 simp
 repeat refine sg ?_
 refine hK2 _ ?_
 clear hK2 K2
 refine AT_ret ?_
 simp [Tryd.f28]

end Go.Proofs.YtjkabaejabibnaaDoor
end

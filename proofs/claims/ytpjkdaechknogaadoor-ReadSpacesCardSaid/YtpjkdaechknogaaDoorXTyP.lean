import Derived.Test.YtpjkdaechknogaaDoorPt
import Derived.Test.YtpjkdaechknogaaDoorPvRa
import Derived.Test.YtpjkdaechknogaaDoorPvZ
import Derived.Test.YtpjkdaechknogaaDoorXTyD
import Derived.Test.YtpjkdaechknogaaDoorXShelf
import Derived.Test.YtpjkdaechknogaaDoorXNaB
section
/- Contracts. -/
set_option linter.all false
set_option maxHeartbeats 1000000
set_option maxRecDepth 10000
namespace Go.Proofs.YtpjkdaechknogaaDoor
open Go Go.Pv
variable (g : Nat → Option (List AV)) (rnd : Bool)

theorem c_ref04x_Text (t : Ty) : wt t ≤ 1099511627776 → Valid Tryd.prog (G0 g rnd) 13 [.agg (encTy t)] (.str (txt t)) := by
 induction t using Ty.ind with
 | h n ts p ih =>
 intro hw
 have hw2 : n.length + 1 + wts ts ≤ 1099511627776 := by simpa [wt] using hw
 have hln := wts_len ts
 refine valid_of [] Tryd.func13 rfl (by kernel_rfl) ?_
 refine AT_seq_region fun K1 hK1 => ?_
 simp [row_map, Tryd.f13]
 repeat refine sg ?_
 refine hK1 _ ?_
 clear hK1 K1
 refine AT_seq_region fun K2 hK2 => ?_
 simp [row_map]
 repeat refine sg ?_
 refine hK2 _ ?_
 clear hK2 K2
 refine AT_seq_k fun K3 hK3 => ?_
 refine AT_seq_region fun K4 hK4 => ?_
 simp [row_map]
 repeat refine sg ?_
 refine hK4 _ ?_
 clear hK4 K4
 refine AT_block ?_
 refine AT_loop_q [3,4,1] [1] (fun j s => ∃ k, k ≤ ts.length ∧ j = ts.length - k ∧ s = { n := 35, tm := [(3, .v (.str (txtK n ts k)) none), (4, .v (.int .i64 k) none), (1, .lp 1 0)], bx := [(1, encTy (.mk n ts p))], tb := [], sh := [], hint := [] }) (ts.length) (by first | rfl | simp) ?_ ?_
 ·
  exact ⟨0, by simp [txtK]⟩
 ·
  rintro j s ⟨k, hk, rfl, rfl⟩ K5 hK5
  refine AT_seq_k fun K6 hK6 => ?_
  refine AT_seq_region fun K7 hK7 => ?_
  simp [row_map]
  repeat refine sg ?_
  refine hK7 _ ?_
  clear hK7 K7
  refine AT_cond (g := none) rfl (fun hb11 => ?_) (fun hb11 => ?_)
  ·
   try simp [row_map] at hb11
   refine AT_skip ?_
   try simp only [nrm, reduceIte, Nat.reduceEqDiff]
   refine hK6 _ ?_
   refine AT_seq_k fun K8 hK8 => ?_
   refine AT_block ?_
   refine AT_seq_k fun K9 hK9 => ?_
   refine AT_seq_region fun K10 hK10 => ?_
   simp [row_map, hb11]
   repeat refine sg ?_
   refine hK10 _ ?_
   clear hK10 K10
   refine AT_cond (g := none) rfl (fun hb15 => ?_) (fun hb15 => ?_)
   ·
    try simp [row_map, hb11] at hb15
    refine AT_region_q fun K11 hK11 => ?_
    have htk := txtK_len n ts k
    simp [row_map, hb11]
    repeat refine sg ?_
    refine hK11 _ ?_
    clear hK11 K11
    try simp only [nrm, reduceIte, Nat.reduceEqDiff]
    refine hK9 _ ?_
    refine AT_region_q fun K12 hK12 => ?_
    have htk := txtK_len n ts k
    have hm := wts_mem (l := ts) (t := ts[k]) (by simp)
    have hxt := txt_wt ts[k]
    simp [row_map, hb11]
    repeat refine sg ?_
    refine RVn_call (ih ts[k] (by simp) (by omega)) ?_
    simp [row_map, hb11]
    repeat refine sg ?_
    refine hK12 _ ?_
    clear hK12 K12
    try simp only [nrm, reduceIte, Nat.reduceEqDiff]
    refine hK8 _ ?_
    refine AT_region_q fun K13 hK13 => ?_
    simp [row_map, hb11]
    repeat refine sg ?_
    refine hK13 _ ?_
    clear hK13 K13
    try simp only [nrm, reduceIte, Nat.reduceEqDiff]
    refine hK5 _ (by first | rfl | simp) (ts.length - (k+1)) (by omega) ?_
    have hs := txtK_succ n ts k hb11
    first | rw [if_pos hb15] at hs | rw [if_neg hb15] at hs
    exact ⟨k+1, by omega, by omega, by simp [hs]⟩
   ·
    try simp [row_map, hb11] at hb15
    refine AT_region_q fun K14 hK14 => ?_
    have htk := txtK_len n ts k
    simp [row_map, hb11]
    repeat refine sg ?_
    refine hK14 _ ?_
    clear hK14 K14
    try simp only [nrm, reduceIte, Nat.reduceEqDiff]
    refine hK9 _ ?_
    refine AT_region_q fun K15 hK15 => ?_
    have htk := txtK_len n ts k
    have hm := wts_mem (l := ts) (t := ts[k]) (by simp)
    have hxt := txt_wt ts[k]
    simp [row_map, hb11]
    repeat refine sg ?_
    refine RVn_call (ih ts[k] (by simp) (by omega)) ?_
    simp [row_map, hb11]
    repeat refine sg ?_
    refine hK15 _ ?_
    clear hK15 K15
    try simp only [nrm, reduceIte, Nat.reduceEqDiff]
    refine hK8 _ ?_
    refine AT_region_q fun K16 hK16 => ?_
    simp [row_map, hb11]
    repeat refine sg ?_
    refine hK16 _ ?_
    clear hK16 K16
    try simp only [nrm, reduceIte, Nat.reduceEqDiff]
    refine hK5 _ (by first | rfl | simp) (ts.length - (k+1)) (by omega) ?_
    have hs := txtK_succ n ts k hb11
    first | rw [if_pos hb15] at hs | rw [if_neg hb15] at hs
    exact ⟨k+1, by omega, by omega, by simp [hs]⟩
  ·
   try simp [row_map] at hb11
   refine AT_exit ?_
   try simp only [nrm, reduceIte, Nat.reduceEqDiff]
   refine hK3 _ ?_
   refine AT_seq_k fun K17 hK17 => ?_
   refine AT_seq_region fun K18 hK18 => ?_
   simp [row_map, hb11]
   repeat refine sg ?_
   refine hK18 _ ?_
   clear hK18 K18
   refine AT_cond (g := none) rfl (fun hb31 => ?_) (fun hb31 => ?_)
   ·
    try simp [row_map, hb11] at hb31
    refine AT_region_q fun K19 hK19 => ?_
    have htk := txtK_len n ts k
    simp [row_map, hb11]
    repeat refine sg ?_
    refine hK19 _ ?_
    clear hK19 K19
    try simp only [nrm, reduceIte, Nat.reduceEqDiff]
    refine hK17 _ ?_
    refine AT_seq_region fun K20 hK20 => ?_
    simp [row_map, hb11]
    repeat refine sg ?_
    refine hK20 _ ?_
    clear hK20 K20
    refine AT_ret ?_
    simp [row_map, Tryd.f13]
    first
    | exact (txt_end n ts p k (by omega)).1 (by first | omega | simpa [List.length_pos_iff] using hb31)
    | exact (txt_end n ts p k (by omega)).2 (by first | omega | simpa using hb31)
   ·
    try simp [row_map, hb11] at hb31
    refine AT_skip ?_
    try simp only [nrm, reduceIte, Nat.reduceEqDiff]
    refine hK17 _ ?_
    refine AT_seq_region fun K21 hK21 => ?_
    simp [row_map, hb11]
    repeat refine sg ?_
    refine hK21 _ ?_
    clear hK21 K21
    refine AT_ret ?_
    simp [row_map, Tryd.f13]
    first
    | exact (txt_end n ts p k (by omega)).1 (by first | omega | simpa [List.length_pos_iff] using hb31)
    | exact (txt_end n ts p k (by omega)).2 (by first | omega | simpa using hb31)

end Go.Proofs.YtpjkdaechknogaaDoor
end

section
/- Contracts. -/
set_option linter.all false
set_option maxHeartbeats 1000000
set_option maxRecDepth 10000
namespace Go.Proofs.YtpjkdaechknogaaDoor
open Go Go.Pv
variable (g : Nat → Option (List AV)) (rnd : Bool)

theorem c_slices_IndexFunc_api_Type_api_Type (Y : Ys) (hP : Y.P = Tryd.prog) (L : Ty → List AV) (caps : List AV) (l : List Ty) (s : List AV) (hl : l.length ≤ 1099511627776) (he : elOk Y s (l.flatMap L)) (hcl : ∀ a ∈ l, ∀ s, elOk Y s (L a) → ValidY Tryd.prog (G1 g Y) Y 84 ([.agg (encTy a)] ++ caps) (s, true) (.bool (!(feed Y s (L a)).2)) (feed Y s (L a))) : ValidY Tryd.prog (G1 g Y) Y 91 [.slice (l.map encTy), .func 84 caps] (s, true) (.int .i64 (visI Y L s l 0)) (feed Y s (l.flatMap L)) := by

 refine validY_of [] Tryd.func91 rfl (by kernel_rfl) rfl hP ?_
 refine AT_seq_region fun K1 hK1 => ?_
 simp [row_map, Tryd.f91]
 repeat refine sg ?_
 refine hK1 _ ?_
 clear hK1 K1
 refine AT_seq_k fun K2 hK2 => ?_
 refine AT_seq_region fun K3 hK3 => ?_
 simp [row_map]
 repeat refine sg ?_
 refine hK3 _ ?_
 clear hK3 K3
 refine AT_block ?_
 refine AT_loop_q [0,1,7,8] [] (fun j st => ∃ k s1, k ≤ l.length ∧ feed Y s (l.flatMap L) = feed Y s1 ((l.drop k).flatMap L) ∧ visI Y L s l 0 = visI Y L s1 (l.drop k) k ∧ elOk Y s1 ((l.drop k).flatMap L) ∧ j = l.length - k ∧ st = { n := 19, tm := [(0, .v (.slice (l.map encTy)) none), (1, .v (.func 84 caps) none), (7, .v (.int .i64 l.length) none), (8, .v (.int .i64 k) none)], bx := [], tb := [], sh := [], hint := [], ys := (s1, true) }) (l.length) (by first | rfl | simp) ?_ ?_
 ·
  exact ⟨0, s, by simp [he]⟩
 ·
  rintro j st ⟨k, s1, hk, hf, hv, hel, rfl, rfl⟩ K4 hK4
  refine AT_seq_region fun K5 hK5 => ?_
  simp [row_map]
  repeat refine sg ?_
  refine hK5 _ ?_
  clear hK5 K5
  refine AT_seq_k fun K6 hK6 => ?_
  refine AT_cond (g := none) rfl (fun hb9 => ?_) (fun hb9 => ?_)
  ·
   try simp [row_map] at hb9
   refine AT_skip ?_
   try simp only [nrm, reduceIte, Nat.reduceEqDiff]
   refine hK6 _ ?_
   refine AT_seq_k fun K7 hK7 => ?_
   refine AT_block ?_
   refine AT_seq_region fun K8 hK8 => ?_
   simp [row_map, hb9]
   repeat refine sg ?_
   refine hK8 _ ?_
   clear hK8 K8
   refine AT_seq_region fun K9 hK9 => ?_
   have hk9 : k < l.length := by omega
   have hda := List.drop_eq_getElem_cons hk9
   simp [row_map, hb9]
   repeat refine sg ?_
   refine RVn_callY rfl (by simp) (hcl l[k] (by simp) s1 (by rw [hda, List.flatMap_cons, elOk_app] at hel; exact hel.1)) ?_
   simp [row_map, hb9]
   repeat refine sg ?_
   refine hK9 _ ?_
   clear hK9 K9
   refine AT_cond (g := none) rfl (fun hb16 => ?_) (fun hb16 => ?_)
   ·
    try simp [row_map, hb9] at hb16
    refine AT_seq_region fun K10 hK10 => ?_
    simp [row_map, hb9]
    repeat refine sg ?_
    refine hK10 _ ?_
    clear hK10 K10
    refine AT_ret ?_
    simp [row_map, Tryd.f91]
    first
    | (refine ⟨?_, ?_⟩
       · rw [hv, hda, visI, if_neg (by simp [hb16])]
       · rw [hf, hda, List.flatMap_cons, feed_app, if_neg (by simp [hb16])])
    | (have hnil := List.drop_eq_nil_of_le (show l.length ≤ k by omega)
       rw [hf, hv, hnil]; simp [visI, feed])
   ·
    try simp [row_map, hb9] at hb16
    refine AT_skip ?_
    try simp only [nrm, reduceIte, Nat.reduceEqDiff]
    refine hK7 _ ?_
    refine AT_region_q fun K11 hK11 => ?_
    simp [row_map, hb9]
    repeat refine sg ?_
    refine hK11 _ ?_
    clear hK11 K11
    try simp only [nrm, reduceIte, Nat.reduceEqDiff]
    refine hK4 _ (by first | rfl | simp) (l.length - (k+1)) (by omega) ?_
    refine ⟨k+1, (feed Y s1 (L l[k])).1, by omega, ?_, ?_, ?_, by omega, ?_⟩
    · rw [hf, hda, List.flatMap_cons, feed_app, if_pos hb16]
    · rw [hv, hda, visI, if_pos hb16]
    · rw [hda, List.flatMap_cons, elOk_app] at hel; exact hel.2 hb16
    · simp; exact Prod.ext rfl hb16
  ·
   try simp [row_map] at hb9
   refine AT_exit ?_
   try simp only [nrm, reduceIte, Nat.reduceEqDiff]
   refine hK2 _ ?_
   refine AT_seq_region fun K12 hK12 => ?_
   simp [row_map, hb9]
   repeat refine sg ?_
   refine hK12 _ ?_
   clear hK12 K12
   refine AT_ret ?_
   simp [row_map, Tryd.f91]
   first
   | (refine ⟨?_, ?_⟩
      · rw [hv, hda, visI, if_neg (by simp [hb16])]
      · rw [hf, hda, List.flatMap_cons, feed_app, if_neg (by simp [hb16])])
   | (have hnil := List.drop_eq_nil_of_le (show l.length ≤ k by omega)
      rw [hf, hv, hnil]; simp [visI, feed])

theorem c_slices_ContainsFunc_api_Type_api_Type (Y : Ys) (hP : Y.P = Tryd.prog) (L : Ty → List AV) (caps : List AV) (l : List Ty) (s : List AV) (hl : l.length ≤ 1099511627776) (he : elOk Y s (l.flatMap L)) (hcl : ∀ a ∈ l, ∀ s, elOk Y s (L a) → ValidY Tryd.prog (G1 g Y) Y 84 ([.agg (encTy a)] ++ caps) (s, true) (.bool (!(feed Y s (L a)).2)) (feed Y s (L a))) : ValidY Tryd.prog (G1 g Y) Y 85 [.slice (l.map encTy), .func 84 caps] (s, true) (.bool (!(feed Y s (l.flatMap L)).2)) (feed Y s (l.flatMap L)) := by

 refine validY_of [] Tryd.func85 rfl (by kernel_rfl) rfl hP ?_
 refine AT_seq_region fun K1 hK1 => ?_
 simp [Tryd.f85]
 repeat refine sg ?_
 refine hK1 _ ?_
 clear hK1 K1
 refine AT_seq_region fun K2 hK2 => ?_
 simp
 repeat refine sg ?_
 refine RVn_callY rfl (by simp) (c_slices_IndexFunc_api_Type_api_Type g Y hP L caps l s hl he hcl) ?_
 simp
 repeat refine sg ?_
 refine hK2 _ ?_
 clear hK2 K2
 refine AT_ret ?_
 simp [Tryd.f85]
 exact visI_feed Y L s l 0

end Go.Proofs.YtpjkdaechknogaaDoor
end

section
/- Contracts. -/
set_option linter.all false
set_option maxHeartbeats 1000000
set_option maxRecDepth 10000
namespace Go.Proofs.YtpjkdaechknogaaDoor
open Go Go.Pv
variable (g : Nat → Option (List AV)) (rnd : Bool)

theorem c_types_visit_1 (Y : Ys) (hP : Y.P = Tryd.prog) (t : Ty) (s : List AV) (r : Bool) (ys : List AV × Bool) (hv : ValidY Tryd.prog (G1 g Y) Y 73 [.agg (encTy t), .yld Y.l] (s, true) (.bool r) ys) : ValidY Tryd.prog (G1 g Y) Y 84 [.agg (encTy t), .ro [.yld Y.l]] (s, true) (.bool (!r)) ys := by

 refine validY_of [(200002, 0)] Tryd.func84 rfl (by kernel_rfl) rfl hP ?_
 refine AT_seq_region fun K1 hK1 => ?_
 simp [Tryd.f84]
 repeat refine sg ?_
 refine hK1 _ ?_
 clear hK1 K1
 refine AT_seq_region fun K2 hK2 => ?_
 simp
 repeat refine sg ?_
 refine RVn_callY rfl (by simp) (hv) ?_
 simp
 repeat refine sg ?_
 refine hK2 _ ?_
 clear hK2 K2
 refine AT_ret ?_
 simp [Tryd.f84]

theorem c_types_visit (Y : Ys) (hP : Y.P = Tryd.prog) : ∀ t : Ty, wt t ≤ 1099511627776 → ∀ s : List AV, elOk Y s ((lst t).map AV.str) → ValidY Tryd.prog (G1 g Y) Y 73 [.agg (encTy t), .yld Y.l] (s, true) (.bool (feed Y s ((lst t).map AV.str)).2) (feed Y s ((lst t).map AV.str)) := by
 intro t
 induction t using Ty.ind with
 | h n ts p ih =>
 intro hw
 have hw2 : n.length + 1 + wts ts ≤ 1099511627776 := by simpa [wt] using hw
 have hln := wts_len ts
 intro s he
 have hfl : (lsts ts).map AV.str = ts.flatMap (fun t => (lst t).map AV.str) := by rw [lsts_flat, List.map_flatten, List.map_map, List.flatMap_def]; rfl
 have hlst : (lst (.mk n ts p)).map AV.str = .str n :: ts.flatMap (fun t => (lst t).map AV.str) := by simp [lst, hfl]
 rw [hlst] at he ⊢
 have he1 : Y.el s (.str n) := he.1
 refine validY_of [(200002, 0), (200003, 0)] Tryd.func73 rfl (by kernel_rfl) rfl hP ?_
 refine AT_seq_region fun K1 hK1 => ?_
 simp [row_map, encTy_mk, Tryd.f73]
 repeat refine sg ?_
 refine hK1 _ ?_
 clear hK1 K1
 refine AT_seq_k fun K2 hK2 => ?_
 cases hgo : Y.go s (.str n)
 ·
  refine AT_seq_region fun K3 hK3 => ?_
  simp [row_map, encTy_mk, hgo]
  repeat refine sg ?_
  refine RVn_yld rfl rfl (by simp) rfl (he1) ?_
  simp [row_map, encTy_mk, hgo]
  repeat refine sg ?_
  refine hK3 _ ?_
  clear hK3 K3
  refine AT_cond (b := true) (g := none) (by simp [hgo]) (fun hb => ?_) (fun hb => ?_)
  ·
   clear hb
   refine AT_seq_region fun K4 hK4 => ?_
   simp [row_map, encTy_mk, hgo]
   repeat refine sg ?_
   refine hK4 _ ?_
   clear hK4 K4
   refine AT_ret ?_
   simp [row_map, encTy_mk, Tryd.f73]
   simp [feed, hgo]
  ·
   cases hb
 ·
  refine AT_seq_region fun K5 hK5 => ?_
  simp [row_map, encTy_mk, hgo]
  repeat refine sg ?_
  refine RVn_yld rfl rfl (by simp) rfl (he1) ?_
  simp [row_map, encTy_mk, hgo]
  repeat refine sg ?_
  refine hK5 _ ?_
  clear hK5 K5
  refine AT_cond (b := false) (g := none) (by simp [hgo]) (fun hb => ?_) (fun hb => ?_)
  ·
   cases hb
  ·
   clear hb
   refine AT_skip ?_
   try simp only [nrm, reduceIte, Nat.reduceEqDiff]
   refine hK2 _ ?_
   refine AT_seq_region fun K6 hK6 => ?_
   simp [row_map, encTy_mk, hgo]
   repeat refine sg ?_
   refine hK6 _ ?_
   clear hK6 K6
   refine AT_seq_region fun K7 hK7 => ?_
   simp [row_map, encTy_mk, hgo]
   repeat refine sg ?_
   refine RVn_callY rfl (by simp) (c_slices_ContainsFunc_api_Type_api_Type g Y hP (fun t => (lst t).map AV.str) [.ro [.yld Y.l]] ts (s ++ [.str n]) (by omega) (he.2 hgo) (fun a ha s2 hs2 => c_types_visit_1 g Y hP a s2 _ _ (ih a ha (Nat.le_trans (wts_mem ha) (by omega)) s2 hs2))) ?_
   simp [row_map, encTy_mk, hgo]
   repeat refine sg ?_
   refine hK7 _ ?_
   clear hK7 K7
   refine AT_ret ?_
   simp [row_map, encTy_mk, Tryd.f73]
   simp [feed, hgo]

theorem c_types_Names_1 (Y : Ys) (hP : Y.P = Tryd.prog) (t : Ty) (hw : wt t ≤ 1099511627776) (s : List AV) (he : elOk Y s ((lst t).map AV.str)) : ValidY Tryd.prog (G1 g Y) Y 72 [.yld Y.l, .ro (encTy t)] (s, true) (.tup []) (feed Y s ((lst t).map AV.str)) := by

 refine validY_of [] Tryd.func72 rfl (by kernel_rfl) rfl hP ?_
 refine AT_region_q fun K1 hK1 => ?_
 simp [Tryd.f72]
 repeat refine sg ?_
 refine RVn_callY rfl (by simp) (c_types_visit g Y hP t hw s he) ?_
 simp
 repeat refine sg ?_
 refine hK1 _ ?_
 clear hK1 K1
 try simp only [nrm, reduceIte, Nat.reduceEqDiff]
 simp [Tryd.f72]

theorem c_types_Names (t : Ty) : Valid Tryd.prog (G0 g rnd) 59 [.agg (encTy t)] (.func 72 [.ro (encTy t)]) := by

 refine valid_of [(200001, 0)] Tryd.func59 rfl (by kernel_rfl) ?_
 refine AT_seq_region fun K1 hK1 => ?_
 simp [Tryd.f59]
 repeat refine sg ?_
 refine hK1 _ ?_
 clear hK1 K1
 refine AT_seq_region fun K2 hK2 => ?_
 simp
 repeat refine sg ?_
 refine hK2 _ ?_
 clear hK2 K2
 refine AT_ret ?_
 simp [Tryd.f59]

theorem rightT_len {t : Ty} (hw : wt t ≤ 1099511627776) : ∀ s ∈ lst t, s.length ≤ 1099511627776 := fun s hs => Nat.le_trans (Nat.le_of_lt (lst_mem_wt t s hs)) hw

theorem c_ref04x_Right (t : Ty) (hw : wt t ≤ 1099511627776) : Valid Tryd.prog (G0 g rnd) 10 [.agg (encTy t)] (.bool (rightT t)) := by

 refine valid_of [] Tryd.func10 rfl (by kernel_rfl) ?_
 refine AT_seq_region fun K1 hK1 => ?_
 simp [row_map, Tryd.f10]
 repeat refine sg ?_
 refine hK1 _ ?_
 clear hK1 K1
 refine AT_seq_region fun K2 hK2 => ?_
 have hll := lst_wt t
 simp [row_map]
 repeat refine sg ?_
 refine RVn_call (c_ref04x_List g rnd t hw) ?_
 simp [row_map]
 repeat refine sg ?_
 refine hK2 _ ?_
 clear hK2 K2
 refine AT_seq_k fun K3 hK3 => ?_
 refine AT_seq_region fun K4 hK4 => ?_
 simp [row_map]
 repeat refine sg ?_
 refine hK4 _ ?_
 clear hK4 K4
 refine AT_block ?_
 refine AT_loop_q [3,4] [] (fun j s => ∃ k, k ≤ (lst t).length ∧ rightT t = ((lst t).drop k).all isName ∧ j = (lst t).length - k ∧ s = { n := 19, tm := [(3, .v (.slice ((lst t).map encS)) none), (4, .v (.int .i64 k) none)], bx := [], tb := [], sh := [], hint := [] }) ((lst t).length) (by first | rfl | simp) ?_ ?_
 ·
  exact ⟨0, by simp [rightT]⟩
 ·
  rintro j s ⟨k, hk, hc, rfl, rfl⟩ K5 hK5
  refine AT_seq_k fun K6 hK6 => ?_
  refine AT_seq_region fun K7 hK7 => ?_
  have hll := lst_wt t
  simp [row_map]
  repeat refine sg ?_
  refine hK7 _ ?_
  clear hK7 K7
  refine AT_cond (g := none) rfl (fun hb10 => ?_) (fun hb10 => ?_)
  ·
   try simp [row_map] at hb10
   refine AT_skip ?_
   try simp only [nrm, reduceIte, Nat.reduceEqDiff]
   refine hK6 _ ?_
   refine AT_seq_k fun K8 hK8 => ?_
   refine AT_block ?_
   refine AT_seq_region fun K9 hK9 => ?_
   have hda := List.drop_eq_getElem_cons hb10
   simp [row_map, hb10]
   repeat refine sg ?_
   refine RVn_call (c_ref01x_Is g rnd _ (rightT_len hw _ (by simp))) ?_
   simp [row_map, hb10]
   repeat refine sg ?_
   refine hK9 _ ?_
   clear hK9 K9
   refine AT_cond (g := none) rfl (fun hb18 => ?_) (fun hb18 => ?_)
   ·
    try simp [row_map, hb10] at hb18
    refine AT_seq_region fun K10 hK10 => ?_
    simp [row_map, hb10]
    repeat refine sg ?_
    refine hK10 _ ?_
    clear hK10 K10
    refine AT_ret ?_
    simp [row_map, Tryd.f10]
    first
    | (rw [hc, hda, List.all_cons, hb18]; rfl)
    | (rw [hc, List.drop_eq_nil_of_le hb10]; rfl)
   ·
    try simp [row_map, hb10] at hb18
    refine AT_skip ?_
    try simp only [nrm, reduceIte, Nat.reduceEqDiff]
    refine hK8 _ ?_
    refine AT_region_q fun K11 hK11 => ?_
    simp [row_map, hb10]
    repeat refine sg ?_
    refine hK11 _ ?_
    clear hK11 K11
    try simp only [nrm, reduceIte, Nat.reduceEqDiff]
    refine hK5 _ (by first | rfl | simp) ((lst t).length - (k+1)) (by omega) ?_
    refine ⟨k+1, by omega, ?_, by omega, by simp⟩
    rw [hc, hda, List.all_cons, hb18, Bool.true_and]
  ·
   try simp [row_map] at hb10
   refine AT_exit ?_
   try simp only [nrm, reduceIte, Nat.reduceEqDiff]
   refine hK3 _ ?_
   refine AT_seq_region fun K12 hK12 => ?_
   simp [row_map, hb10]
   repeat refine sg ?_
   refine hK12 _ ?_
   clear hK12 K12
   refine AT_ret ?_
   simp [row_map, Tryd.f10]
   first
   | (rw [hc, hda, List.all_cons, hb18]; rfl)
   | (rw [hc, List.drop_eq_nil_of_le hb10]; rfl)

end Go.Proofs.YtpjkdaechknogaaDoor
end

import Derived.Test.YtpjkdaechknogaaDoorPt
import Derived.Test.YtpjkdaechknogaaDoorPvPb
import Derived.Test.YtpjkdaechknogaaDoorPvY
import Derived.Test.YtpjkdaechknogaaDoorPvMa
import Derived.Test.YtpjkdaechknogaaDoorXTyE
import Derived.Test.YtpjkdaechknogaaDoorXTyD
import Derived.Test.YtpjkdaechknogaaDoorPvMc
import Derived.Test.YtpjkdaechknogaaDoorXTyO
import Derived.Test.YtpjkdaechknogaaDoorXTyQ
section
/- Contracts: expressions, counted and compared. -/
set_option linter.all false
set_option maxHeartbeats 1000000
set_option maxRecDepth 10000
namespace Go.Proofs.YtpjkdaechknogaaDoor
open Go Go.Pv
variable (g : Nat → Option (List AV)) (rnd : Bool)

theorem c_ref04x_Same (t u : Ty) (hw : wt t ≤ 1099511627776) : Valid Tryd.prog (G0 g rnd) 16 [.agg (encTy t), .agg (encTy u)] (.bool (cmpT t u == 0)) := by

 refine valid_of [] Tryd.func16 rfl (by kernel_rfl) ?_
 refine AT_seq_region fun K1 hK1 => ?_
 simp [Tryd.f16]
 repeat refine sg ?_
 refine hK1 _ ?_
 clear hK1 K1
 refine AT_seq_region fun K2 hK2 => ?_
 simp
 repeat refine sg ?_
 refine RVn_call (c_ref04x_Compare g rnd t u hw) ?_
 simp
 repeat refine sg ?_
 refine hK2 _ ?_
 clear hK2 K2
 refine AT_ret ?_
 simp [Tryd.f16]

theorem c_ref05x_Count : ∀ e : Exp, fitE e → ∀ j0 : Nat, j0 ≤ 100000000000000 → Valid Tryd.prog (G0 g rnd) 35 [.agg (encE e), .int .i64 j0] (.int .i64 (cntE e j0)) := by
 intro e
 induction e using Exp.ind with
 | h kd n t ta l p ih =>
 intro hf j0 hj
 rw [fitE] at hf
 obtain ⟨hf1, hf2, ⟨hf3, hf4⟩, hf5, hf6⟩ := hf
 refine valid_of [] Tryd.func35 rfl (by kernel_rfl) ?_
 refine AT_seq_region fun K1 hK1 => ?_
 simp [row_map, tdiv50, Tryd.f35]
 repeat refine sg ?_
 refine hK1 _ ?_
 clear hK1 K1
 refine AT_seq_region fun K2 hK2 => ?_
 simp [row_map, tdiv50]
 repeat refine sg ?_
 refine RVn_call (c_ref04x_Count g rnd t hf2 (j0 + n.length / 50) (by omega)) ?_
 simp [row_map, tdiv50]
 repeat refine sg ?_
 refine hK2 _ ?_
 clear hK2 K2
 refine AT_seq_k fun K3 hK3 => ?_
 refine AT_seq_region fun K4 hK4 => ?_
 simp [row_map, tdiv50]
 repeat refine sg ?_
 refine hK4 _ ?_
 clear hK4 K4
 refine AT_block ?_
 refine AT_loop_q [2,1,5] [2] (fun j s => ∃ k c, k ≤ ta.length ∧ cntE (.mk kd n t ta l p) j0 = cntEs l (cnts (ta.drop k) c) ∧ j = ta.length - k ∧ s = { n := 53, tm := [(2, .lp 2 0), (1, .v (.int .i64 (c : Nat)) none), (5, .v (.int .i64 k) none)], bx := [(2, encE (.mk kd n t ta l p))], tb := [], sh := [], hint := [] }) (ta.length) (by first | rfl | simp) ?_ ?_
 ·
  exact ⟨0, cnt t (j0 + n.length / 50), by simp [cntE]⟩
 ·
  rintro j s ⟨k, c, hk, hc, rfl, rfl⟩ K5 hK5
  refine AT_seq_k fun K6 hK6 => ?_
  by_cases hkt : k < ta.length
  ·
   refine AT_seq_region fun K7 hK7 => ?_
   simp [row_map, tdiv50, hkt]
   repeat refine sg ?_
   refine hK7 _ ?_
   clear hK7 K7
   refine AT_cond (g := none) rfl (fun hb24 => ?_) (fun hb24 => ?_)
   ·
    try simp [row_map, tdiv50, hkt] at hb24
    refine AT_skip ?_
    try simp only [nrm, reduceIte, Nat.reduceEqDiff]
    refine hK6 _ ?_
    refine AT_seq_k fun K8 hK8 => ?_
    refine AT_block ?_
    refine AT_region_q fun K9 hK9 => ?_
    simp [row_map, tdiv50, hkt]
    repeat refine sg ?_
    refine RVn_call (c_ref04x_Count g rnd ta[k] (fits_mem hf4 (by simp)) c (by omega)) ?_
    simp [row_map, tdiv50, hkt]
    repeat refine sg ?_
    refine hK9 _ ?_
    clear hK9 K9
    try simp only [nrm, reduceIte, Nat.reduceEqDiff]
    refine hK8 _ ?_
    refine AT_region_q fun K10 hK10 => ?_
    simp [row_map, tdiv50, hkt]
    repeat refine sg ?_
    refine hK10 _ ?_
    clear hK10 K10
    try simp only [nrm, reduceIte, Nat.reduceEqDiff]
    refine hK5 _ (by first | rfl | simp) (ta.length - (k+1)) (by omega) ?_
    refine ⟨k+1, cnt ta[k] c, by omega, ?_, by omega, by simp⟩
    rw [hc, List.drop_eq_getElem_cons hkt, cnts_cons, if_pos (by omega)]
   ·
    try simp [row_map, tdiv50, hkt] at hb24
    refine AT_exit ?_
    try simp only [nrm, reduceIte, Nat.reduceEqDiff]
    refine hK3 _ ?_
    refine AT_seq_k fun K11 hK11 => ?_
    refine AT_seq_region fun K12 hK12 => ?_
    simp [row_map, tdiv50, hkt]
    repeat refine sg ?_
    refine hK12 _ ?_
    clear hK12 K12
    refine AT_block ?_
    refine AT_loop_q [2,1,6] [2] (fun j s => ∃ k c, k ≤ l.length ∧ cntE (.mk kd n t ta l p) j0 = cntEs (l.drop k) c ∧ j = l.length - k ∧ s = { n := 53, tm := [(2, .lp 2 0), (1, .v (.int .i64 (c : Nat)) none), (6, .v (.int .i64 k) none)], bx := [(2, encE (.mk kd n t ta l p))], tb := [], sh := [], hint := [] }) (l.length) (by first | rfl | simp) ?_ ?_
    ·
     refine ⟨0, c, by omega, ?_, by omega, by simp⟩
     first
     | (rw [hc, List.drop_eq_getElem_cons hkt, cnts_cons, if_neg (by omega)]; rfl)
     | (rw [hc, List.drop_eq_nil_of_le (by omega)]; rfl)
    ·
     rintro j s ⟨k, c, hk, hc2, rfl, rfl⟩ K13 hK13
     refine AT_seq_k fun K14 hK14 => ?_
     by_cases hkl : k < l.length
     ·
      refine AT_seq_region fun K15 hK15 => ?_
      simp [row_map, tdiv50, hkt, hkl]
      repeat refine sg ?_
      refine hK15 _ ?_
      clear hK15 K15
      refine AT_cond (g := none) rfl (fun hb42 => ?_) (fun hb42 => ?_)
      ·
       try simp [row_map, tdiv50, hkt, hkl] at hb42
       refine AT_skip ?_
       try simp only [nrm, reduceIte, Nat.reduceEqDiff]
       refine hK14 _ ?_
       refine AT_seq_k fun K16 hK16 => ?_
       refine AT_block ?_
       refine AT_region_q fun K17 hK17 => ?_
       simp [row_map, tdiv50, hkt, hkl]
       repeat refine sg ?_
       refine RVn_call (ih l[k] (by simp) (fitEs_mem hf6 (by simp)) c (by omega)) ?_
       simp [row_map, tdiv50, hkt, hkl]
       repeat refine sg ?_
       refine hK17 _ ?_
       clear hK17 K17
       try simp only [nrm, reduceIte, Nat.reduceEqDiff]
       refine hK16 _ ?_
       refine AT_region_q fun K18 hK18 => ?_
       simp [row_map, tdiv50, hkt, hkl]
       repeat refine sg ?_
       refine hK18 _ ?_
       clear hK18 K18
       try simp only [nrm, reduceIte, Nat.reduceEqDiff]
       refine hK13 _ (by first | rfl | simp) (l.length - (k+1)) (by omega) ?_
       refine ⟨k+1, cntE l[k] c, by omega, ?_, by omega, by simp⟩
       rw [hc2, List.drop_eq_getElem_cons hkl, cntEs_cons, if_pos (by omega)]
      ·
       try simp [row_map, tdiv50, hkt, hkl] at hb42
       refine AT_exit ?_
       try simp only [nrm, reduceIte, Nat.reduceEqDiff]
       refine hK11 _ ?_
       refine AT_seq_region fun K19 hK19 => ?_
       simp [row_map, tdiv50, hkt, hkl]
       repeat refine sg ?_
       refine hK19 _ ?_
       clear hK19 K19
       refine AT_ret ?_
       simp [row_map, tdiv50, Tryd.f35]
       first
       | (rw [hc2, List.drop_eq_getElem_cons hkl, cntEs_cons, if_neg (by omega)])
       | (rw [hc2, List.drop_eq_nil_of_le (by omega)]; rfl)
     ·
      refine AT_seq_region fun K20 hK20 => ?_
      simp [row_map, tdiv50, hkt, hkl]
      repeat refine sg ?_
      refine hK20 _ ?_
      clear hK20 K20
      refine AT_cond (b := false) (g := none) (by simp [hkt, hkl]) (fun hb => ?_) (fun hb => ?_)
      ·
       cases hb
      ·
       clear hb
       refine AT_exit ?_
       try simp only [nrm, reduceIte, Nat.reduceEqDiff]
       refine hK11 _ ?_
       refine AT_seq_region fun K21 hK21 => ?_
       simp [row_map, tdiv50, hkt, hkl]
       repeat refine sg ?_
       refine hK21 _ ?_
       clear hK21 K21
       refine AT_ret ?_
       simp [row_map, tdiv50, Tryd.f35]
       first
       | (rw [hc2, List.drop_eq_getElem_cons hkl, cntEs_cons, if_neg (by omega)])
       | (rw [hc2, List.drop_eq_nil_of_le (by omega)]; rfl)
  ·
   refine AT_seq_region fun K22 hK22 => ?_
   simp [row_map, tdiv50, hkt]
   repeat refine sg ?_
   refine hK22 _ ?_
   clear hK22 K22
   refine AT_cond (b := false) (g := none) (by simp [hkt]) (fun hb => ?_) (fun hb => ?_)
   ·
    cases hb
   ·
    clear hb
    refine AT_exit ?_
    try simp only [nrm, reduceIte, Nat.reduceEqDiff]
    refine hK3 _ ?_
    refine AT_seq_k fun K23 hK23 => ?_
    refine AT_seq_region fun K24 hK24 => ?_
    simp [row_map, tdiv50, hkt]
    repeat refine sg ?_
    refine hK24 _ ?_
    clear hK24 K24
    refine AT_block ?_
    refine AT_loop_q [2,1,6] [2] (fun j s => ∃ k c, k ≤ l.length ∧ cntE (.mk kd n t ta l p) j0 = cntEs (l.drop k) c ∧ j = l.length - k ∧ s = { n := 53, tm := [(2, .lp 2 0), (1, .v (.int .i64 (c : Nat)) none), (6, .v (.int .i64 k) none)], bx := [(2, encE (.mk kd n t ta l p))], tb := [], sh := [], hint := [] }) (l.length) (by first | rfl | simp) ?_ ?_
    ·
     refine ⟨0, c, by omega, ?_, by omega, by simp⟩
     first
     | (rw [hc, List.drop_eq_getElem_cons hkt, cnts_cons, if_neg (by omega)]; rfl)
     | (rw [hc, List.drop_eq_nil_of_le (by omega)]; rfl)
    ·
     rintro j s ⟨k, c, hk, hc2, rfl, rfl⟩ K25 hK25
     refine AT_seq_k fun K26 hK26 => ?_
     by_cases hkl : k < l.length
     ·
      refine AT_seq_region fun K27 hK27 => ?_
      simp [row_map, tdiv50, hkt, hkl]
      repeat refine sg ?_
      refine hK27 _ ?_
      clear hK27 K27
      refine AT_cond (g := none) rfl (fun hb42 => ?_) (fun hb42 => ?_)
      ·
       try simp [row_map, tdiv50, hkt, hkl] at hb42
       refine AT_skip ?_
       try simp only [nrm, reduceIte, Nat.reduceEqDiff]
       refine hK26 _ ?_
       refine AT_seq_k fun K28 hK28 => ?_
       refine AT_block ?_
       refine AT_region_q fun K29 hK29 => ?_
       simp [row_map, tdiv50, hkt, hkl]
       repeat refine sg ?_
       refine RVn_call (ih l[k] (by simp) (fitEs_mem hf6 (by simp)) c (by omega)) ?_
       simp [row_map, tdiv50, hkt, hkl]
       repeat refine sg ?_
       refine hK29 _ ?_
       clear hK29 K29
       try simp only [nrm, reduceIte, Nat.reduceEqDiff]
       refine hK28 _ ?_
       refine AT_region_q fun K30 hK30 => ?_
       simp [row_map, tdiv50, hkt, hkl]
       repeat refine sg ?_
       refine hK30 _ ?_
       clear hK30 K30
       try simp only [nrm, reduceIte, Nat.reduceEqDiff]
       refine hK25 _ (by first | rfl | simp) (l.length - (k+1)) (by omega) ?_
       refine ⟨k+1, cntE l[k] c, by omega, ?_, by omega, by simp⟩
       rw [hc2, List.drop_eq_getElem_cons hkl, cntEs_cons, if_pos (by omega)]
      ·
       try simp [row_map, tdiv50, hkt, hkl] at hb42
       refine AT_exit ?_
       try simp only [nrm, reduceIte, Nat.reduceEqDiff]
       refine hK23 _ ?_
       refine AT_seq_region fun K31 hK31 => ?_
       simp [row_map, tdiv50, hkt, hkl]
       repeat refine sg ?_
       refine hK31 _ ?_
       clear hK31 K31
       refine AT_ret ?_
       simp [row_map, tdiv50, Tryd.f35]
       first
       | (rw [hc2, List.drop_eq_getElem_cons hkl, cntEs_cons, if_neg (by omega)])
       | (rw [hc2, List.drop_eq_nil_of_le (by omega)]; rfl)
     ·
      refine AT_seq_region fun K32 hK32 => ?_
      simp [row_map, tdiv50, hkt, hkl]
      repeat refine sg ?_
      refine hK32 _ ?_
      clear hK32 K32
      refine AT_cond (b := false) (g := none) (by simp [hkt, hkl]) (fun hb => ?_) (fun hb => ?_)
      ·
       cases hb
      ·
       clear hb
       refine AT_exit ?_
       try simp only [nrm, reduceIte, Nat.reduceEqDiff]
       refine hK23 _ ?_
       refine AT_seq_region fun K33 hK33 => ?_
       simp [row_map, tdiv50, hkt, hkl]
       repeat refine sg ?_
       refine hK33 _ ?_
       clear hK33 K33
       refine AT_ret ?_
       simp [row_map, tdiv50, Tryd.f35]
       first
       | (rw [hc2, List.drop_eq_getElem_cons hkl, cntEs_cons, if_neg (by omega)])
       | (rw [hc2, List.drop_eq_nil_of_le (by omega)]; rfl)

theorem c_ref05x_Few (e : Exp) (hf : fitE e) : Valid Tryd.prog (G0 g rnd) 9 [.agg (encE e)] (.bool (decide (cntE e 0 ≤ 250))) := by

 refine valid_of [] Tryd.func9 rfl (by kernel_rfl) ?_
 refine AT_seq_region fun K1 hK1 => ?_
 simp [Tryd.f9]
 repeat refine sg ?_
 refine hK1 _ ?_
 clear hK1 K1
 refine AT_seq_region fun K2 hK2 => ?_
 simp
 repeat refine sg ?_
 refine RVn_call (c_ref05x_Count g rnd e hf 0 (by omega)) ?_
 simp
 repeat refine sg ?_
 refine hK2 _ ?_
 clear hK2 K2
 refine AT_ret ?_
 simp [Tryd.f9]
 omega

theorem c_ref05x_sameTypes (a b : List Ty) (hw : wts a ≤ 1099511627776) : Valid Tryd.prog (G0 g rnd) 43 [.slice (a.map encTy), .slice (b.map encTy)] (.bool (sameTs a b)) := by
 have hla := wts_len a
 refine valid_of [] Tryd.func43 rfl (by kernel_rfl) ?_
 refine AT_seq_region fun K1 hK1 => ?_
 simp [row_map, Tryd.f43]
 repeat refine sg ?_
 refine hK1 _ ?_
 clear hK1 K1
 refine AT_seq_k fun K2 hK2 => ?_
 refine AT_seq_region fun K3 hK3 => ?_
 simp [row_map]
 repeat refine sg ?_
 refine hK3 _ ?_
 clear hK3 K3
 refine AT_cond (g := none) rfl (fun hb10 => ?_) (fun hb10 => ?_)
 ·
  try simp [row_map] at hb10
  refine AT_seq_region fun K4 hK4 => ?_
  simp [row_map, hb10]
  repeat refine sg ?_
  refine hK4 _ ?_
  clear hK4 K4
  refine AT_ret ?_
  simp [row_map, Tryd.f43]
  first
  | (rw [sameTs_len (show a.length ≠ b.length by omega)]; done)
  | (rw [hc, hda, hdb, sameTs_cons]; simp [hb26]; done)
  | (rw [hc, List.drop_eq_nil_of_le hb14, List.drop_eq_nil_of_le (show b.length ≤ k by omega)]; rfl)
 ·
  try simp [row_map] at hb10
  have hab : a.length = b.length := by omega
  refine AT_skip ?_
  try simp only [nrm, reduceIte, Nat.reduceEqDiff]
  refine hK2 _ ?_
  refine AT_seq_k fun K5 hK5 => ?_
  refine AT_seq_region fun K6 hK6 => ?_
  simp [row_map]
  repeat refine sg ?_
  refine hK6 _ ?_
  clear hK6 K6
  refine AT_block ?_
  refine AT_loop_q [0,1,5] [] (fun j s => ∃ k, k ≤ a.length ∧ sameTs a b = sameTs (a.drop k) (b.drop k) ∧ j = a.length - k ∧ s = { n := 27, tm := [(0, .v (.slice (a.map encTy)) none), (1, .v (.slice (b.map encTy)) none), (5, .v (.int .i64 k) none)], bx := [], tb := [], sh := [], hint := [] }) (a.length) (by first | rfl | simp) ?_ ?_
  ·
   exact ⟨0, by simp⟩
  ·
   rintro j s ⟨k, hk, hc, rfl, rfl⟩ K7 hK7
   refine AT_seq_k fun K8 hK8 => ?_
   refine AT_seq_region fun K9 hK9 => ?_
   simp [row_map]
   repeat refine sg ?_
   refine hK9 _ ?_
   clear hK9 K9
   refine AT_cond (g := none) rfl (fun hb14 => ?_) (fun hb14 => ?_)
   ·
    try simp [row_map] at hb14
    refine AT_skip ?_
    try simp only [nrm, reduceIte, Nat.reduceEqDiff]
    refine hK8 _ ?_
    refine AT_seq_k fun K10 hK10 => ?_
    refine AT_block ?_
    refine AT_seq_draw Pt.mixed (by kernel_rfl) fun K11 hK11 => ?_
    have hku : k < b.length := by omega
    have hm := wts_mem (l := a) (t := a[k]) (by simp)
    have hda := List.drop_eq_getElem_cons hb14
    have hdb := List.drop_eq_getElem_cons hku
    simp [row_map, hku, hb14]
    repeat refine sg ?_
    refine RVdn_call (c_ref04x_Same g rnd a[k] b[k] (by omega)) ?_
    simp [row_map, hku, hb14]
    repeat refine sg ?_
    refine hK11 _ ?_
    clear hK11 K11
    refine AT_cond (g := none) rfl (fun hb26 => ?_) (fun hb26 => ?_)
    ·
     try simp [row_map, hb14] at hb26
     refine AT_seq_region fun K12 hK12 => ?_
     simp [row_map, hb14, hb26]
     repeat refine sg ?_
     refine hK12 _ ?_
     clear hK12 K12
     refine AT_ret ?_
     simp [row_map, Tryd.f43]
     first
     | (rw [sameTs_len (show a.length ≠ b.length by omega)]; done)
     | (rw [hc, hda, hdb, sameTs_cons]; simp [hb26]; done)
     | (rw [hc, List.drop_eq_nil_of_le hb14, List.drop_eq_nil_of_le (show b.length ≤ k by omega)]; rfl)
    ·
     try simp [row_map, hb14] at hb26
     refine AT_skip ?_
     try simp only [nrm, reduceIte, Nat.reduceEqDiff]
     refine hK10 _ ?_
     refine AT_region_q fun K13 hK13 => ?_
     simp [row_map, hb14, hb26]
     repeat refine sg ?_
     refine hK13 _ ?_
     clear hK13 K13
     try simp only [nrm, reduceIte, Nat.reduceEqDiff]
     refine hK7 _ (by first | rfl | simp) (a.length - (k+1)) (by omega) ?_
     refine ⟨k+1, by omega, ?_, by omega, by simp⟩
     rw [hc, hda, hdb, sameTs_cons]; simp [hb26]
   ·
    try simp [row_map] at hb14
    refine AT_exit ?_
    try simp only [nrm, reduceIte, Nat.reduceEqDiff]
    refine hK5 _ ?_
    refine AT_seq_region fun K14 hK14 => ?_
    simp [row_map, hb14]
    repeat refine sg ?_
    refine hK14 _ ?_
    clear hK14 K14
    refine AT_ret ?_
    simp [row_map, Tryd.f43]
    first
    | (rw [sameTs_len (show a.length ≠ b.length by omega)]; done)
    | (rw [hc, hda, hdb, sameTs_cons]; simp [hb26]; done)
    | (rw [hc, List.drop_eq_nil_of_le hb14, List.drop_eq_nil_of_le (show b.length ≤ k by omega)]; rfl)

theorem c_ref05x_Same : ∀ e f : Exp, wtE e ≤ 1000000000 → Valid Tryd.prog (G0 g rnd) 17 [.agg (encE e), .agg (encE f)] (.bool (sameE e f)) := by
 intro e
 induction e using Exp.ind with
 | h kd n t ta l p ih =>
 intro f hw
 obtain ⟨kf, m, u, ua, ul, q⟩ := f
 have hw2 : n.length + 1 + wt t + wts ta + wtEs l ≤ 1000000000 := by simpa [wtE_mk] using hw
 have hln := wtEs_len l
 have hla := wts_len ta
 refine valid_of [] Tryd.func17 rfl (by kernel_rfl) ?_
 refine AT_seq_region fun K1 hK1 => ?_
 simp [row_map, Tryd.f17]
 repeat refine sg ?_
 refine hK1 _ ?_
 clear hK1 K1
 refine AT_seq_k fun K2 hK2 => ?_
 cases h1 : (kd != kf)
 ·
  cases h2 : (n == m)
  ·
   refine AT_seq_region fun K3 hK3 => ?_
   simp [row_map, h1, h2]
   repeat refine sg ?_
   try (
    refine RVn_call (c_ref04x_Same g rnd t u (by omega)) ?_
    simp [row_map, h1, h2]
    repeat refine sg ?_)
   try (
    refine RVn_call (c_ref05x_sameTypes g rnd ta ua (by omega)) ?_
    simp [row_map, h1, h2]
    repeat refine sg ?_)
   refine hK3 _ ?_
   clear hK3 K3
   refine AT_cond (b := true) (g := none) (by simp [h1, h2]) (fun hb => ?_) (fun hb => ?_)
   ·
    clear hb
    refine AT_seq_region fun K4 hK4 => ?_
    simp [row_map, h1, h2]
    repeat refine sg ?_
    refine hK4 _ ?_
    clear hK4 K4
    refine AT_ret ?_
    simp [row_map, Tryd.f17]
    first
    | (simp [sameE, show (kd == kf) = false by simpa using h1]; done)
    | (simp [sameE, h2]; done)
    | (simp [sameE, h3]; done)
    | (simp [sameE, h4]; done)
    | (simp [sameE, sameEs_len (show l.length ≠ ul.length by omega)]; done)
    | (have he : sameE (.mk kd n t ta l p) (.mk kf m u ua ul q) = sameEs l ul := by simp [sameE, show (kd == kf) = true by simpa using h1, h2, h3, h4]
       rw [he, hc, hda, hdb, sameEs_cons]; simp [hb61]; done)
    | (have he : sameE (.mk kd n t ta l p) (.mk kf m u ua ul q) = sameEs l ul := by simp [sameE, show (kd == kf) = true by simpa using h1, h2, h3, h4]
       rw [he, hc, List.drop_eq_nil_of_le hb47, List.drop_eq_nil_of_le (show ul.length ≤ k by omega)]; simp [sameEs]; done)
   ·
    cases hb
  ·
   cases h3 : (cmpT t u == 0)
   ·
    refine AT_seq_region fun K5 hK5 => ?_
    simp [row_map, h1, h2, h3]
    repeat refine sg ?_
    try (
     refine RVn_call (c_ref04x_Same g rnd t u (by omega)) ?_
     simp [row_map, h1, h2, h3]
     repeat refine sg ?_)
    try (
     refine RVn_call (c_ref05x_sameTypes g rnd ta ua (by omega)) ?_
     simp [row_map, h1, h2, h3]
     repeat refine sg ?_)
    refine hK5 _ ?_
    clear hK5 K5
    refine AT_cond (b := true) (g := none) (by simp [h1, h2, h3]) (fun hb => ?_) (fun hb => ?_)
    ·
     clear hb
     refine AT_seq_region fun K6 hK6 => ?_
     simp [row_map, h1, h2, h3]
     repeat refine sg ?_
     refine hK6 _ ?_
     clear hK6 K6
     refine AT_ret ?_
     simp [row_map, Tryd.f17]
     first
     | (simp [sameE, show (kd == kf) = false by simpa using h1]; done)
     | (simp [sameE, h2]; done)
     | (simp [sameE, h3]; done)
     | (simp [sameE, h4]; done)
     | (simp [sameE, sameEs_len (show l.length ≠ ul.length by omega)]; done)
     | (have he : sameE (.mk kd n t ta l p) (.mk kf m u ua ul q) = sameEs l ul := by simp [sameE, show (kd == kf) = true by simpa using h1, h2, h3, h4]
        rw [he, hc, hda, hdb, sameEs_cons]; simp [hb61]; done)
     | (have he : sameE (.mk kd n t ta l p) (.mk kf m u ua ul q) = sameEs l ul := by simp [sameE, show (kd == kf) = true by simpa using h1, h2, h3, h4]
        rw [he, hc, List.drop_eq_nil_of_le hb47, List.drop_eq_nil_of_le (show ul.length ≤ k by omega)]; simp [sameEs]; done)
    ·
     cases hb
   ·
    cases h4 : (sameTs ta ua)
    ·
     refine AT_seq_region fun K7 hK7 => ?_
     simp [row_map, h1, h2, h3, h4]
     repeat refine sg ?_
     try (
      refine RVn_call (c_ref04x_Same g rnd t u (by omega)) ?_
      simp [row_map, h1, h2, h3, h4]
      repeat refine sg ?_)
     try (
      refine RVn_call (c_ref05x_sameTypes g rnd ta ua (by omega)) ?_
      simp [row_map, h1, h2, h3, h4]
      repeat refine sg ?_)
     refine hK7 _ ?_
     clear hK7 K7
     refine AT_cond (b := true) (g := none) (by simp [h1, h2, h3, h4]) (fun hb => ?_) (fun hb => ?_)
     ·
      clear hb
      refine AT_seq_region fun K8 hK8 => ?_
      simp [row_map, h1, h2, h3, h4]
      repeat refine sg ?_
      refine hK8 _ ?_
      clear hK8 K8
      refine AT_ret ?_
      simp [row_map, Tryd.f17]
      first
      | (simp [sameE, show (kd == kf) = false by simpa using h1]; done)
      | (simp [sameE, h2]; done)
      | (simp [sameE, h3]; done)
      | (simp [sameE, h4]; done)
      | (simp [sameE, sameEs_len (show l.length ≠ ul.length by omega)]; done)
      | (have he : sameE (.mk kd n t ta l p) (.mk kf m u ua ul q) = sameEs l ul := by simp [sameE, show (kd == kf) = true by simpa using h1, h2, h3, h4]
         rw [he, hc, hda, hdb, sameEs_cons]; simp [hb61]; done)
      | (have he : sameE (.mk kd n t ta l p) (.mk kf m u ua ul q) = sameEs l ul := by simp [sameE, show (kd == kf) = true by simpa using h1, h2, h3, h4]
         rw [he, hc, List.drop_eq_nil_of_le hb47, List.drop_eq_nil_of_le (show ul.length ≤ k by omega)]; simp [sameEs]; done)
     ·
      cases hb
    ·
     by_cases h5 : (l.length : Int) = ul.length
     ·
      have h5b : ((l.length : Int) != ul.length) = false := by simpa using h5
      refine AT_seq_region fun K9 hK9 => ?_
      simp [row_map, h1, h2, h3, h4, h5b]
      repeat refine sg ?_
      try (
       refine RVn_call (c_ref04x_Same g rnd t u (by omega)) ?_
       simp [row_map, h1, h2, h3, h4, h5b]
       repeat refine sg ?_)
      try (
       refine RVn_call (c_ref05x_sameTypes g rnd ta ua (by omega)) ?_
       simp [row_map, h1, h2, h3, h4, h5b]
       repeat refine sg ?_)
      refine hK9 _ ?_
      clear hK9 K9
      refine AT_cond (b := false) (g := none) (by simp [h1, h2, h3, h4, h5b]) (fun hb => ?_) (fun hb => ?_)
      ·
       cases hb
      ·
       clear hb
       refine AT_skip ?_
       try simp only [nrm, reduceIte, Nat.reduceEqDiff]
       refine hK2 _ ?_
       refine AT_seq_k fun K10 hK10 => ?_
       refine AT_seq_region fun K11 hK11 => ?_
       simp [row_map, h1, h2, h3, h4, h5b]
       repeat refine sg ?_
       refine hK11 _ ?_
       clear hK11 K11
       refine AT_block ?_
       refine AT_loop_q [2,3,5] [2,3] (fun j s => ∃ k, k ≤ l.length ∧ sameEs l ul = sameEs (l.drop k) (ul.drop k) ∧ j = l.length - k ∧ s = { n := 62, tm := [(2, .lp 2 0), (3, .lp 3 0), (5, .v (.int .i64 k) none)], bx := [(2, encE (.mk kd n t ta l p)), (3, encE (.mk kf m u ua ul q))], tb := [], sh := [], hint := [] }) (l.length) (by first | rfl | simp) ?_ ?_
       ·
        exact ⟨0, by simp⟩
       ·
        rintro j s ⟨k, hk, hc, rfl, rfl⟩ K12 hK12
        refine AT_seq_k fun K13 hK13 => ?_
        refine AT_seq_region fun K14 hK14 => ?_
        simp [row_map, h1, h2, h3, h4, h5b]
        repeat refine sg ?_
        refine hK14 _ ?_
        clear hK14 K14
        refine AT_cond (g := none) rfl (fun hb47 => ?_) (fun hb47 => ?_)
        ·
         try simp [row_map, h1, h2, h3, h4, h5b] at hb47
         refine AT_skip ?_
         try simp only [nrm, reduceIte, Nat.reduceEqDiff]
         refine hK13 _ ?_
         refine AT_seq_k fun K15 hK15 => ?_
         refine AT_block ?_
         refine AT_seq_draw Pt.mixed (by kernel_rfl) fun K16 hK16 => ?_
         have hku : k < ul.length := by omega
         have hm := wtEs_mem (l := l) (e := l[k]) (by simp)
         have hda := List.drop_eq_getElem_cons hb47
         have hdb := List.drop_eq_getElem_cons hku
         simp [row_map, hku, h1, h2, h3, h4, h5b, hb47]
         repeat refine sg ?_
         refine RVdn_call (ih l[k] (by simp) ul[k] (by omega)) ?_
         simp [row_map, hku, h1, h2, h3, h4, h5b, hb47]
         repeat refine sg ?_
         refine hK16 _ ?_
         clear hK16 K16
         refine AT_cond (g := none) rfl (fun hb61 => ?_) (fun hb61 => ?_)
         ·
          try simp [row_map, h1, h2, h3, h4, h5b, hb47] at hb61
          refine AT_seq_region fun K17 hK17 => ?_
          simp [row_map, h1, h2, h3, h4, h5b, hb47, hb61]
          repeat refine sg ?_
          refine hK17 _ ?_
          clear hK17 K17
          refine AT_ret ?_
          simp [row_map, Tryd.f17]
          first
          | (simp [sameE, show (kd == kf) = false by simpa using h1]; done)
          | (simp [sameE, h2]; done)
          | (simp [sameE, h3]; done)
          | (simp [sameE, h4]; done)
          | (simp [sameE, sameEs_len (show l.length ≠ ul.length by omega)]; done)
          | (have he : sameE (.mk kd n t ta l p) (.mk kf m u ua ul q) = sameEs l ul := by simp [sameE, show (kd == kf) = true by simpa using h1, h2, h3, h4]
             rw [he, hc, hda, hdb, sameEs_cons]; simp [hb61]; done)
          | (have he : sameE (.mk kd n t ta l p) (.mk kf m u ua ul q) = sameEs l ul := by simp [sameE, show (kd == kf) = true by simpa using h1, h2, h3, h4]
             rw [he, hc, List.drop_eq_nil_of_le hb47, List.drop_eq_nil_of_le (show ul.length ≤ k by omega)]; simp [sameEs]; done)
         ·
          try simp [row_map, h1, h2, h3, h4, h5b, hb47] at hb61
          refine AT_skip ?_
          try simp only [nrm, reduceIte, Nat.reduceEqDiff]
          refine hK15 _ ?_
          refine AT_region_q fun K18 hK18 => ?_
          simp [row_map, h1, h2, h3, h4, h5b, hb47, hb61]
          repeat refine sg ?_
          refine hK18 _ ?_
          clear hK18 K18
          try simp only [nrm, reduceIte, Nat.reduceEqDiff]
          refine hK12 _ (by first | rfl | simp) (l.length - (k+1)) (by omega) ?_
          refine ⟨k+1, by omega, ?_, by omega, by simp⟩
          rw [hc, hda, hdb, sameEs_cons]; simp [hb61]
        ·
         try simp [row_map, h1, h2, h3, h4, h5b] at hb47
         refine AT_exit ?_
         try simp only [nrm, reduceIte, Nat.reduceEqDiff]
         refine hK10 _ ?_
         refine AT_seq_region fun K19 hK19 => ?_
         simp [row_map, h1, h2, h3, h4, h5b, hb47]
         repeat refine sg ?_
         refine hK19 _ ?_
         clear hK19 K19
         refine AT_ret ?_
         simp [row_map, Tryd.f17]
         first
         | (simp [sameE, show (kd == kf) = false by simpa using h1]; done)
         | (simp [sameE, h2]; done)
         | (simp [sameE, h3]; done)
         | (simp [sameE, h4]; done)
         | (simp [sameE, sameEs_len (show l.length ≠ ul.length by omega)]; done)
         | (have he : sameE (.mk kd n t ta l p) (.mk kf m u ua ul q) = sameEs l ul := by simp [sameE, show (kd == kf) = true by simpa using h1, h2, h3, h4]
            rw [he, hc, hda, hdb, sameEs_cons]; simp [hb61]; done)
         | (have he : sameE (.mk kd n t ta l p) (.mk kf m u ua ul q) = sameEs l ul := by simp [sameE, show (kd == kf) = true by simpa using h1, h2, h3, h4]
            rw [he, hc, List.drop_eq_nil_of_le hb47, List.drop_eq_nil_of_le (show ul.length ≤ k by omega)]; simp [sameEs]; done)
     ·
      have h5b : ((l.length : Int) != ul.length) = true := by simpa using h5
      refine AT_seq_region fun K20 hK20 => ?_
      simp [row_map, h1, h2, h3, h4, h5b]
      repeat refine sg ?_
      try (
       refine RVn_call (c_ref04x_Same g rnd t u (by omega)) ?_
       simp [row_map, h1, h2, h3, h4, h5b]
       repeat refine sg ?_)
      try (
       refine RVn_call (c_ref05x_sameTypes g rnd ta ua (by omega)) ?_
       simp [row_map, h1, h2, h3, h4, h5b]
       repeat refine sg ?_)
      refine hK20 _ ?_
      clear hK20 K20
      refine AT_cond (b := true) (g := none) (by simp [h1, h2, h3, h4, h5b]) (fun hb => ?_) (fun hb => ?_)
      ·
       clear hb
       refine AT_seq_region fun K21 hK21 => ?_
       simp [row_map, h1, h2, h3, h4, h5b]
       repeat refine sg ?_
       refine hK21 _ ?_
       clear hK21 K21
       refine AT_ret ?_
       simp [row_map, Tryd.f17]
       first
       | (simp [sameE, show (kd == kf) = false by simpa using h1]; done)
       | (simp [sameE, h2]; done)
       | (simp [sameE, h3]; done)
       | (simp [sameE, h4]; done)
       | (simp [sameE, sameEs_len (show l.length ≠ ul.length by omega)]; done)
       | (have he : sameE (.mk kd n t ta l p) (.mk kf m u ua ul q) = sameEs l ul := by simp [sameE, show (kd == kf) = true by simpa using h1, h2, h3, h4]
          rw [he, hc, hda, hdb, sameEs_cons]; simp [hb61]; done)
       | (have he : sameE (.mk kd n t ta l p) (.mk kf m u ua ul q) = sameEs l ul := by simp [sameE, show (kd == kf) = true by simpa using h1, h2, h3, h4]
          rw [he, hc, List.drop_eq_nil_of_le hb47, List.drop_eq_nil_of_le (show ul.length ≤ k by omega)]; simp [sameEs]; done)
      ·
       cases hb
 ·
  refine AT_seq_region fun K22 hK22 => ?_
  simp [row_map, h1]
  repeat refine sg ?_
  try (
   refine RVn_call (c_ref04x_Same g rnd t u (by omega)) ?_
   simp [row_map, h1]
   repeat refine sg ?_)
  try (
   refine RVn_call (c_ref05x_sameTypes g rnd ta ua (by omega)) ?_
   simp [row_map, h1]
   repeat refine sg ?_)
  refine hK22 _ ?_
  clear hK22 K22
  refine AT_cond (b := true) (g := none) (by simp [h1]) (fun hb => ?_) (fun hb => ?_)
  ·
   clear hb
   refine AT_seq_region fun K23 hK23 => ?_
   simp [row_map, h1]
   repeat refine sg ?_
   refine hK23 _ ?_
   clear hK23 K23
   refine AT_ret ?_
   simp [row_map, Tryd.f17]
   first
   | (simp [sameE, show (kd == kf) = false by simpa using h1]; done)
   | (simp [sameE, h2]; done)
   | (simp [sameE, h3]; done)
   | (simp [sameE, h4]; done)
   | (simp [sameE, sameEs_len (show l.length ≠ ul.length by omega)]; done)
   | (have he : sameE (.mk kd n t ta l p) (.mk kf m u ua ul q) = sameEs l ul := by simp [sameE, show (kd == kf) = true by simpa using h1, h2, h3, h4]
      rw [he, hc, hda, hdb, sameEs_cons]; simp [hb61]; done)
   | (have he : sameE (.mk kd n t ta l p) (.mk kf m u ua ul q) = sameEs l ul := by simp [sameE, show (kd == kf) = true by simpa using h1, h2, h3, h4]
      rw [he, hc, List.drop_eq_nil_of_le hb47, List.drop_eq_nil_of_le (show ul.length ≤ k by omega)]; simp [sameEs]; done)
  ·
   cases hb

end Go.Proofs.YtpjkdaechknogaaDoor
end

section
/- Contracts: expressions handed out. -/
set_option linter.all false
set_option maxHeartbeats 1000000
set_option maxRecDepth 10000
namespace Go.Proofs.YtpjkdaechknogaaDoor
open Go Go.Pv
variable (g : Nat → Option (List AV)) (rnd : Bool)

end Go.Proofs.YtpjkdaechknogaaDoor
end

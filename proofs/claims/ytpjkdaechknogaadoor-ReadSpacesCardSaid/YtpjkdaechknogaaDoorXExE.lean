/- Contracts: expressions handed out. -/
import Derived.Test.YtpjkdaechknogaaDoorPt
import Derived.Test.YtpjkdaechknogaaDoorPvRa
import Derived.Test.YtpjkdaechknogaaDoorPvZ
import Derived.Test.YtpjkdaechknogaaDoorPvMc
import Derived.Test.YtpjkdaechknogaaDoorXExA
import Derived.Test.YtpjkdaechknogaaDoorXTyP
import Derived.Test.YtpjkdaechknogaaDoorXTyP
set_option linter.all false
set_option maxHeartbeats 1000000
set_option maxRecDepth 10000
namespace Go.Proofs.YtpjkdaechknogaaDoor
open Go Go.Pv
variable (g : Nat → Option (List AV)) (rnd : Bool)

theorem c_slices_IndexFunc_api_Type_api_Type_q (fid : Nat) (caps : List AV) (q : Ty → Bool) (l : List Ty) (hl : l.length ≤ 1099511627776) (hq : ∀ x ∈ l, Valid Tryd.prog (G0 g rnd) fid ([.agg (encTy x)] ++ caps) (.bool (q x))) : Valid Tryd.prog (G0 g rnd) 91 [.slice (l.map encTy), .func fid caps] (.int .i64 (idxQ q l 0)) := by

 refine valid_of [] Tryd.func91 rfl (by kernel_rfl) ?_
 refine AT_seq_region fun K1 hK1 => ?_
 simp [row_map, Tryd.f91]
 repeat refine sg ?_
 refine hK1 _ ?_
 clear hK1 K1
 refine AT_seq_k fun K2 hK2 => ?_
 refine AT_seq_region fun K3 hK3 => ?_
 simp [row_map]
 repeat refine sg ?_
 refine hK3 _ ?_
 clear hK3 K3
 refine AT_block ?_
 refine AT_loop_q [0,1,7,8] [] (fun j s => ∃ k, k ≤ l.length ∧ idxQ q l 0 = idxQ q (l.drop k) k ∧ j = l.length - k ∧ s = { n := 19, tm := [(0, .v (.slice (l.map encTy)) none), (1, .v (.func fid caps) none), (7, .v (.int .i64 l.length) none), (8, .v (.int .i64 k) none)], bx := [], tb := [], sh := [], hint := [] }) (l.length) (by first | rfl | simp) ?_ ?_
 ·
  exact ⟨0, by simp⟩
 ·
  rintro j s ⟨k, hk, hc, rfl, rfl⟩ K4 hK4
  refine AT_seq_region fun K5 hK5 => ?_
  simp [row_map]
  repeat refine sg ?_
  refine hK5 _ ?_
  clear hK5 K5
  refine AT_seq_k fun K6 hK6 => ?_
  refine AT_cond (g := none) rfl (fun hb9 => ?_) (fun hb9 => ?_)
  ·
   try simp [row_map] at hb9
   refine AT_skip ?_
   try simp only [nrm, reduceIte, Nat.reduceEqDiff]
   refine hK6 _ ?_
   refine AT_seq_k fun K7 hK7 => ?_
   refine AT_block ?_
   refine AT_seq_region fun K8 hK8 => ?_
   simp [row_map, hb9]
   repeat refine sg ?_
   refine hK8 _ ?_
   clear hK8 K8
   refine AT_seq_region fun K9 hK9 => ?_
   have hk9 : k < l.length := by omega
   have hda := List.drop_eq_getElem_cons hk9
   simp [row_map, hb9]
   repeat refine sg ?_
   refine RVn_call (hq l[k] (by simp)) ?_
   simp [row_map, hb9]
   repeat refine sg ?_
   refine hK9 _ ?_
   clear hK9 K9
   refine AT_cond (g := none) rfl (fun hb16 => ?_) (fun hb16 => ?_)
   ·
    try simp [row_map, hb9] at hb16
    refine AT_seq_region fun K10 hK10 => ?_
    simp [row_map, hb9, hb16]
    repeat refine sg ?_
    refine hK10 _ ?_
    clear hK10 K10
    refine AT_ret ?_
    simp [row_map, Tryd.f91]
    first
    | (rw [hc, hda, idxQ, if_pos hb16]; done)
    | (rw [hc, List.drop_eq_nil_of_le (by omega)]; rfl)
   ·
    try simp [row_map, hb9] at hb16
    refine AT_skip ?_
    try simp only [nrm, reduceIte, Nat.reduceEqDiff]
    refine hK7 _ ?_
    refine AT_region_q fun K11 hK11 => ?_
    simp [row_map, hb9, hb16]
    repeat refine sg ?_
    refine hK11 _ ?_
    clear hK11 K11
    try simp only [nrm, reduceIte, Nat.reduceEqDiff]
    refine hK4 _ (by first | rfl | simp) (l.length - (k+1)) (by omega) ?_
    refine ⟨k+1, by omega, ?_, by omega, by simp⟩
    rw [hc, hda, idxQ, if_neg (by simp [hb16])]
  ·
   try simp [row_map] at hb9
   refine AT_exit ?_
   try simp only [nrm, reduceIte, Nat.reduceEqDiff]
   refine hK2 _ ?_
   refine AT_seq_region fun K12 hK12 => ?_
   simp [row_map, hb9]
   repeat refine sg ?_
   refine hK12 _ ?_
   clear hK12 K12
   refine AT_ret ?_
   simp [row_map, Tryd.f91]
   first
   | (rw [hc, hda, idxQ, if_pos hb16]; done)
   | (rw [hc, List.drop_eq_nil_of_le (by omega)]; rfl)

theorem c_slices_ContainsFunc_api_Type_api_Type_q (fid : Nat) (caps : List AV) (q : Ty → Bool) (l : List Ty) (hl : l.length ≤ 1099511627776) (hq : ∀ x ∈ l, Valid Tryd.prog (G0 g rnd) fid ([.agg (encTy x)] ++ caps) (.bool (q x))) : Valid Tryd.prog (G0 g rnd) 85 [.slice (l.map encTy), .func fid caps] (.bool (l.any q)) := by

 refine valid_of [] Tryd.func85 rfl (by kernel_rfl) ?_
 refine AT_seq_region fun K1 hK1 => ?_
 simp [Tryd.f85]
 repeat refine sg ?_
 refine hK1 _ ?_
 clear hK1 K1
 refine AT_seq_region fun K2 hK2 => ?_
 simp
 repeat refine sg ?_
 refine RVn_call (c_slices_IndexFunc_api_Type_api_Type_q g rnd fid caps q l hl hq) ?_
 simp
 repeat refine sg ?_
 refine hK2 _ ?_
 clear hK2 K2
 refine AT_ret ?_
 simp [Tryd.f85]
 exact idxQ_any q l 0

end Go.Proofs.YtpjkdaechknogaaDoor

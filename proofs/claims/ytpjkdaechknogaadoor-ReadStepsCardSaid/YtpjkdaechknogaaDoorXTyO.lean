import Derived.Test.YtpjkdaechknogaaDoorPt
import Derived.Test.YtpjkdaechknogaaDoorPvPb
import Derived.Test.YtpjkdaechknogaaDoorPvY
import Derived.Test.YtpjkdaechknogaaDoorXTyD
import Derived.Test.YtpjkdaechknogaaDoorXShelf
import Derived.Test.YtpjkdaechknogaaDoorXNaB
section
/- Contracts. -/
set_option linter.all false
set_option maxHeartbeats 1000000
set_option maxRecDepth 10000
namespace Go.Proofs.YtpjkdaechknogaaDoor
open Go Go.Pv
variable (g : Nat → Option (List AV)) (rnd : Bool)

theorem c_ref04x_Text (t : Ty) : wt t ≤ 1099511627776 → Valid Tryd.prog (G0 g rnd) 13 [.agg (encTy t)] (.str (txt t)) := by
 induction t using Ty.ind with
 | h n ts p ih =>
 intro hw
 have hw2 : n.length + 1 + wts ts ≤ 1099511627776 := by simpa [wt] using hw
 have hln := wts_len ts
 refine valid_of [] Tryd.func13 rfl (by kernel_rfl) ?_
 refine AT_seq_region fun K1 hK1 => ?_
 simp [row_map, Tryd.f13]
 repeat refine sg ?_
 refine hK1 _ ?_
 clear hK1 K1
 refine AT_seq_region fun K2 hK2 => ?_
 simp [row_map]
 repeat refine sg ?_
 refine hK2 _ ?_
 clear hK2 K2
 refine AT_seq_k fun K3 hK3 => ?_
 refine AT_seq_region fun K4 hK4 => ?_
 simp [row_map]
 repeat refine sg ?_
 refine hK4 _ ?_
 clear hK4 K4
 refine AT_block ?_
 refine AT_loop_q [3,4,1] [1] (fun j s => ∃ k, k ≤ ts.length ∧ j = ts.length - k ∧ s = { n := 35, tm := [(3, .v (.str (txtK n ts k)) none), (4, .v (.int .i64 k) none), (1, .lp 1 0)], bx := [(1, encTy (.mk n ts p))], tb := [], sh := [], hint := [] }) (ts.length) (by first | rfl | simp) ?_ ?_
 ·
  exact ⟨0, by simp [txtK]⟩
 ·
  rintro j s ⟨k, hk, rfl, rfl⟩ K5 hK5
  refine AT_seq_k fun K6 hK6 => ?_
  refine AT_seq_region fun K7 hK7 => ?_
  simp [row_map]
  repeat refine sg ?_
  refine hK7 _ ?_
  clear hK7 K7
  refine AT_cond (g := none) rfl (fun hb11 => ?_) (fun hb11 => ?_)
  ·
   try simp [row_map] at hb11
   refine AT_skip ?_
   try simp only [nrm, reduceIte, Nat.reduceEqDiff]
   refine hK6 _ ?_
   refine AT_seq_k fun K8 hK8 => ?_
   refine AT_block ?_
   refine AT_seq_k fun K9 hK9 => ?_
   refine AT_seq_region fun K10 hK10 => ?_
   simp [row_map, hb11]
   repeat refine sg ?_
   refine hK10 _ ?_
   clear hK10 K10
   refine AT_cond (g := none) rfl (fun hb15 => ?_) (fun hb15 => ?_)
   ·
    try simp [row_map, hb11] at hb15
    refine AT_region_q fun K11 hK11 => ?_
    have htk := txtK_len n ts k
    simp [row_map, hb11]
    repeat refine sg ?_
    refine hK11 _ ?_
    clear hK11 K11
    try simp only [nrm, reduceIte, Nat.reduceEqDiff]
    refine hK9 _ ?_
    refine AT_region_q fun K12 hK12 => ?_
    have htk := txtK_len n ts k
    have hm := wts_mem (l := ts) (t := ts[k]) (by simp)
    have hxt := txt_wt ts[k]
    simp [row_map, hb11]
    repeat refine sg ?_
    refine RVn_call (ih ts[k] (by simp) (by omega)) ?_
    simp [row_map, hb11]
    repeat refine sg ?_
    refine hK12 _ ?_
    clear hK12 K12
    try simp only [nrm, reduceIte, Nat.reduceEqDiff]
    refine hK8 _ ?_
    refine AT_region_q fun K13 hK13 => ?_
    simp [row_map, hb11]
    repeat refine sg ?_
    refine hK13 _ ?_
    clear hK13 K13
    try simp only [nrm, reduceIte, Nat.reduceEqDiff]
    refine hK5 _ (by first | rfl | simp) (ts.length - (k+1)) (by omega) ?_
    have hs := txtK_succ n ts k hb11
    first | rw [if_pos hb15] at hs | rw [if_neg hb15] at hs
    exact ⟨k+1, by omega, by omega, by simp [hs]⟩
   ·
    try simp [row_map, hb11] at hb15
    refine AT_region_q fun K14 hK14 => ?_
    have htk := txtK_len n ts k
    simp [row_map, hb11]
    repeat refine sg ?_
    refine hK14 _ ?_
    clear hK14 K14
    try simp only [nrm, reduceIte, Nat.reduceEqDiff]
    refine hK9 _ ?_
    refine AT_region_q fun K15 hK15 => ?_
    have htk := txtK_len n ts k
    have hm := wts_mem (l := ts) (t := ts[k]) (by simp)
    have hxt := txt_wt ts[k]
    simp [row_map, hb11]
    repeat refine sg ?_
    refine RVn_call (ih ts[k] (by simp) (by omega)) ?_
    simp [row_map, hb11]
    repeat refine sg ?_
    refine hK15 _ ?_
    clear hK15 K15
    try simp only [nrm, reduceIte, Nat.reduceEqDiff]
    refine hK8 _ ?_
    refine AT_region_q fun K16 hK16 => ?_
    simp [row_map, hb11]
    repeat refine sg ?_
    refine hK16 _ ?_
    clear hK16 K16
    try simp only [nrm, reduceIte, Nat.reduceEqDiff]
    refine hK5 _ (by first | rfl | simp) (ts.length - (k+1)) (by omega) ?_
    have hs := txtK_succ n ts k hb11
    first | rw [if_pos hb15] at hs | rw [if_neg hb15] at hs
    exact ⟨k+1, by omega, by omega, by simp [hs]⟩
  ·
   try simp [row_map] at hb11
   refine AT_exit ?_
   try simp only [nrm, reduceIte, Nat.reduceEqDiff]
   refine hK3 _ ?_
   refine AT_seq_k fun K17 hK17 => ?_
   refine AT_seq_region fun K18 hK18 => ?_
   simp [row_map, hb11]
   repeat refine sg ?_
   refine hK18 _ ?_
   clear hK18 K18
   refine AT_cond (g := none) rfl (fun hb31 => ?_) (fun hb31 => ?_)
   ·
    try simp [row_map, hb11] at hb31
    refine AT_region_q fun K19 hK19 => ?_
    have htk := txtK_len n ts k
    simp [row_map, hb11]
    repeat refine sg ?_
    refine hK19 _ ?_
    clear hK19 K19
    try simp only [nrm, reduceIte, Nat.reduceEqDiff]
    refine hK17 _ ?_
    refine AT_seq_region fun K20 hK20 => ?_
    simp [row_map, hb11]
    repeat refine sg ?_
    refine hK20 _ ?_
    clear hK20 K20
    refine AT_ret ?_
    simp [row_map, Tryd.f13]
    first
    | exact (txt_end n ts p k (by omega)).1 (by first | omega | simpa [List.length_pos_iff] using hb31)
    | exact (txt_end n ts p k (by omega)).2 (by first | omega | simpa using hb31)
   ·
    try simp [row_map, hb11] at hb31
    refine AT_skip ?_
    try simp only [nrm, reduceIte, Nat.reduceEqDiff]
    refine hK17 _ ?_
    refine AT_seq_region fun K21 hK21 => ?_
    simp [row_map, hb11]
    repeat refine sg ?_
    refine hK21 _ ?_
    clear hK21 K21
    refine AT_ret ?_
    simp [row_map, Tryd.f13]
    first
    | exact (txt_end n ts p k (by omega)).1 (by first | omega | simpa [List.length_pos_iff] using hb31)
    | exact (txt_end n ts p k (by omega)).2 (by first | omega | simpa using hb31)

end Go.Proofs.YtpjkdaechknogaaDoor
end

section
/- Contracts. -/
set_option linter.all false
set_option maxHeartbeats 1000000
set_option maxRecDepth 10000
namespace Go.Proofs.YtpjkdaechknogaaDoor
open Go Go.Pv
variable (g : Nat → Option (List AV)) (rnd : Bool)

end Go.Proofs.YtpjkdaechknogaaDoor
end

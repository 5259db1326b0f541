/- Contracts. -/
import Derived.Test.YtpjkdaechknogaaDoorPt
import Derived.Test.YtpjkdaechknogaaDoorPvRa
import Derived.Test.YtpjkdaechknogaaDoorPvZ
import Derived.Test.YtpjkdaechknogaaDoorXTyP
set_option linter.all false
set_option maxHeartbeats 1000000
set_option maxRecDepth 10000
namespace Go.Proofs.YtpjkdaechknogaaDoor
open Go Go.Pv
variable (g : Nat → Option (List AV)) (rnd : Bool)

theorem c_types_Right_z (t : Ty) (hw : wt t ≤ 1099511627776) (hres : g 0 = some reservedA) : Valid Tryd.prog (G0 g false) 33 [.agg (encTy t)] (.bool (rightT t)) := by

 refine valid_of [] Tryd.func33 rfl (by kernel_rfl) ?_
 refine AT_seq_region fun K1 hK1 => ?_
 simp [Tryd.f33]
 repeat refine sg ?_
 refine hK1 _ ?_
 clear hK1 K1
 refine AT_seq_k fun K2 hK2 => ?_
 refine AT_seq_region fun K3 hK3 => ?_
 simp
 repeat refine sg ?_
 refine RVn_call (c_types_Names g false t) ?_
 simp
 repeat refine sg ?_
 refine hK3 _ ?_
 clear hK3 K3
 refine AT_block ?_
 refine AT_keep [2,5] [2] (by first | rfl | simp) ?_
 refine AT_rangeFunc rfl rfl (by first | rfl | simp) (by first | decide | simp) [2] (by decide) (elP ((lst t).map AV.str)) (goN) (feedG goN [] ((lst t).map AV.str)) (fun Y hP hgo hel => ⟨_, by have h := c_types_Names_1 g Y hP t hw [] (elOk_P hel _ _ (by simp)); rw [feed_G, hgo] at h; exact h⟩) (fun s => { n := 10, tm := [(2, .lp 2 0), (5, .v (.func 72 [.ro (encTy t)]) none)], bx := [(2, [.bool false])], tb := [], sh := [], hint := [] }) (by first | rfl | simp) ?_ ?_
 ·
  intro s x hel
  obtain ⟨n, rfl, hn⟩ := elP_str hel
  refine AT_region_q fun K5 hK5 => ?_
  simp
  repeat refine sg ?_
  refine hK5 _ ?_
  clear hK5 K5
  try simp only [nrm, reduceIte, Nat.reduceEqDiff]
  refine AT_block ?_
  refine AT_seq_region fun K6 hK6 => ?_
  simp
  repeat refine sg ?_
  refine RVn_call (c_name_Is g true n (rightT_len hw n hn) hres) ?_
  simp
  repeat refine sg ?_
  refine hK6 _ ?_
  clear hK6 K6
  refine AT_cond (g := none) rfl (fun hb9 => ?_) (fun hb9 => ?_)
  ·
   try simp at hb9
   refine AT_seq_region fun K7 hK7 => ?_
   simp [hb9]
   repeat refine sg ?_
   refine hK7 _ ?_
   clear hK7 K7
   refine AT_ret ?_
   try simp only [nrm, reduceIte, Nat.reduceEqDiff]
   refine ⟨by simpa [goN] using hb9, by first | rfl | simp [tmOk], [2], by first | rfl | simp, ?_⟩
   refine AT_ret ?_
   simp [Tryd.f33]
   first
   | (simp [rightT, hfin]; done)
   | (have hz : rightT t = false := by rw [rightT, List.all_eq_false]; exact ⟨n, hn, by simp [hb9]⟩
      simp [hz, AS.out]; done)
   | skip
  ·
   try simp at hb9
   refine AT_skip ?_
   try simp only [nrm, reduceIte, Nat.reduceEqDiff]
   refine ⟨by simpa [goN] using hb9, by first | rfl | simp [tmOk], [2], by first | rfl | simp, ?_⟩
   simp [AS.out]
 ·
  intro hfin
  rw [feedG_goN] at hfin
  try simp only [nrm, reduceIte, Nat.reduceEqDiff]
  refine hK2 _ ?_
  refine AT_seq_region fun K8 hK8 => ?_
  simp
  repeat refine sg ?_
  refine hK8 _ ?_
  clear hK8 K8
  refine AT_ret ?_
  simp [Tryd.f33]
  first
  | (simp [rightT, hfin]; done)
  | (have hz : rightT t = false := by rw [rightT, List.all_eq_false]; exact ⟨n, hn, by simp [hb9]⟩
     simp [hz, AS.out]; done)
  | skip

theorem c_types_Right (t : Ty) (hw : wt t ≤ 1099511627776) (hres : g 0 = some reservedA) : Valid Tryd.prog (G0 g rnd) 33 [.agg (encTy t)] (.bool (rightT t)) := (c_types_Right_z g t hw hres).gl rfl

end Go.Proofs.YtpjkdaechknogaaDoor

/- Contracts: right expressions, by the iterator. -/
import Derived.Test.YtpjkdaechknogaaGreatDoorPt
import Derived.Test.YtpjkdaechknogaaGreatDoorPvPa
import Derived.Test.YtpjkdaechknogaaGreatDoorPvX
import Derived.Test.YtpjkdaechknogaaGreatDoorXExH
set_option linter.all false
set_option maxHeartbeats 1000000
set_option maxRecDepth 10000
namespace Go.Proofs.YtpjkdaechknogaaGreatDoor
open Go Go.Pv
variable (g : Nat → Option (List AV)) (rnd : Bool)

theorem c_expr_Right_z (e : Exp) (hw : wtE e ≤ 400000000) (hres : g 1 = some reservedA) : Valid Tryz.prog (G0 g false) 10 [.agg (encE e)] (.bool (rightE e)) := by

 refine valid_of [] Tryz.func10 rfl (by kernel_rfl) ?_
 refine AT_seq_region fun K1 hK1 => ?_
 simp [encE_mk, encTy_def, Tryz.f10]
 repeat refine sg ?_
 refine hK1 _ ?_
 clear hK1 K1
 refine AT_seq_k fun K2 hK2 => ?_
 refine AT_seq_region fun K3 hK3 => ?_
 simp [encE_mk, encTy_def, encE_mk, encTy_def]
 repeat refine sg ?_
 refine RVn_call (c_expr_All g false e) ?_
 simp [encE_mk, encTy_def, encE_mk, encTy_def]
 repeat refine sg ?_
 refine hK3 _ ?_
 clear hK3 K3
 refine AT_block ?_
 refine AT_keep [2,5] [2] (by first | rfl | simp) ?_
 refine AT_rangeFunc rfl rfl (by first | rfl | simp) (by first | decide | simp) [2] (by decide) (elP ((lstE e).map avE)) (goE shapeE) (feedG (goE shapeE) [] ((lstE e).map avE)) (fun Y hP hgo hel => ⟨_, by have h := c_expr_All_1 g Y hP e (by omega) [] (elOk_P hel _ _ (by simp)); rw [feed_G, hgo] at h; exact h⟩) (fun s => { n := 17, tm := [(2, .lp 2 0), (5, .v (.func 58 [.ro (encE e)]) none)], bx := [(2, [.bool false])], tb := [], sh := [], hint := [] }) (by first | rfl | simp) ?_ ?_
 ·
  intro s x hel
  obtain ⟨x, rfl, hn⟩ := elP_exp hel
  obtain ⟨kx, nx, tx, ax, lx, px⟩ := x
  refine AT_region_q fun K5 hK5 => ?_
  simp [encE_mk, encTy_def]
  repeat refine sg ?_
  refine hK5 _ ?_
  clear hK5 K5
  try simp only [nrm, reduceIte, Nat.reduceEqDiff]
  refine AT_block ?_
  refine AT_seq_region fun K6 hK6 => ?_
  simp [encE_mk, encTy_def]
  repeat refine sg ?_
  refine RVn_call (repeat_zero g true lx.length (by have h2 := lstE_mem_wt e _ hn; have h3 := wtEs_len lx; simp [wtE_mk] at h2; omega)) ?_
  simp [encE_mk, encTy_def]
  repeat refine sg ?_
  refine hK6 _ ?_
  clear hK6 K6
  refine AT_seq_region fun K7 hK7 => ?_
  simp [encE_mk, encTy_def]
  repeat refine sg ?_
  refine RVn_call ((by have h := c_expr_shape g true (.mk kx nx tx ax (List.replicate lx.length ex0) px) (by have h1 := wt_bareK (.mk kx nx tx ax lx px); have h2 := lstE_mem_wt e _ hn; simp only [bareK] at h1; omega) hres; have hs := shape_bareK (.mk kx nx tx ax lx px); simp only [bareK] at hs; rw [hs] at h; simp only [encE_mk, encTy_def, List.map_replicate, enc_ex0] at h; exact h)) ?_
  simp [encE_mk, encTy_def]
  repeat refine sg ?_
  refine hK7 _ ?_
  clear hK7 K7
  refine AT_cond (g := none) rfl (fun hb16 => ?_) (fun hb16 => ?_)
  ·
   try simp [encE_mk, encTy_def] at hb16
   refine AT_seq_region fun K8 hK8 => ?_
   simp [encE_mk, encTy_def, hb16]
   repeat refine sg ?_
   refine hK8 _ ?_
   clear hK8 K8
   refine AT_ret ?_
   try simp only [nrm, reduceIte, Nat.reduceEqDiff]
   refine ⟨by rw [goE_at]; simpa using hb16, by first | rfl | simp [tmOk], [2], by first | rfl | simp, ?_⟩
   refine AT_ret ?_
   simp [encE_mk, encTy_def, Tryz.f10]
   first
   | (simp [hfin]; done)
   | (have hz : rightE e = false := by rw [rightE_all, List.all_eq_false]; exact ⟨_, hn, by simpa using hb16⟩
      simp [hz, AS.out]; done)
   | skip
  ·
   try simp [encE_mk, encTy_def] at hb16
   refine AT_skip ?_
   try simp only [nrm, reduceIte, Nat.reduceEqDiff]
   refine ⟨by rw [goE_at]; simpa using hb16, by first | rfl | simp [tmOk], [2], by first | rfl | simp, ?_⟩
   simp [AS.out]
 ·
  intro hfin
  rw [feedG_goE, ← rightE_all] at hfin
  try simp only [nrm, reduceIte, Nat.reduceEqDiff]
  refine hK2 _ ?_
  refine AT_seq_region fun K9 hK9 => ?_
  simp [encE_mk, encTy_def]
  repeat refine sg ?_
  refine hK9 _ ?_
  clear hK9 K9
  refine AT_ret ?_
  simp [encE_mk, encTy_def, Tryz.f10]
  first
  | (simp [hfin]; done)
  | (have hz : rightE e = false := by rw [rightE_all, List.all_eq_false]; exact ⟨_, hn, by simpa using hb16⟩
     simp [hz, AS.out]; done)
  | skip

theorem c_expr_Right (e : Exp) (hw : wtE e ≤ 400000000) (hres : g 1 = some reservedA) : Valid Tryz.prog (G0 g rnd) 10 [.agg (encE e)] (.bool (rightE e)) := (c_expr_Right_z g e hw hres).gl rfl

end Go.Proofs.YtpjkdaechknogaaGreatDoor

import Derived.Test.YtjkabaejabibnaaDoorPt
import Derived.Test.YtjkabaejabibnaaDoorPvPa
import Derived.Test.YtjkabaejabibnaaDoorPvZ
import Derived.Test.YtjkabaejabibnaaDoorXExH
import Derived.Test.YtjkabaejabibnaaDoorXNaB
section
/- Contracts: right expressions, by the iterator. -/
set_option linter.all false
set_option maxHeartbeats 1000000
set_option maxRecDepth 10000
namespace Go.Proofs.YtjkabaejabibnaaDoor
open Go Go.Pv
variable (g : Nat → Option (List AV)) (rnd : Bool)

theorem c_expr_Right_z (e : Exp) (hw : wtE e ≤ 400000000) (hres : g 0 = some reservedA) : Valid Tryd.prog (G0 g false) 10 [.agg (encE e)] (.bool (rightE e)) := by

 refine valid_of [] Tryd.func10 rfl (by kernel_rfl) ?_
 refine AT_seq_region fun K1 hK1 => ?_
 simp [encE_mk, encTy_def, Tryd.f10]
 repeat refine sg ?_
 refine hK1 _ ?_
 clear hK1 K1
 refine AT_seq_k fun K2 hK2 => ?_
 refine AT_seq_region fun K3 hK3 => ?_
 simp [encE_mk, encTy_def, encE_mk, encTy_def]
 repeat refine sg ?_
 refine RVn_call (c_expr_All g false e) ?_
 simp [encE_mk, encTy_def, encE_mk, encTy_def]
 repeat refine sg ?_
 refine hK3 _ ?_
 clear hK3 K3
 refine AT_block ?_
 refine AT_keep [2,5] [2] (by first | rfl | simp) ?_
 refine AT_rangeFunc rfl rfl (by first | rfl | simp) (by first | decide | simp) [2] (by decide) (elP ((lstE e).map avE)) (goE shapeE) (feedG (goE shapeE) [] ((lstE e).map avE)) (fun Y hP hgo hel => ⟨_, by have h := c_expr_All_1 g Y hP e (by omega) [] (elOk_P hel _ _ (by simp)); rw [feed_G, hgo] at h; exact h⟩) (fun s => { n := 17, tm := [(2, .lp 2 0), (5, .v (.func 56 [.ro (encE e)]) none)], bx := [(2, [.bool false])], tb := [], sh := [], hint := [] }) (by first | rfl | simp) ?_ ?_
 ·
  intro s x hel
  obtain ⟨x, rfl, hn⟩ := elP_exp hel
  obtain ⟨kx, nx, tx, ax, lx, px⟩ := x
  refine AT_region_q fun K5 hK5 => ?_
  simp [encE_mk, encTy_def]
  repeat refine sg ?_
  refine hK5 _ ?_
  clear hK5 K5
  try simp only [nrm, reduceIte, Nat.reduceEqDiff]
  refine AT_block ?_
  refine AT_seq_region fun K6 hK6 => ?_
  simp [encE_mk, encTy_def]
  repeat refine sg ?_
  refine RVn_call (repeat_zero g true lx.length (by have h2 := lstE_mem_wt e _ hn; have h3 := wtEs_len lx; simp [wtE_mk] at h2; omega)) ?_
  simp [encE_mk, encTy_def]
  repeat refine sg ?_
  refine hK6 _ ?_
  clear hK6 K6
  refine AT_seq_region fun K7 hK7 => ?_
  simp [encE_mk, encTy_def]
  repeat refine sg ?_
  refine RVn_call ((by have h := c_expr_shape g true (.mk kx nx tx ax (List.replicate lx.length ex0) px) (by have h1 := wt_bareK (.mk kx nx tx ax lx px); have h2 := lstE_mem_wt e _ hn; simp only [bareK] at h1; omega) hres; have hs := shape_bareK (.mk kx nx tx ax lx px); simp only [bareK] at hs; rw [hs] at h; simp only [encE_mk, encTy_def, List.map_replicate, enc_ex0] at h; exact h)) ?_
  simp [encE_mk, encTy_def]
  repeat refine sg ?_
  refine hK7 _ ?_
  clear hK7 K7
  refine AT_cond (g := none) rfl (fun hb16 => ?_) (fun hb16 => ?_)
  ·
   try simp [encE_mk, encTy_def] at hb16
   refine AT_seq_region fun K8 hK8 => ?_
   simp [encE_mk, encTy_def, hb16]
   repeat refine sg ?_
   refine hK8 _ ?_
   clear hK8 K8
   refine AT_ret ?_
   try simp only [nrm, reduceIte, Nat.reduceEqDiff]
   refine ⟨by rw [goE_at]; simpa using hb16, by first | rfl | simp [tmOk], [2], by first | rfl | simp, ?_⟩
   refine AT_ret ?_
   simp [encE_mk, encTy_def, Tryd.f10]
   first
   | (simp [hfin]; done)
   | (have hz : rightE e = false := by rw [rightE_all, List.all_eq_false]; exact ⟨_, hn, by simpa using hb16⟩
      simp [hz, AS.out]; done)
   | skip
  ·
   try simp [encE_mk, encTy_def] at hb16
   refine AT_skip ?_
   try simp only [nrm, reduceIte, Nat.reduceEqDiff]
   refine ⟨by rw [goE_at]; simpa using hb16, by first | rfl | simp [tmOk], [2], by first | rfl | simp, ?_⟩
   simp [AS.out]
 ·
  intro hfin
  rw [feedG_goE, ← rightE_all] at hfin
  try simp only [nrm, reduceIte, Nat.reduceEqDiff]
  refine hK2 _ ?_
  refine AT_seq_region fun K9 hK9 => ?_
  simp [encE_mk, encTy_def]
  repeat refine sg ?_
  refine hK9 _ ?_
  clear hK9 K9
  refine AT_ret ?_
  simp [encE_mk, encTy_def, Tryd.f10]
  first
  | (simp [hfin]; done)
  | (have hz : rightE e = false := by rw [rightE_all, List.all_eq_false]; exact ⟨_, hn, by simpa using hb16⟩
     simp [hz, AS.out]; done)
  | skip

theorem c_expr_Right (e : Exp) (hw : wtE e ≤ 400000000) (hres : g 0 = some reservedA) : Valid Tryd.prog (G0 g rnd) 10 [.agg (encE e)] (.bool (rightE e)) := (c_expr_Right_z g e hw hres).gl rfl

end Go.Proofs.YtjkabaejabibnaaDoor
end

section
/- Contracts. -/
set_option linter.all false
set_option maxHeartbeats 1000000
set_option maxRecDepth 10000
namespace Go.Proofs.YtjkabaejabibnaaDoor
open Go Go.Pv
variable (g : Nat → Option (List AV)) (rnd : Bool)

theorem c_types_All (l : List Ty) (ns as_ : List (List AV)) (res : Ty → Ty) (hl : l.length ≤ 1099511627776) (hs : ∀ t ∈ l, Valid Tryd.prog (G0 g rnd) 50 [.agg (encTy t), .slice ns, .slice as_] (.agg (encTy (res t)))) : Valid Tryd.prog (G0 g rnd) 51 [.slice (l.map encTy), .slice ns, .slice as_] (.slice ((l.map res).map encTy)) := by

 refine valid_of [(7, 24)] Tryd.func51 rfl (by kernel_rfl) ?_
 refine AT_seq_region fun K1 hK1 => ?_
 simp [row_map, Tryd.f51]
 repeat refine sg ?_
 refine hK1 _ ?_
 clear hK1 K1
 refine AT_seq_region fun K2 hK2 => ?_
 simp [row_map]
 repeat refine sg ?_
 refine hK2 _ ?_
 clear hK2 K2
 refine AT_seq_k fun K3 hK3 => ?_
 refine AT_seq_region fun K4 hK4 => ?_
 simp [row_map]
 repeat refine sg ?_
 refine hK4 _ ?_
 clear hK4 K4
 refine AT_block ?_
 refine AT_loop_q [1,2,7,10,11,12] [] (fun j s => ∃ k, k ≤ l.length ∧ j = l.length - k ∧ s = { n := 25, tm := [(1, .v (.slice ns) none), (2, .v (.slice as_) none), (7, .v (.slice (((l.take k).map res).map encTy)) (some (7, 24))), (10, .v (.slice (l.map encTy)) none), (11, .v (.int .i64 l.length) none), (12, .v (.int .i64 k) none)], bx := [], tb := [], sh := [], hint := [(7, 24)] }) (l.length) (by first | rfl | simp) ?_ ?_
 ·
  exact ⟨0, by simp⟩
 ·
  rintro j s ⟨k, hk, rfl, rfl⟩ K5 hK5
  refine AT_seq_region fun K6 hK6 => ?_
  simp [row_map]
  repeat refine sg ?_
  refine hK6 _ ?_
  clear hK6 K6
  refine AT_seq_k fun K7 hK7 => ?_
  refine AT_cond (g := none) rfl (fun hb13 => ?_) (fun hb13 => ?_)
  ·
   try simp [row_map] at hb13
   refine AT_skip ?_
   try simp only [nrm, reduceIte, Nat.reduceEqDiff]
   refine hK7 _ ?_
   refine AT_seq_k fun K8 hK8 => ?_
   refine AT_block ?_
   refine AT_seq_region fun K9 hK9 => ?_
   simp [row_map, hb13]
   repeat refine sg ?_
   refine hK9 _ ?_
   clear hK9 K9
   refine AT_region_q fun K10 hK10 => ?_
   simp [row_map, hb13]
   repeat refine sg ?_
   refine RVn_call (hs l[k] (by simp)) ?_
   simp [row_map, hb13]
   repeat refine sg ?_
   refine hK10 _ ?_
   clear hK10 K10
   try simp only [nrm, reduceIte, Nat.reduceEqDiff]
   refine hK8 _ ?_
   refine AT_region_q fun K11 hK11 => ?_
   simp [row_map, hb13]
   repeat refine sg ?_
   refine hK11 _ ?_
   clear hK11 K11
   try simp only [nrm, reduceIte, Nat.reduceEqDiff]
   refine hK5 _ (by first | rfl | simp) (l.length - (k+1)) (by omega) ?_
   have hs2 := take_map_succ (encTy ∘ res) l k hb13
   exact ⟨k+1, by omega, by omega, by simp [hs2]⟩
  ·
   try simp [row_map] at hb13
   refine AT_exit ?_
   try simp only [nrm, reduceIte, Nat.reduceEqDiff]
   refine hK3 _ ?_
   refine AT_seq_region fun K12 hK12 => ?_
   simp [row_map, hb13]
   repeat refine sg ?_
   refine hK12 _ ?_
   clear hK12 K12
   refine AT_ret ?_
   simp [row_map, Tryd.f51]
   rw [List.take_of_length_le (by simpa using hb13)]

theorem c_ref04x_All (l : List Ty) (ns as_ : List (List AV)) (res : Ty → Ty) (hl : l.length ≤ 1099511627776) (hs : ∀ t ∈ l, Valid Tryd.prog (G0 g rnd) 52 [.agg (encTy t), .slice ns, .slice as_] (.agg (encTy (res t)))) : Valid Tryd.prog (G0 g rnd) 53 [.slice (l.map encTy), .slice ns, .slice as_] (.slice ((l.map res).map encTy)) := by

 refine valid_of [(7, 24)] Tryd.func53 rfl (by kernel_rfl) ?_
 refine AT_seq_region fun K1 hK1 => ?_
 simp [row_map, Tryd.f53]
 repeat refine sg ?_
 refine hK1 _ ?_
 clear hK1 K1
 refine AT_seq_region fun K2 hK2 => ?_
 simp [row_map]
 repeat refine sg ?_
 refine hK2 _ ?_
 clear hK2 K2
 refine AT_seq_k fun K3 hK3 => ?_
 refine AT_seq_region fun K4 hK4 => ?_
 simp [row_map]
 repeat refine sg ?_
 refine hK4 _ ?_
 clear hK4 K4
 refine AT_block ?_
 refine AT_loop_q [0,1,2,7,8] [] (fun j s => ∃ k, k ≤ l.length ∧ j = l.length - k ∧ s = { n := 26, tm := [(0, .v (.slice (l.map encTy)) none), (1, .v (.slice ns) none), (2, .v (.slice as_) none), (7, .v (.slice (((l.take k).map res).map encTy)) (some (7, 24))), (8, .v (.int .i64 k) none)], bx := [], tb := [], sh := [], hint := [(7, 24)] }) (l.length) (by first | rfl | simp) ?_ ?_
 ·
  exact ⟨0, by simp⟩
 ·
  rintro j s ⟨k, hk, rfl, rfl⟩ K5 hK5
  refine AT_seq_k fun K6 hK6 => ?_
  refine AT_seq_region fun K7 hK7 => ?_
  simp [row_map]
  repeat refine sg ?_
  refine hK7 _ ?_
  clear hK7 K7
  refine AT_cond (g := none) rfl (fun hb12 => ?_) (fun hb12 => ?_)
  ·
   try simp [row_map] at hb12
   refine AT_skip ?_
   try simp only [nrm, reduceIte, Nat.reduceEqDiff]
   refine hK6 _ ?_
   refine AT_seq_k fun K8 hK8 => ?_
   refine AT_block ?_
   refine AT_region_q fun K9 hK9 => ?_
   simp [row_map, hb12]
   repeat refine sg ?_
   refine RVn_call (hs l[k] (by simp)) ?_
   simp [row_map, hb12]
   repeat refine sg ?_
   refine hK9 _ ?_
   clear hK9 K9
   try simp only [nrm, reduceIte, Nat.reduceEqDiff]
   refine hK8 _ ?_
   refine AT_region_q fun K10 hK10 => ?_
   simp [row_map, hb12]
   repeat refine sg ?_
   refine hK10 _ ?_
   clear hK10 K10
   try simp only [nrm, reduceIte, Nat.reduceEqDiff]
   refine hK5 _ (by first | rfl | simp) (l.length - (k+1)) (by omega) ?_
   have hs2 := take_map_succ (encTy ∘ res) l k hb12
   exact ⟨k+1, by omega, by omega, by simp [hs2]⟩
  ·
   try simp [row_map] at hb12
   refine AT_exit ?_
   try simp only [nrm, reduceIte, Nat.reduceEqDiff]
   refine hK3 _ ?_
   refine AT_seq_region fun K11 hK11 => ?_
   simp [row_map, hb12]
   repeat refine sg ?_
   refine hK11 _ ?_
   clear hK11 K11
   refine AT_ret ?_
   simp [row_map, Tryd.f53]
   rw [List.take_of_length_le (by simpa using hb12)]

end Go.Proofs.YtjkabaejabibnaaDoor
end

section
/- Contracts. -/
set_option linter.all false
set_option maxHeartbeats 1000000
set_option maxRecDepth 10000
namespace Go.Proofs.YtjkabaejabibnaaDoor
open Go Go.Pv
variable (g : Nat → Option (List AV)) (rnd : Bool)

theorem c_types_Subst_n : ∀ t : Ty, wt t ≤ 1099511627776 → Valid Tryd.prog (G0 g rnd) 50 [.agg (encTy t), .slice [], .slice []] (.agg (encTy t)) := by
 intro t
 induction t using Ty.ind with
 | h n ts p ih =>
 intro hw
 have hw2 : n.length + 1 + wts ts ≤ 1099511627776 := by simpa [wt] using hw
 have hln := wts_len ts
 refine valid_of [] Tryd.func50 rfl (by kernel_rfl) ?_
 refine AT_seq_region fun K1 hK1 => ?_
 simp [row_map, encTy_mk, Tryd.f50]
 repeat refine sg ?_
 refine hK1 _ ?_
 clear hK1 K1
 refine AT_seq_k fun K2 hK2 => ?_
 refine AT_seq_region fun K3 hK3 => ?_
 simp [row_map, encTy_mk]
 repeat refine sg ?_
 refine RVn_call ((by simpa [idxF] using c_slices_Index_string_string g rnd [] n (by simp) : Valid Tryd.prog (G0 g rnd) 55 [.slice [], .str n] (.int .i64 (-1)))) ?_
 simp [row_map, encTy_mk]
 repeat refine sg ?_
 refine hK3 _ ?_
 clear hK3 K3
 by_cases h0 : ts = []
 ·
  have h0b : ((ts.length : Int) == 0) = true := by simpa using h0
  refine AT_seq_region fun K4 hK4 => ?_
  simp [row_map, encTy_mk, h0b]
  repeat refine sg ?_
  refine hK4 _ ?_
  clear hK4 K4
  refine AT_cond (b := false) (g := none) (by simp [h0b]) (fun hb => ?_) (fun hb => ?_)
  ·
   cases hb
  ·
   clear hb
   refine AT_skip ?_
   try simp only [nrm, reduceIte, Nat.reduceEqDiff]
   refine hK2 _ ?_
   refine AT_seq_region fun K5 hK5 => ?_
   simp [row_map, encTy_mk, h0b]
   repeat refine sg ?_
   refine RVn_call ((by simpa using c_types_All g rnd ts [] [] id (by omega) (fun t ht => ih t ht (Nat.le_trans (wts_mem ht) (by omega))) : Valid Tryd.prog (G0 g rnd) 51 [.slice (ts.map encTy), .slice [], .slice []] (.slice (ts.map encTy)))) ?_
   simp [row_map, encTy_mk, h0b]
   repeat refine sg ?_
   refine hK5 _ ?_
   clear hK5 K5
   refine AT_seq_region fun K6 hK6 => ?_
   simp [row_map, encTy_mk, h0b]
   repeat refine sg ?_
   refine hK6 _ ?_
   clear hK6 K6
   refine AT_ret ?_
   simp [row_map, encTy_mk, Tryd.f50]
 ·
  have h0b : ((ts.length : Int) == 0) = false := by simpa using h0
  refine AT_seq_region fun K7 hK7 => ?_
  simp [row_map, encTy_mk, h0b]
  repeat refine sg ?_
  refine hK7 _ ?_
  clear hK7 K7
  refine AT_cond (b := false) (g := none) (by simp [h0b]) (fun hb => ?_) (fun hb => ?_)
  ·
   cases hb
  ·
   clear hb
   refine AT_skip ?_
   try simp only [nrm, reduceIte, Nat.reduceEqDiff]
   refine hK2 _ ?_
   refine AT_seq_region fun K8 hK8 => ?_
   simp [row_map, encTy_mk, h0b]
   repeat refine sg ?_
   refine RVn_call ((by simpa using c_types_All g rnd ts [] [] id (by omega) (fun t ht => ih t ht (Nat.le_trans (wts_mem ht) (by omega))) : Valid Tryd.prog (G0 g rnd) 51 [.slice (ts.map encTy), .slice [], .slice []] (.slice (ts.map encTy)))) ?_
   simp [row_map, encTy_mk, h0b]
   repeat refine sg ?_
   refine hK8 _ ?_
   clear hK8 K8
   refine AT_seq_region fun K9 hK9 => ?_
   simp [row_map, encTy_mk, h0b]
   repeat refine sg ?_
   refine hK9 _ ?_
   clear hK9 K9
   refine AT_ret ?_
   simp [row_map, encTy_mk, Tryd.f50]

theorem c_types_Clone (t : Ty) (hw : wt t ≤ 1099511627776) : Valid Tryd.prog (G0 g rnd) 69 [.agg (encTy t)] (.agg (encTy t)) := by

 refine valid_of [] Tryd.func69 rfl (by kernel_rfl) ?_
 refine AT_seq_region fun K1 hK1 => ?_
 simp [Tryd.f69]
 repeat refine sg ?_
 refine hK1 _ ?_
 clear hK1 K1
 refine AT_seq_region fun K2 hK2 => ?_
 simp
 repeat refine sg ?_
 refine RVn_call (c_types_Subst_n g rnd t hw) ?_
 simp
 repeat refine sg ?_
 refine hK2 _ ?_
 clear hK2 K2
 refine AT_ret ?_
 simp [Tryd.f69]

end Go.Proofs.YtjkabaejabibnaaDoor
end

import Derived.Test.YtpjkdaechknogaaGreatDoorPt
import Derived.Test.YtpjkdaechknogaaGreatDoorPvPa
import Derived.Test.YtpjkdaechknogaaGreatDoorPvX
import Derived.Test.YtpjkdaechknogaaGreatDoorXTyO
import Derived.Test.YtpjkdaechknogaaGreatDoorXNaC
import Derived.Test.YtpjkdaechknogaaGreatDoorXRdE
import Derived.Test.YtpjkdaechknogaaGreatDoorXLxE
import Derived.Test.YtpjkdaechknogaaGreatDoorXExA
import Derived.Test.YtpjkdaechknogaaGreatDoorXNaB
import Derived.Test.YtpjkdaechknogaaGreatDoorPvRg
section
/- Contracts. -/
set_option linter.all false
set_option maxHeartbeats 1000000
set_option maxRecDepth 10000
namespace Go.Proofs.YtpjkdaechknogaaGreatDoor
open Go Go.Pv
variable (g : Nat → Option (List AV)) (rnd : Bool)

theorem c_types_visit_1 (Y : Ys) (hP : Y.P = Tryz.prog) (t : Ty) (s : List AV) (r : Bool) (ys : List AV × Bool) (hv : ValidY Tryz.prog (G1 g Y) Y 95 [.agg (encTy t), .yld Y.l] (s, true) (.bool r) ys) : ValidY Tryz.prog (G1 g Y) Y 101 [.agg (encTy t), .ro [.yld Y.l]] (s, true) (.bool (!r)) ys := by

 refine validY_of [(200002, 0)] Tryz.func101 rfl (by kernel_rfl) rfl hP ?_
 refine AT_seq_region fun K1 hK1 => ?_
 simp [Tryz.f101]
 repeat refine sg ?_
 refine hK1 _ ?_
 clear hK1 K1
 refine AT_seq_region fun K2 hK2 => ?_
 simp
 repeat refine sg ?_
 refine RVn_callY rfl (by simp) (hv) ?_
 simp
 repeat refine sg ?_
 refine hK2 _ ?_
 clear hK2 K2
 refine AT_ret ?_
 simp [Tryz.f101]

theorem c_types_visit (Y : Ys) (hP : Y.P = Tryz.prog) : ∀ t : Ty, wt t ≤ 1099511627776 → ∀ s : List AV, elOk Y s ((lst t).map AV.str) → ValidY Tryz.prog (G1 g Y) Y 95 [.agg (encTy t), .yld Y.l] (s, true) (.bool (feed Y s ((lst t).map AV.str)).2) (feed Y s ((lst t).map AV.str)) := by
 intro t
 induction t using Ty.ind with
 | h n ts p ih =>
 intro hw
 have hw2 : n.length + 1 + wts ts ≤ 1099511627776 := by simpa [wt] using hw
 have hln := wts_len ts
 intro s he
 have hfl : (lsts ts).map AV.str = ts.flatMap (fun t => (lst t).map AV.str) := by rw [lsts_flat, List.map_flatten, List.map_map, List.flatMap_def]; rfl
 have hlst : (lst (.mk n ts p)).map AV.str = .str n :: ts.flatMap (fun t => (lst t).map AV.str) := by simp [lst, hfl]
 rw [hlst] at he ⊢
 have he1 : Y.el s (.str n) := he.1
 refine validY_of [(200002, 0), (200003, 0)] Tryz.func95 rfl (by kernel_rfl) rfl hP ?_
 refine AT_seq_region fun K1 hK1 => ?_
 simp [row_map, encTy_mk, Tryz.f95]
 repeat refine sg ?_
 refine hK1 _ ?_
 clear hK1 K1
 refine AT_seq_k fun K2 hK2 => ?_
 cases hgo : Y.go s (.str n)
 ·
  refine AT_seq_region fun K3 hK3 => ?_
  simp [row_map, encTy_mk, hgo]
  repeat refine sg ?_
  refine RVn_yld rfl rfl (by simp) rfl (he1) ?_
  simp [row_map, encTy_mk, hgo]
  repeat refine sg ?_
  refine hK3 _ ?_
  clear hK3 K3
  refine AT_cond (b := true) (g := none) (by simp [hgo]) (fun hb => ?_) (fun hb => ?_)
  ·
   clear hb
   refine AT_seq_region fun K4 hK4 => ?_
   simp [row_map, encTy_mk, hgo]
   repeat refine sg ?_
   refine hK4 _ ?_
   clear hK4 K4
   refine AT_ret ?_
   simp [row_map, encTy_mk, Tryz.f95]
   simp [feed, hgo]
  ·
   cases hb
 ·
  refine AT_seq_region fun K5 hK5 => ?_
  simp [row_map, encTy_mk, hgo]
  repeat refine sg ?_
  refine RVn_yld rfl rfl (by simp) rfl (he1) ?_
  simp [row_map, encTy_mk, hgo]
  repeat refine sg ?_
  refine hK5 _ ?_
  clear hK5 K5
  refine AT_cond (b := false) (g := none) (by simp [hgo]) (fun hb => ?_) (fun hb => ?_)
  ·
   cases hb
  ·
   clear hb
   refine AT_skip ?_
   try simp only [nrm, reduceIte, Nat.reduceEqDiff]
   refine hK2 _ ?_
   refine AT_seq_region fun K6 hK6 => ?_
   simp [row_map, encTy_mk, hgo]
   repeat refine sg ?_
   refine hK6 _ ?_
   clear hK6 K6
   refine AT_seq_region fun K7 hK7 => ?_
   simp [row_map, encTy_mk, hgo]
   repeat refine sg ?_
   refine RVn_callY rfl (by simp) (c_slices_ContainsFunc_api_Type_api_Type g Y hP (fun t => (lst t).map AV.str) [.ro [.yld Y.l]] ts (s ++ [.str n]) (by omega) (he.2 hgo) (fun a ha s2 hs2 => c_types_visit_1 g Y hP a s2 _ _ (ih a ha (Nat.le_trans (wts_mem ha) (by omega)) s2 hs2))) ?_
   simp [row_map, encTy_mk, hgo]
   repeat refine sg ?_
   refine hK7 _ ?_
   clear hK7 K7
   refine AT_ret ?_
   simp [row_map, encTy_mk, Tryz.f95]
   simp [feed, hgo]

theorem c_types_Names_1 (Y : Ys) (hP : Y.P = Tryz.prog) (t : Ty) (hw : wt t ≤ 1099511627776) (s : List AV) (he : elOk Y s ((lst t).map AV.str)) : ValidY Tryz.prog (G1 g Y) Y 94 [.yld Y.l, .ro (encTy t)] (s, true) (.tup []) (feed Y s ((lst t).map AV.str)) := by

 refine validY_of [] Tryz.func94 rfl (by kernel_rfl) rfl hP ?_
 refine AT_region_q fun K1 hK1 => ?_
 simp [Tryz.f94]
 repeat refine sg ?_
 refine RVn_callY rfl (by simp) (c_types_visit g Y hP t hw s he) ?_
 simp
 repeat refine sg ?_
 refine hK1 _ ?_
 clear hK1 K1
 try simp only [nrm, reduceIte, Nat.reduceEqDiff]
 simp [Tryz.f94]

theorem c_types_Names (t : Ty) : Valid Tryz.prog (G0 g rnd) 84 [.agg (encTy t)] (.func 94 [.ro (encTy t)]) := by

 refine valid_of [(200001, 0)] Tryz.func84 rfl (by kernel_rfl) ?_
 refine AT_seq_region fun K1 hK1 => ?_
 simp [Tryz.f84]
 repeat refine sg ?_
 refine hK1 _ ?_
 clear hK1 K1
 refine AT_seq_region fun K2 hK2 => ?_
 simp
 repeat refine sg ?_
 refine hK2 _ ?_
 clear hK2 K2
 refine AT_ret ?_
 simp [Tryz.f84]

theorem rightT_len {t : Ty} (hw : wt t ≤ 1099511627776) : ∀ s ∈ lst t, s.length ≤ 1099511627776 := fun s hs => Nat.le_trans (Nat.le_of_lt (lst_mem_wt t s hs)) hw

theorem c_ref04x_Right (t : Ty) (hw : wt t ≤ 1099511627776) : Valid Tryz.prog (G0 g rnd) 26 [.agg (encTy t)] (.bool (rightT t)) := by

 refine valid_of [] Tryz.func26 rfl (by kernel_rfl) ?_
 refine AT_seq_region fun K1 hK1 => ?_
 simp [row_map, Tryz.f26]
 repeat refine sg ?_
 refine hK1 _ ?_
 clear hK1 K1
 refine AT_seq_region fun K2 hK2 => ?_
 have hll := lst_wt t
 simp [row_map]
 repeat refine sg ?_
 refine RVn_call (c_ref04x_List g rnd t hw) ?_
 simp [row_map]
 repeat refine sg ?_
 refine hK2 _ ?_
 clear hK2 K2
 refine AT_seq_k fun K3 hK3 => ?_
 refine AT_seq_region fun K4 hK4 => ?_
 simp [row_map]
 repeat refine sg ?_
 refine hK4 _ ?_
 clear hK4 K4
 refine AT_block ?_
 refine AT_loop_q [3,4] [] (fun j s => ∃ k, k ≤ (lst t).length ∧ rightT t = ((lst t).drop k).all isName ∧ j = (lst t).length - k ∧ s = { n := 19, tm := [(3, .v (.slice ((lst t).map encS)) none), (4, .v (.int .i64 k) none)], bx := [], tb := [], sh := [], hint := [] }) ((lst t).length) (by first | rfl | simp) ?_ ?_
 ·
  exact ⟨0, by simp [rightT]⟩
 ·
  rintro j s ⟨k, hk, hc, rfl, rfl⟩ K5 hK5
  refine AT_seq_k fun K6 hK6 => ?_
  refine AT_seq_region fun K7 hK7 => ?_
  have hll := lst_wt t
  simp [row_map]
  repeat refine sg ?_
  refine hK7 _ ?_
  clear hK7 K7
  refine AT_cond (g := none) rfl (fun hb10 => ?_) (fun hb10 => ?_)
  ·
   try simp [row_map] at hb10
   refine AT_skip ?_
   try simp only [nrm, reduceIte, Nat.reduceEqDiff]
   refine hK6 _ ?_
   refine AT_seq_k fun K8 hK8 => ?_
   refine AT_block ?_
   refine AT_seq_region fun K9 hK9 => ?_
   have hda := List.drop_eq_getElem_cons hb10
   simp [row_map, hb10]
   repeat refine sg ?_
   refine RVn_call (c_ref01x_Is g rnd _ (rightT_len hw _ (by simp))) ?_
   simp [row_map, hb10]
   repeat refine sg ?_
   refine hK9 _ ?_
   clear hK9 K9
   refine AT_cond (g := none) rfl (fun hb18 => ?_) (fun hb18 => ?_)
   ·
    try simp [row_map, hb10] at hb18
    refine AT_seq_region fun K10 hK10 => ?_
    simp [row_map, hb10]
    repeat refine sg ?_
    refine hK10 _ ?_
    clear hK10 K10
    refine AT_ret ?_
    simp [row_map, Tryz.f26]
    first
    | (rw [hc, hda, List.all_cons, hb18]; rfl)
    | (rw [hc, List.drop_eq_nil_of_le hb10]; rfl)
   ·
    try simp [row_map, hb10] at hb18
    refine AT_skip ?_
    try simp only [nrm, reduceIte, Nat.reduceEqDiff]
    refine hK8 _ ?_
    refine AT_region_q fun K11 hK11 => ?_
    simp [row_map, hb10]
    repeat refine sg ?_
    refine hK11 _ ?_
    clear hK11 K11
    try simp only [nrm, reduceIte, Nat.reduceEqDiff]
    refine hK5 _ (by first | rfl | simp) ((lst t).length - (k+1)) (by omega) ?_
    refine ⟨k+1, by omega, ?_, by omega, by simp⟩
    rw [hc, hda, List.all_cons, hb18, Bool.true_and]
  ·
   try simp [row_map] at hb10
   refine AT_exit ?_
   try simp only [nrm, reduceIte, Nat.reduceEqDiff]
   refine hK3 _ ?_
   refine AT_seq_region fun K12 hK12 => ?_
   simp [row_map, hb10]
   repeat refine sg ?_
   refine hK12 _ ?_
   clear hK12 K12
   refine AT_ret ?_
   simp [row_map, Tryz.f26]
   first
   | (rw [hc, hda, List.all_cons, hb18]; rfl)
   | (rw [hc, List.drop_eq_nil_of_le hb10]; rfl)

end Go.Proofs.YtpjkdaechknogaaGreatDoor
end

section
/- Contracts. -/
set_option linter.all false
set_option maxHeartbeats 1000000
set_option maxRecDepth 10000
namespace Go.Proofs.YtpjkdaechknogaaGreatDoor
open Go Go.Pv
variable (g : Nat → Option (List AV)) (rnd : Bool)

theorem c_types_Right_z (t : Ty) (hw : wt t ≤ 1099511627776) (hres : g 1 = some reservedA) : Valid Tryz.prog (G0 g false) 63 [.agg (encTy t)] (.bool (rightT t)) := by

 refine valid_of [] Tryz.func63 rfl (by kernel_rfl) ?_
 refine AT_seq_region fun K1 hK1 => ?_
 simp [Tryz.f63]
 repeat refine sg ?_
 refine hK1 _ ?_
 clear hK1 K1
 refine AT_seq_k fun K2 hK2 => ?_
 refine AT_seq_region fun K3 hK3 => ?_
 simp
 repeat refine sg ?_
 refine RVn_call (c_types_Names g false t) ?_
 simp
 repeat refine sg ?_
 refine hK3 _ ?_
 clear hK3 K3
 refine AT_block ?_
 refine AT_keep [2,5] [2] (by first | rfl | simp) ?_
 refine AT_rangeFunc rfl rfl (by first | rfl | simp) (by first | decide | simp) [2] (by decide) (elP ((lst t).map AV.str)) (goN) (feedG goN [] ((lst t).map AV.str)) (fun Y hP hgo hel => ⟨_, by have h := c_types_Names_1 g Y hP t hw [] (elOk_P hel _ _ (by simp)); rw [feed_G, hgo] at h; exact h⟩) (fun s => { n := 10, tm := [(2, .lp 2 0), (5, .v (.func 94 [.ro (encTy t)]) none)], bx := [(2, [.bool false])], tb := [], sh := [], hint := [] }) (by first | rfl | simp) ?_ ?_
 ·
  intro s x hel
  obtain ⟨n, rfl, hn⟩ := elP_str hel
  refine AT_region_q fun K5 hK5 => ?_
  simp
  repeat refine sg ?_
  refine hK5 _ ?_
  clear hK5 K5
  try simp only [nrm, reduceIte, Nat.reduceEqDiff]
  refine AT_block ?_
  refine AT_seq_region fun K6 hK6 => ?_
  simp
  repeat refine sg ?_
  refine RVn_call (c_name_Is g true n (rightT_len hw n hn) hres) ?_
  simp
  repeat refine sg ?_
  refine hK6 _ ?_
  clear hK6 K6
  refine AT_cond (g := none) rfl (fun hb9 => ?_) (fun hb9 => ?_)
  ·
   try simp at hb9
   refine AT_seq_region fun K7 hK7 => ?_
   simp [hb9]
   repeat refine sg ?_
   refine hK7 _ ?_
   clear hK7 K7
   refine AT_ret ?_
   try simp only [nrm, reduceIte, Nat.reduceEqDiff]
   refine ⟨by simpa [goN] using hb9, by first | rfl | simp [tmOk], [2], by first | rfl | simp, ?_⟩
   refine AT_ret ?_
   simp [Tryz.f63]
   first
   | (simp [rightT, hfin]; done)
   | (have hz : rightT t = false := by rw [rightT, List.all_eq_false]; exact ⟨n, hn, by simp [hb9]⟩
      simp [hz, AS.out]; done)
   | skip
  ·
   try simp at hb9
   refine AT_skip ?_
   try simp only [nrm, reduceIte, Nat.reduceEqDiff]
   refine ⟨by simpa [goN] using hb9, by first | rfl | simp [tmOk], [2], by first | rfl | simp, ?_⟩
   simp [AS.out]
 ·
  intro hfin
  rw [feedG_goN] at hfin
  try simp only [nrm, reduceIte, Nat.reduceEqDiff]
  refine hK2 _ ?_
  refine AT_seq_region fun K8 hK8 => ?_
  simp
  repeat refine sg ?_
  refine hK8 _ ?_
  clear hK8 K8
  refine AT_ret ?_
  simp [Tryz.f63]
  first
  | (simp [rightT, hfin]; done)
  | (have hz : rightT t = false := by rw [rightT, List.all_eq_false]; exact ⟨n, hn, by simp [hb9]⟩
     simp [hz, AS.out]; done)
  | skip

theorem c_types_Right (t : Ty) (hw : wt t ≤ 1099511627776) (hres : g 1 = some reservedA) : Valid Tryz.prog (G0 g rnd) 63 [.agg (encTy t)] (.bool (rightT t)) := (c_types_Right_z g t hw hres).gl rfl

end Go.Proofs.YtpjkdaechknogaaGreatDoor
end

section
/- Contracts: whole texts, errors, what every law of reading asks first. -/
set_option linter.all false
set_option maxHeartbeats 1000000
set_option maxRecDepth 10000
namespace Go.Proofs.YtpjkdaechknogaaGreatDoor
open Go Go.Pv
variable (g : Nat → Option (List AV)) (rnd : Bool)

theorem c_ref07x_Begin (s : Str) (hs : s.length ≤ 1000000) : Valid Tryz.prog (G0 g false) 20 [.str s] (match lexT s with | (none, m) => .tup [.agg (encP [] ⟨0, false⟩), .int .i64 1, .int .i64 m] | (some l, _) => .tup [.agg (encP l ⟨0, false⟩), .int .i64 0, .int .i64 0]) := by

 refine valid_of [] Tryz.func20 rfl (by kernel_rfl) ?_
 refine AT_seq_region fun K1 hK1 => ?_
 simp [encP, lexR, Tryz.f20]
 repeat refine sg ?_
 refine hK1 _ ?_
 clear hK1 K1
 rcases hx : lexT s with ⟨_ | l, m⟩
 ·
  refine AT_seq_region fun K2 hK2 => ?_
  simp [encP, lexR]
  repeat refine sg ?_
  refine RVn_call ((by have h := c_ref03x_Tokens g false s (by omega); rw [hx] at h; exact h)) ?_
  simp [encP, lexR]
  repeat refine sg ?_
  refine hK2 _ ?_
  clear hK2 K2
  refine AT_seq_k fun K3 hK3 => ?_
  refine AT_seq_region fun K4 hK4 => ?_
  simp [encP, lexR]
  repeat refine sg ?_
  refine hK4 _ ?_
  clear hK4 K4
  refine AT_cond (b := true) (g := none) (by simp) (fun hb => ?_) (fun hb => ?_)
  ·
   clear hb
   refine AT_seq_draw_m false [(2, 2), (5, 5), (12, 5)] Pt.mixed (by kernel_rfl) ⟨by simp [Im, okP, AS.get, look, TV.strip], fun h => by cases h⟩ fun K5 hK5 => ?_
   simp [encP, lexR]
   repeat refine sg ?_
   refine hK5 _ ?_
   clear hK5 K5
   refine AT_ret ?_
   simp [encP, lexR, Tryz.f20]
  ·
   cases hb
 ·
  refine AT_seq_region fun K6 hK6 => ?_
  simp [encP, lexR]
  repeat refine sg ?_
  refine RVn_call ((by have h := c_ref03x_Tokens g false s (by omega); rw [hx] at h; exact h)) ?_
  simp [encP, lexR]
  repeat refine sg ?_
  refine hK6 _ ?_
  clear hK6 K6
  refine AT_seq_k fun K7 hK7 => ?_
  refine AT_seq_region fun K8 hK8 => ?_
  simp [encP, lexR]
  repeat refine sg ?_
  refine hK8 _ ?_
  clear hK8 K8
  refine AT_cond (b := false) (g := none) (by simp) (fun hb => ?_) (fun hb => ?_)
  ·
   cases hb
  ·
   clear hb
   refine AT_skip ?_
   try simp only [nrm, reduceIte, Nat.reduceEqDiff]
   refine hK7 _ ?_
   refine AT_seq_region fun K9 hK9 => ?_
   simp [encP, lexR]
   repeat refine sg ?_
   refine hK9 _ ?_
   clear hK9 K9
   refine AT_ret ?_
   simp [encP, lexR, Tryz.f20]

theorem c_law07x_told_0 (at_ : Int) : Valid Tryz.prog (G0 g false) 8 [.nilIface, .int .i64 0, .int .i64 at_] (.bool true) := by

 refine valid_of [] Tryz.func8 rfl (by kernel_rfl) ?_
 refine AT_seq_region fun K1 hK1 => ?_
 simp [Tryz.f8]
 repeat refine sg ?_
 refine hK1 _ ?_
 clear hK1 K1
 refine AT_seq_k fun K2 hK2 => ?_
 refine AT_seq_region fun K3 hK3 => ?_
 simp
 repeat refine sg ?_
 refine hK3 _ ?_
 clear hK3 K3
 refine AT_cond (b := true) (g := none) (by simp) (fun hb => ?_) (fun hb => ?_)
 ·
  clear hb
  refine AT_seq_region fun K4 hK4 => ?_
  simp
  repeat refine sg ?_
  refine hK4 _ ?_
  clear hK4 K4
  refine AT_ret ?_
  simp [Tryz.f8]
 ·
  cases hb

theorem c_law07x_told (k n : Int) (hk : k ≠ 0) (hty : g 0 = some errTy) : Valid Tryz.prog (G0 g false) 8 [.iface 108 (.agg [.int .i64 k, .int .i64 n]), .int .i64 k, .int .i64 n] (.bool true) := by
 have hk2 : (k == 0) = false := by simpa using hk
 refine valid_of [] Tryz.func8 rfl (by kernel_rfl) ?_
 refine AT_seq_region fun K1 hK1 => ?_
 simp [hk2, Tryz.f8]
 repeat refine sg ?_
 refine hK1 _ ?_
 clear hK1 K1
 refine AT_seq_k fun K2 hK2 => ?_
 refine AT_seq_region fun K3 hK3 => ?_
 simp [hk2]
 repeat refine sg ?_
 refine hK3 _ ?_
 clear hK3 K3
 refine AT_cond (b := false) (g := none) (by simp [hk2]) (fun hb => ?_) (fun hb => ?_)
 ·
  cases hb
 ·
  clear hb
  refine AT_skip ?_
  try simp only [nrm, reduceIte, Nat.reduceEqDiff]
  refine hK2 _ ?_
  refine AT_seq_region fun K4 hK4 => ?_
  simp [hk2]
  repeat refine sg ?_
  refine RVn_call (fault_Code_f g false hty _ _) ?_
  simp [hk2]
  repeat refine sg ?_
  refine hK4 _ ?_
  clear hK4 K4
  refine AT_seq_region fun K5 hK5 => ?_
  simp [hk2]
  repeat refine sg ?_
  refine RVn_call (fault_At_f g false hty _ _) ?_
  simp [hk2]
  repeat refine sg ?_
  refine hK5 _ ?_
  clear hK5 K5
  refine AT_seq_region fun K6 hK6 => ?_
  simp [hk2]
  repeat refine sg ?_
  refine hK6 _ ?_
  clear hK6 K6
  refine AT_ret ?_
  simp [hk2, Tryz.f8]

def rdX : Exp := .mk 5 [] (.mk [84] [] 8) [] [.mk 2 [102] ty0 [] [.mk 1 [120] ty0 [] [] 0, .mk 1 [121] ty0 [] [] 4] 2] 7
def rdM : Ty := .mk [77, 97, 112] [.mk [97] [] 4, .mk [76, 105, 115, 116] [.mk [98] [] 12] 7] 0
def rdK : List Tk := [(2, [44], 1), (1, [98], 3), (3, [], 4)]
def rdL : List Tk := (1, [97], 0) :: rdK
def rdN : List Tk := [(1, [98], 3), (3, [], 4)]
theorem rd1 : wholeC 108 ex0 rdE [120, 46, 102, 40, 121, 41, 46, 40, 84, 41] = (rdX, .nilIface) := by kernel_rfl
theorem rd2 : wholeC 108 ty0 rdT [77, 97, 112, 91, 97, 44, 32, 76, 105, 115, 116, 91, 98, 93, 93] = (rdM, .nilIface) := by kernel_rfl
theorem rd3 : wholeC 108 ex0 rdE [120, 46] = (ex0, .iface 108 (.agg [.int .i64 2, .int .i64 2])) := by kernel_rfl
theorem rd4 : lexT [97, 44, 32, 98] = (some rdL, 0) := by decide
theorem rd5 : (⟨rdL, none⟩ : Cur).name = ⟨rdK, none⟩ := by kernel_rfl
theorem rd6 : (⟨rdL, none⟩ : Cur).nm = [97] ∧ (⟨rdL, none⟩ : Cur).at_ = 0 := by decide
theorem rd7 : (⟨rdK, none⟩ : Cur).next [44] = true ∧ (⟨rdN, none⟩ : Cur).next [98] = true ∧ (⟨rdN, none⟩ : Cur).next [120] = false := by decide
theorem rd8 : (⟨rdK, none⟩ : Cur).take [44] = ⟨rdN, none⟩ := by kernel_rfl
theorem rd9 : (⟨rdN, none⟩ : Cur).take [120] = ⟨rdN, none⟩ := by kernel_rfl
theorem rdp : ptrT Tryz.prog 44 = true := by kernel_rfl

theorem c_law07x_awake (hres : g 1 = some reservedA) (hty : g 0 = some errTy) : Valid Tryz.prog (G0 g false) 4 [] (.bool true) := by

 refine valid_of [] Tryz.func4 rfl (by kernel_rfl) ?_
 refine AT_seq_region fun K1 hK1 => ?_
 simp [lexV, rdp, Tryz.f4]
 repeat refine sg ?_
 refine hK1 _ ?_
 clear hK1 K1
 refine AT_seq_region fun K2 hK2 => ?_
 simp [lexV, rdp]
 repeat refine sg ?_
 refine RVn_call ((by have h := c_read_Expr g [120, 46, 102, 40, 121, 41, 46, 40, 84, 41] (by decide) hres; rw [rd1] at h; exact h)) ?_
 simp [lexV, rdp]
 repeat refine sg ?_
 refine hK2 _ ?_
 clear hK2 K2
 refine AT_seq_region fun K3 hK3 => ?_
 simp [lexV, rdp]
 repeat refine sg ?_
 refine RVn_call ((by have h := c_read_Type g [77, 97, 112, 91, 97, 44, 32, 76, 105, 115, 116, 91, 98, 93, 93] (by decide) hres; rw [rd2] at h; exact h)) ?_
 simp [lexV, rdp]
 repeat refine sg ?_
 refine hK3 _ ?_
 clear hK3 K3
 refine AT_seq_region fun K4 hK4 => ?_
 simp [lexV, rdp, enc_ex0]
 repeat refine sg ?_
 refine RVn_call ((by have h := c_read_Expr g [120, 46] (by decide) hres; rw [rd3] at h; exact h)) ?_
 simp [lexV, rdp, enc_ex0]
 repeat refine sg ?_
 refine hK4 _ ?_
 clear hK4 K4
 refine AT_seq_region fun K5 hK5 => ?_
 simp [lexV, rdp]
 repeat refine sg ?_
 refine RVn_call ((by have h := c_lex_Tokens g false [97, 44, 32, 98] (by decide); rw [rd4] at h; exact h)) ?_
 simp [lexV, rdp]
 repeat refine sg ?_
 refine hK5 _ ?_
 clear hK5 K5
 refine AT_seq_region fun K6 hK6 => ?_
 simp [lexV, rdp]
 repeat refine sg ?_
 refine RVn_callN (c_read_New g rdL) fun b => ?_
 simp [lexV, rdp]
 repeat refine sg ?_
 refine hK6 _ ?_
 clear hK6 K6
 refine AT_seq_k fun K7 hK7 => ?_
 refine AT_seq_region fun K8 hK8 => ?_
 simp [lexV, rdp]
 repeat refine sg ?_
 refine hK8 _ ?_
 clear hK8 K8
 refine AT_cond (b := false) (g := none) (by simp) (fun hb => ?_) (fun hb => ?_)
 ·
  cases hb
 ·
  clear hb
  refine AT_skip ?_
  try simp only [nrm, reduceIte, Nat.reduceEqDiff]
  refine hK7 _ ?_
  refine AT_seq_region fun K9 hK9 => ?_
  simp [lexV, rdp]
  repeat refine sg ?_
  refine RVn_callC ((by have h := c_read_Cursor_Name g b ⟨rdL, none⟩ (by decide) (fun s hs => c_name_Is g false s (by omega) hres) (by decide); rw [rd5, rd6.1, rd6.2] at h; exact h)) rfl ?_
  simp [lexV, rdp]
  repeat refine sg ?_
  refine hK9 _ ?_
  clear hK9 K9
  refine AT_seq_region fun K10 hK10 => ?_
  simp [lexV, rdp, rdX, encE_mk]
  repeat refine sg ?_
  refine RVn_call ((by have h := c_ref04x_Text g false rdM (by decide); exact h : Valid Tryz.prog (G0 g false) 15 [.agg (encTy rdM)] (.str [77, 97, 112, 91, 97, 44, 32, 76, 105, 115, 116, 91, 98, 93, 93]))) ?_
  simp [lexV, rdp, rdX, encE_mk]
  repeat refine sg ?_
  refine RVn_call (c_law07x_told g 2 2 (by decide) hty) ?_
  simp [lexV, rdp, rdX, encE_mk]
  repeat refine sg ?_
  refine RVn_callC ((by have h := c_read_Cursor_Take g [44] b ⟨rdK, none⟩ (by decide); rw [rd7.1, rd8] at h; exact h)) rfl ?_
  simp [lexV, rdp, rdX, encE_mk]
  repeat refine sg ?_
  refine RVn_callC ((by have h := c_read_Cursor_Next g [98] b ⟨rdN, none⟩ (by decide); rw [rd7.2.1] at h; exact h)) rfl ?_
  simp [lexV, rdp, rdX, encE_mk]
  repeat refine sg ?_
  refine RVn_callC ((by have h := c_read_Cursor_Take g [120] b ⟨rdN, none⟩ (by decide); rw [rd7.2.2, rd9] at h; exact h)) rfl ?_
  simp [lexV, rdp, rdX, encE_mk]
  repeat refine sg ?_
  refine hK10 _ ?_
  clear hK10 K10
  refine AT_ret ?_
  simp [lexV, rdp, Tryz.f4]

theorem toldA {g : Nat → Option (List AV)} (e : AV) (k n : Int) (h : (k = 0 ∧ e = .nilIface) ∨ (k ≠ 0 ∧ e = .iface 108 (.agg [.int .i64 k, .int .i64 n]))) (hty : g 0 = some errTy) : Valid Tryz.prog (G0 g false) 8 [e, .int .i64 k, .int .i64 n] (.bool true) := by
 rcases h with ⟨rfl, rfl⟩ | ⟨hk, rfl⟩
 · exact c_law07x_told_0 g n
 · exact c_law07x_told g k n hk hty

end Go.Proofs.YtpjkdaechknogaaGreatDoor
end

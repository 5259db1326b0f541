/- The laws: what is read back. -/
import Derived.Test.YtpjkdaechknogaaDoorPt
import Derived.Test.YtpjkdaechknogaaDoorPvRa
import Derived.Test.YtpjkdaechknogaaDoorPvZ
import Derived.Test.YtpjkdaechknogaaDoorXExA
import Derived.Test.YtpjkdaechknogaaDoorXExA
import Derived.Test.YtpjkdaechknogaaDoorXExG
import Derived.Test.YtpjkdaechknogaaDoorXExC
import Derived.Test.YtpjkdaechknogaaDoorXTyP
import Derived.Test.YtpjkdaechknogaaDoorXShelf
import Derived.Test.YtpjkdaechknogaaDoorXExA
import Derived.Test.YtpjkdaechknogaaDoorPvRf
set_option linter.all false
set_option maxHeartbeats 1000000
set_option maxRecDepth 10000
namespace Go.Proofs.YtpjkdaechknogaaDoor
open Go Go.Pv
variable (g : Nat → Option (List AV)) (rnd : Bool)

theorem c_law07x_ReadBack (t : Ty) (e : Exp) (hft : fit t) (hfe : fitE e) (hres : g 0 = some reservedA) (hty : g 1 = some errTy) : Valid Tryd.prog (G0 g false) 3 [.agg (encTy t), .agg (encE e)] (.bool true) := by

 refine valid_of [] Tryd.func3 rfl (by kernel_rfl) ?_
 refine AT_seq_region fun K1 hK1 => ?_
 simp [Tryd.f3]
 repeat refine sg ?_
 refine hK1 _ ?_
 clear hK1 K1
 refine AT_seq_k fun K2 hK2 => ?_
 by_cases hct : cnt t 0 ≤ 200
 ·
  have hwt := few_wt hct
  have hst := few_csum hct
  by_cases hce : cntE e 0 ≤ 250
  ·
   have hwe := fewE_wt hce
   have hse := few_esum hce
   cases hrt : rightT t
   ·
    refine AT_seq_region fun K3 hK3 => ?_
    simp [hct, hce, hrt]
    repeat refine sg ?_
    try (
     refine RVn_call (c_law07x_awake g hres hty) ?_
     simp [hct, hce, hrt]
     repeat refine sg ?_)
    try (
     refine RVn_call (c_ref04x_Few g false t hft) ?_
     simp [hct, hce, hrt]
     repeat refine sg ?_)
    try (
     refine RVn_call (c_ref05x_Few g false e hfe) ?_
     simp [hct, hce, hrt]
     repeat refine sg ?_)
    try (
     refine RVn_call (c_ref04x_Right g false t (by omega)) ?_
     simp [hct, hce, hrt]
     repeat refine sg ?_)
    try (
     refine RVn_call (c_ref05x_Right g false e (by omega)) ?_
     simp [hct, hce, hrt]
     repeat refine sg ?_)
    refine hK3 _ ?_
    clear hK3 K3
    refine AT_cond (b := true) (g := none) (by simp [hct, hce, hrt]) (fun hb => ?_) (fun hb => ?_)
    ·
     clear hb
     refine AT_seq_region fun K4 hK4 => ?_
     simp [hct, hce, hrt]
     repeat refine sg ?_
     refine RVn_call (c_law07x_awake g hres hty) ?_
     simp [hct, hce, hrt]
     repeat refine sg ?_
     refine hK4 _ ?_
     clear hK4 K4
     refine AT_ret ?_
     simp [Tryd.f3]
    ·
     cases hb
   ·
    cases hre : rightE e
    ·
     refine AT_seq_region fun K5 hK5 => ?_
     simp [hct, hce, hrt, hre]
     repeat refine sg ?_
     try (
      refine RVn_call (c_law07x_awake g hres hty) ?_
      simp [hct, hce, hrt, hre]
      repeat refine sg ?_)
     try (
      refine RVn_call (c_ref04x_Few g false t hft) ?_
      simp [hct, hce, hrt, hre]
      repeat refine sg ?_)
     try (
      refine RVn_call (c_ref05x_Few g false e hfe) ?_
      simp [hct, hce, hrt, hre]
      repeat refine sg ?_)
     try (
      refine RVn_call (c_ref04x_Right g false t (by omega)) ?_
      simp [hct, hce, hrt, hre]
      repeat refine sg ?_)
     try (
      refine RVn_call (c_ref05x_Right g false e (by omega)) ?_
      simp [hct, hce, hrt, hre]
      repeat refine sg ?_)
     refine hK5 _ ?_
     clear hK5 K5
     refine AT_cond (b := true) (g := none) (by simp [hct, hce, hrt, hre]) (fun hb => ?_) (fun hb => ?_)
     ·
      clear hb
      refine AT_seq_region fun K6 hK6 => ?_
      simp [hct, hce, hrt, hre]
      repeat refine sg ?_
      refine RVn_call (c_law07x_awake g hres hty) ?_
      simp [hct, hce, hrt, hre]
      repeat refine sg ?_
      refine hK6 _ ?_
      clear hK6 K6
      refine AT_ret ?_
      simp [Tryd.f3]
     ·
      cases hb
    ·
     refine AT_seq_region fun K7 hK7 => ?_
     simp [hct, hce, hrt, hre]
     repeat refine sg ?_
     try (
      refine RVn_call (c_law07x_awake g hres hty) ?_
      simp [hct, hce, hrt, hre]
      repeat refine sg ?_)
     try (
      refine RVn_call (c_ref04x_Few g false t hft) ?_
      simp [hct, hce, hrt, hre]
      repeat refine sg ?_)
     try (
      refine RVn_call (c_ref05x_Few g false e hfe) ?_
      simp [hct, hce, hrt, hre]
      repeat refine sg ?_)
     try (
      refine RVn_call (c_ref04x_Right g false t (by omega)) ?_
      simp [hct, hce, hrt, hre]
      repeat refine sg ?_)
     try (
      refine RVn_call (c_ref05x_Right g false e (by omega)) ?_
      simp [hct, hce, hrt, hre]
      repeat refine sg ?_)
     refine hK7 _ ?_
     clear hK7 K7
     refine AT_cond (b := false) (g := none) (by simp [hct, hce, hrt, hre]) (fun hb => ?_) (fun hb => ?_)
     ·
      cases hb
     ·
      clear hb
      refine AT_skip ?_
      try simp only [nrm, reduceIte, Nat.reduceEqDiff]
      refine hK2 _ ?_
      refine AT_seq_region fun K8 hK8 => ?_
      have hlt := txt_sz t
      have hle := txtE_sz e hre
      obtain ⟨u, hu, hut, huw⟩ := back_type 110 hrt (by omega)
      obtain ⟨x, hx, hxe, hxw⟩ := back_expr 110 hre (txtE e) (by omega) (txtE_toks hre)
      simp [hct, hce, hrt, hre]
      repeat refine sg ?_
      refine RVn_call (c_ref04x_Text g false t (by omega)) ?_
      simp [hct, hce, hrt, hre]
      repeat refine sg ?_
      refine RVn_call ((by have h := c_read_Type g (txt t) (by omega) hres; rw [hu] at h; exact h)) ?_
      simp [hct, hce, hrt, hre]
      repeat refine sg ?_
      refine hK8 _ ?_
      clear hK8 K8
      refine AT_seq_region fun K9 hK9 => ?_
      simp [hct, hce, hrt, hre]
      repeat refine sg ?_
      refine RVn_call (c_ref05x_Text g false e hre (by omega)) ?_
      simp [hct, hce, hrt, hre]
      repeat refine sg ?_
      refine RVn_call ((by have h := c_read_Expr g (txtE e) (by omega) hres; rw [hx] at h; exact h)) ?_
      simp [hct, hce, hrt, hre]
      repeat refine sg ?_
      refine hK9 _ ?_
      clear hK9 K9
      refine AT_seq_region fun K10 hK10 => ?_
      simp [hct, hce, hrt, hre]
      repeat refine sg ?_
      refine RVn_call ((by have h := c_ref04x_Same g false u t (by omega); rw [hut] at h; exact h : Valid Tryd.prog (G0 g false) 16 [.agg (encTy u), .agg (encTy t)] (.bool true))) ?_
      simp [hct, hce, hrt, hre]
      repeat refine sg ?_
      refine RVn_call ((by have h := c_ref05x_Same g false x e (by omega); rw [hxe] at h; exact h : Valid Tryd.prog (G0 g false) 17 [.agg (encE x), .agg (encE e)] (.bool true))) ?_
      simp [hct, hce, hrt, hre]
      repeat refine sg ?_
      refine hK10 _ ?_
      clear hK10 K10
      refine AT_ret ?_
      simp [Tryd.f3]
  ·
   refine AT_seq_region fun K11 hK11 => ?_
   simp [hct, hce]
   repeat refine sg ?_
   try (
    refine RVn_call (c_law07x_awake g hres hty) ?_
    simp [hct, hce]
    repeat refine sg ?_)
   try (
    refine RVn_call (c_ref04x_Few g false t hft) ?_
    simp [hct, hce]
    repeat refine sg ?_)
   try (
    refine RVn_call (c_ref05x_Few g false e hfe) ?_
    simp [hct, hce]
    repeat refine sg ?_)
   try (
    refine RVn_call (c_ref04x_Right g false t (by omega)) ?_
    simp [hct, hce]
    repeat refine sg ?_)
   try (
    refine RVn_call (c_ref05x_Right g false e (by omega)) ?_
    simp [hct, hce]
    repeat refine sg ?_)
   refine hK11 _ ?_
   clear hK11 K11
   refine AT_cond (b := true) (g := none) (by simp [hct, hce]) (fun hb => ?_) (fun hb => ?_)
   ·
    clear hb
    refine AT_seq_region fun K12 hK12 => ?_
    simp [hct, hce]
    repeat refine sg ?_
    refine RVn_call (c_law07x_awake g hres hty) ?_
    simp [hct, hce]
    repeat refine sg ?_
    refine hK12 _ ?_
    clear hK12 K12
    refine AT_ret ?_
    simp [Tryd.f3]
   ·
    cases hb
 ·
  refine AT_seq_region fun K13 hK13 => ?_
  simp [hct]
  repeat refine sg ?_
  try (
   refine RVn_call (c_law07x_awake g hres hty) ?_
   simp [hct]
   repeat refine sg ?_)
  try (
   refine RVn_call (c_ref04x_Few g false t hft) ?_
   simp [hct]
   repeat refine sg ?_)
  try (
   refine RVn_call (c_ref05x_Few g false e hfe) ?_
   simp [hct]
   repeat refine sg ?_)
  try (
   refine RVn_call (c_ref04x_Right g false t (by omega)) ?_
   simp [hct]
   repeat refine sg ?_)
  try (
   refine RVn_call (c_ref05x_Right g false e (by omega)) ?_
   simp [hct]
   repeat refine sg ?_)
  refine hK13 _ ?_
  clear hK13 K13
  refine AT_cond (b := true) (g := none) (by simp [hct]) (fun hb => ?_) (fun hb => ?_)
  ·
   clear hb
   refine AT_seq_region fun K14 hK14 => ?_
   simp [hct]
   repeat refine sg ?_
   refine RVn_call (c_law07x_awake g hres hty) ?_
   simp [hct]
   repeat refine sg ?_
   refine hK14 _ ?_
   clear hK14 K14
   refine AT_ret ?_
   simp [Tryd.f3]
  ·
   cases hb

theorem c_law07x_ReadSpaces (e : Exp) (cm : Bool) (hfe : fitE e) (hres : g 0 = some reservedA) (hty : g 1 = some errTy) : Valid Tryd.prog (G0 g false) 4 [.agg (encE e), .bool cm] (.bool true) := by

 refine valid_of [] Tryd.func4 rfl (by kernel_rfl) ?_
 refine AT_seq_region fun K1 hK1 => ?_
 simp [row_map, Tryd.f4]
 repeat refine sg ?_
 refine hK1 _ ?_
 clear hK1 K1
 refine AT_seq_k fun K2 hK2 => ?_
 by_cases hce : cntE e 0 ≤ 250
 ·
  have hwe := fewE_wt hce
  have hse := few_esum hce
  cases hre : rightE e
  ·
   refine AT_seq_region fun K3 hK3 => ?_
   simp [row_map, hce, hre]
   repeat refine sg ?_
   try (
    refine RVn_call (c_law07x_awake g hres hty) ?_
    simp [row_map, hce, hre]
    repeat refine sg ?_)
   try (
    refine RVn_call (c_ref05x_Few g false e hfe) ?_
    simp [row_map, hce, hre]
    repeat refine sg ?_)
   try (
    refine RVn_call (c_ref05x_Right g false e (by omega)) ?_
    simp [row_map, hce, hre]
    repeat refine sg ?_)
   refine hK3 _ ?_
   clear hK3 K3
   refine AT_cond (b := true) (g := none) (by simp [hce, hre]) (fun hb => ?_) (fun hb => ?_)
   ·
    clear hb
    refine AT_seq_region fun K4 hK4 => ?_
    simp [row_map, hce, hre]
    repeat refine sg ?_
    refine RVn_call (c_law07x_awake g hres hty) ?_
    simp [row_map, hce, hre]
    repeat refine sg ?_
    refine hK4 _ ?_
    clear hK4 K4
    refine AT_ret ?_
    simp [row_map, Tryd.f4]
   ·
    cases hb
  ·
   refine AT_seq_region fun K5 hK5 => ?_
   simp [row_map, hce, hre]
   repeat refine sg ?_
   try (
    refine RVn_call (c_law07x_awake g hres hty) ?_
    simp [row_map, hce, hre]
    repeat refine sg ?_)
   try (
    refine RVn_call (c_ref05x_Few g false e hfe) ?_
    simp [row_map, hce, hre]
    repeat refine sg ?_)
   try (
    refine RVn_call (c_ref05x_Right g false e (by omega)) ?_
    simp [row_map, hce, hre]
    repeat refine sg ?_)
   refine hK5 _ ?_
   clear hK5 K5
   refine AT_cond (b := false) (g := none) (by simp [hce, hre]) (fun hb => ?_) (fun hb => ?_)
   ·
    cases hb
   ·
    clear hb
    refine AT_skip ?_
    try simp only [nrm, reduceIte, Nat.reduceEqDiff]
    refine hK2 _ ?_
    refine AT_seq_region fun K6 hK6 => ?_
    have hle := txtE_sz e hre
    have hsp := toksE_sz e hre
    obtain ⟨L, m, hL, hLk⟩ := lexT_of (by omega) (txtE_toks hre)
    obtain ⟨hL1, hL2, hL3, hL4, hL5⟩ := lexT_some (by omega) hL
    have hsp2 : sp7 (L.map ktOf) ≤ 60000 := by rw [hLk, sp7_app]; simp [sp7]; omega
    have hkey : tkK (spT cm (L.map ktOf)) = some (toksE e ++ [(3, [])]) := by rw [← hLk]; exact spT_lex cm hL2
    have hkl := spT_len cm (L.map ktOf)
    obtain ⟨x, hx, hxe, hxw⟩ := back_expr 110 hre (spT cm (L.map ktOf)) (by omega) hkey
    simp [row_map, lexR, hce, hre]
    repeat refine sg ?_
    refine RVn_call (c_ref05x_Text g false e hre (by omega)) ?_
    simp [row_map, lexR, hce, hre]
    repeat refine sg ?_
    refine RVn_call ((by have h := c_ref03x_Tokens g false (txtE e) (by omega); rw [hL] at h; exact h)) ?_
    simp [row_map, lexR, hce, hre]
    repeat refine sg ?_
    refine hK6 _ ?_
    clear hK6 K6
    refine AT_seq_region fun K7 hK7 => ?_
    simp [row_map, hce, hre]
    repeat refine sg ?_
    refine hK7 _ ?_
    clear hK7 K7
    refine AT_seq_k fun K8 hK8 => ?_
    refine AT_seq_region fun K9 hK9 => ?_
    simp [row_map, hce, hre]
    repeat refine sg ?_
    refine hK9 _ ?_
    clear hK9 K9
    refine AT_block ?_
    refine AT_loop_q [1,2,5,6,7] [2] (fun j s => ∃ k, k ≤ L.length ∧ j = L.length - k ∧ s = { n := 56, tm := [(1, .v (.bool cm) none), (2, .lp 2 0), (5, .v (.slice (L.map encK)) none), (6, .v (.str (spT cm ((L.take k).map ktOf))) none), (7, .v (.int .i64 k) none)], bx := [(2, encE e)], tb := [], sh := [], hint := [] }) (L.length) (by first | rfl | simp) ?_ ?_
    ·
     exact ⟨0, by simp, by simp, by simp [spT]⟩
    ·
     rintro j s ⟨k, hk, rfl, rfl⟩ K10 hK10
     refine AT_seq_k fun K11 hK11 => ?_
     refine AT_seq_region fun K12 hK12 => ?_
     simp [row_map, hce, hre]
     repeat refine sg ?_
     refine hK12 _ ?_
     clear hK12 K12
     refine AT_cond (g := none) rfl (fun hb30 => ?_) (fun hb30 => ?_)
     ·
      try simp [row_map, hce, hre] at hb30
      refine AT_skip ?_
      try simp only [nrm, reduceIte, Nat.reduceEqDiff]
      refine hK11 _ ?_
      refine AT_seq_k fun K13 hK13 => ?_
      refine AT_block ?_
      refine AT_seq_region fun K14 hK14 => ?_
      have hq1 := spT_len cm ((L.map ktOf).take k)
      have hq2 := sp7_take (L.map ktOf) k
      have hq3 := szK_kt_get (a := L) (k := k) (by omega)
      simp [row_map, encK, hce, hre, hb30]
      repeat refine sg ?_
      refine hK14 _ ?_
      clear hK14 K14
      refine AT_seq_region fun K15 hK15 => ?_
      simp [row_map, hce, hre, hb30]
      repeat refine sg ?_
      refine hK15 _ ?_
      clear hK15 K15
      refine AT_cond (g := none) rfl (fun hb41 => ?_) (fun hb41 => ?_)
      ·
       try simp [row_map, hce, hre, hb30] at hb41
       refine AT_region_q fun K16 hK16 => ?_
       simp [row_map, hce, hre, hb30]
       repeat refine sg ?_
       refine hK16 _ ?_
       clear hK16 K16
       try simp only [nrm, reduceIte, Nat.reduceEqDiff]
       refine hK13 _ ?_
       refine AT_region_q fun K17 hK17 => ?_
       simp [row_map, hce, hre, hb30]
       repeat refine sg ?_
       refine hK17 _ ?_
       clear hK17 K17
       try simp only [nrm, reduceIte, Nat.reduceEqDiff]
       refine hK10 _ (by first | rfl | simp) (L.length - (k+1)) (by omega) ?_
       refine ⟨k+1, by omega, by omega, ?_⟩
       have hst := spT_take cm (l := L.map ktOf) (k := k) (by simpa using hb30)
       rw [← List.map_take, ← List.map_take] at hst
       rw [hst]; simp [spc, ktOf, hb41]
      ·
       try simp [row_map, hce, hre, hb30] at hb41
       refine AT_skip ?_
       try simp only [nrm, reduceIte, Nat.reduceEqDiff]
       refine hK13 _ ?_
       refine AT_region_q fun K18 hK18 => ?_
       simp [row_map, hce, hre, hb30]
       repeat refine sg ?_
       refine hK18 _ ?_
       clear hK18 K18
       try simp only [nrm, reduceIte, Nat.reduceEqDiff]
       refine hK10 _ (by first | rfl | simp) (L.length - (k+1)) (by omega) ?_
       refine ⟨k+1, by omega, by omega, ?_⟩
       have hst := spT_take cm (l := L.map ktOf) (k := k) (by simpa using hb30)
       rw [← List.map_take, ← List.map_take] at hst
       rw [hst]; simp [spc, ktOf, hb41]
     ·
      try simp [row_map, hce, hre] at hb30
      refine AT_exit ?_
      try simp only [nrm, reduceIte, Nat.reduceEqDiff]
      refine hK8 _ ?_
      refine AT_seq_region fun K19 hK19 => ?_
      rw [List.take_of_length_le (by simpa using hb30)]
      simp [row_map, hce, hre, hb30]
      repeat refine sg ?_
      refine RVn_call ((by have h := c_read_Expr g (spT cm (L.map ktOf)) (by omega) hres; rw [hx] at h; exact h)) ?_
      simp [row_map, hce, hre, hb30]
      repeat refine sg ?_
      refine hK19 _ ?_
      clear hK19 K19
      refine AT_seq_region fun K20 hK20 => ?_
      simp [row_map, hce, hre, hb30]
      repeat refine sg ?_
      try (
       refine RVn_call ((by have h := c_ref05x_Same g false x e (by omega); rw [hxe] at h; exact h : Valid Tryd.prog (G0 g false) 17 [.agg (encE x), .agg (encE e)] (.bool true))) ?_
       simp [row_map, hce, hre, hb30]
       repeat refine sg ?_)
      refine hK20 _ ?_
      clear hK20 K20
      refine AT_ret ?_
      simp [row_map, Tryd.f4]
 ·
  refine AT_seq_region fun K21 hK21 => ?_
  simp [row_map, hce]
  repeat refine sg ?_
  try (
   refine RVn_call (c_law07x_awake g hres hty) ?_
   simp [row_map, hce]
   repeat refine sg ?_)
  try (
   refine RVn_call (c_ref05x_Few g false e hfe) ?_
   simp [row_map, hce]
   repeat refine sg ?_)
  try (
   refine RVn_call (c_ref05x_Right g false e (by omega)) ?_
   simp [row_map, hce]
   repeat refine sg ?_)
  refine hK21 _ ?_
  clear hK21 K21
  refine AT_cond (b := true) (g := none) (by simp [hce]) (fun hb => ?_) (fun hb => ?_)
  ·
   clear hb
   refine AT_seq_region fun K22 hK22 => ?_
   simp [row_map, hce]
   repeat refine sg ?_
   refine RVn_call (c_law07x_awake g hres hty) ?_
   simp [row_map, hce]
   repeat refine sg ?_
   refine hK22 _ ?_
   clear hK22 K22
   refine AT_ret ?_
   simp [row_map, Tryd.f4]
  ·
   cases hb

end Go.Proofs.YtpjkdaechknogaaDoor

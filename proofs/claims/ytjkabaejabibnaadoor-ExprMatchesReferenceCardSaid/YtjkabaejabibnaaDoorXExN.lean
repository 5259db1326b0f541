/- The law: expressions compared, shown and measured as in the reference. -/
import Derived.Test.YtjkabaejabibnaaDoorPt
import Derived.Test.YtjkabaejabibnaaDoorPvPa
import Derived.Test.YtjkabaejabibnaaDoorPvZ
import Derived.Test.YtjkabaejabibnaaDoorXExJ
import Derived.Test.YtjkabaejabibnaaDoorXExG
import Derived.Test.YtjkabaejabibnaaDoorXExB
import Derived.Test.YtjkabaejabibnaaDoorXExC
import Derived.Test.YtjkabaejabibnaaDoorXExF
import Derived.Test.YtjkabaejabibnaaDoorPvRe
import Derived.Test.YtjkabaejabibnaaDoorPvMc
set_option linter.all false
set_option maxHeartbeats 1000000
set_option maxRecDepth 10000
namespace Go.Proofs.YtjkabaejabibnaaDoor
open Go Go.Pv
variable (g : Nat → Option (List AV)) (rnd : Bool)

theorem c_law05x_ExprMatchesReference (e f : Exp) (hfe : fitE e) (hff : fitE f) (hres : g 0 = some reservedA) : Valid Tryd.prog (G0 g false) 3 [.agg (encE e), .agg (encE f)] (.bool true) := by

 refine valid_of [] Tryd.func3 rfl (by kernel_rfl) ?_
 refine AT_seq_region fun K1 hK1 => ?_
 simp [Tryd.f3]
 repeat refine sg ?_
 refine hK1 _ ?_
 clear hK1 K1
 refine AT_seq_k fun K2 hK2 => ?_
 by_cases hce : cntE e 0 ≤ 250
 ·
  have hwe := fewE_wt hce
  by_cases hcf : cntE f 0 ≤ 250
  ·
   have hwf := fewE_wt hcf
   refine AT_seq_region fun K3 hK3 => ?_
   simp [hce, hcf]
   repeat refine sg ?_
   try (
    refine RVn_call (c_law05x_awake g hres) ?_
    simp [hce, hcf]
    repeat refine sg ?_)
   try (
    refine RVn_call (c_ref05x_Few g false e hfe) ?_
    simp [hce, hcf]
    repeat refine sg ?_)
   try (
    refine RVn_call (c_ref05x_Few g false f hff) ?_
    simp [hce, hcf]
    repeat refine sg ?_)
   refine hK3 _ ?_
   clear hK3 K3
   refine AT_cond (b := false) (g := none) (by simp [hce, hcf]) (fun hb => ?_) (fun hb => ?_)
   ·
    cases hb
   ·
    clear hb
    refine AT_skip ?_
    try simp only [nrm, reduceIte, Nat.reduceEqDiff]
    refine hK2 _ ?_
    refine AT_seq_k fun K4 hK4 => ?_
    refine AT_seq_draw Pt.mixed (by kernel_rfl) fun K5 hK5 => ?_
    simp [hce, hcf]
    repeat refine sg ?_
    refine RVdn_call (c_expr_Right g false e (by omega) hres) ?_
    simp [hce, hcf]
    repeat refine sg ?_
    refine RVdn_call (c_ref05x_Right g false e (by omega)) ?_
    simp [hce, hcf]
    repeat refine sg ?_
    refine RVdn_call (c_expr_Same g false e f (by omega)) ?_
    simp [hce, hcf]
    repeat refine sg ?_
    refine RVdn_call (c_ref05x_Same g false e f (by omega)) ?_
    simp [hce, hcf]
    repeat refine sg ?_
    refine RVdn_call ((sameE_refl e ▸ c_expr_Same g false e e (by omega) : Valid Tryd.prog (G0 g false) 12 [.agg (encE e), .agg (encE e)] (.bool true))) ?_
    simp [hce, hcf]
    repeat refine sg ?_
    refine hK5 _ ?_
    clear hK5 K5
    refine AT_cond (b := false) (g := none) (by simp [hce, hcf]) (fun hb => ?_) (fun hb => ?_)
    ·
     cases hb
    ·
     clear hb
     refine AT_skip ?_
     try simp only [nrm, reduceIte, Nat.reduceEqDiff]
     refine hK4 _ ?_
     refine AT_seq_k fun K6 hK6 => ?_
     cases hre : rightE e
     ·
      refine AT_seq_region fun K7 hK7 => ?_
      simp [hce, hcf, hre]
      repeat refine sg ?_
      refine RVn_call (c_ref05x_Right g false e (by omega)) ?_
      simp [hce, hcf, hre]
      repeat refine sg ?_
      refine hK7 _ ?_
      clear hK7 K7
      refine AT_cond (b := true) (g := none) (by simp [hce, hcf, hre]) (fun hb => ?_) (fun hb => ?_)
      ·
       clear hb
       refine AT_seq_region fun K8 hK8 => ?_
       simp [hce, hcf, hre]
       repeat refine sg ?_
       refine hK8 _ ?_
       clear hK8 K8
       refine AT_ret ?_
       simp [Tryd.f3]
      ·
       cases hb
     ·
      refine AT_seq_region fun K9 hK9 => ?_
      simp [hce, hcf, hre]
      repeat refine sg ?_
      refine RVn_call (c_ref05x_Right g false e (by omega)) ?_
      simp [hce, hcf, hre]
      repeat refine sg ?_
      refine hK9 _ ?_
      clear hK9 K9
      refine AT_cond (b := false) (g := none) (by simp [hce, hcf, hre]) (fun hb => ?_) (fun hb => ?_)
      ·
       cases hb
      ·
       clear hb
       refine AT_skip ?_
       try simp only [nrm, reduceIte, Nat.reduceEqDiff]
       refine hK6 _ ?_
       refine AT_seq_k fun K10 hK10 => ?_
       refine AT_seq_draw Pt.mixed (by kernel_rfl) fun K11 hK11 => ?_
       simp [hce, hcf, hre]
       repeat refine sg ?_
       refine RVdn_call (c_expr_Text g false e hre (by omega)) ?_
       simp [hce, hcf, hre]
       repeat refine sg ?_
       refine RVdn_call (c_ref05x_Text g false e hre (by omega)) ?_
       simp [hce, hcf, hre]
       repeat refine sg ?_
       refine RVdn_call (c_expr_Depth g false e (by omega)) ?_
       simp [hce, hcf, hre]
       repeat refine sg ?_
       refine RVdn_call (c_ref05x_Depth g false e (by omega)) ?_
       simp [hce, hcf, hre]
       repeat refine sg ?_
       refine RVdn_call (c_expr_Value g false e (by omega)) ?_
       simp [hce, hcf, hre]
       repeat refine sg ?_
       refine RVdn_call (c_ref05x_Value g false e (by omega)) ?_
       simp [hce, hcf, hre]
       repeat refine sg ?_
       refine hK11 _ ?_
       clear hK11 K11
       refine AT_cond (b := false) (g := none) (by simp [hce, hcf, hre]) (fun hb => ?_) (fun hb => ?_)
       ·
        cases hb
       ·
        clear hb
        refine AT_skip ?_
        try simp only [nrm, reduceIte, Nat.reduceEqDiff]
        refine hK10 _ ?_
        cases hrf : rightE f
        ·
         refine AT_seq_draw Pt.mixed (by kernel_rfl) fun K12 hK12 => ?_
         simp [hce, hcf, hre, hrf]
         repeat refine sg ?_
         try (
          refine RVdn_call (c_ref05x_Right g false f (by omega)) ?_
          simp [hce, hcf, hre, hrf]
          repeat refine sg ?_)
         try (
          refine RVdn_call (c_expr_Text g false e hre (by omega)) ?_
          simp [hce, hcf, hre, hrf]
          repeat refine sg ?_)
         try (
          refine RVdn_call (c_expr_Text g false f hrf (by omega)) ?_
          simp [hce, hcf, hre, hrf]
          repeat refine sg ?_)
         try (
          refine RVdn_call (c_ref05x_Same g false e f (by omega)) ?_
          simp [hce, hcf, hre, hrf]
          repeat refine sg ?_)
         refine hK12 _ ?_
         clear hK12 K12
         refine AT_ret ?_
         simp [Tryd.f3]
        ·
         have hts := txtE_same hre hrf
         refine AT_seq_draw Pt.mixed (by kernel_rfl) fun K13 hK13 => ?_
         simp [hce, hcf, hre, hrf, hts]
         repeat refine sg ?_
         try (
          refine RVdn_call (c_ref05x_Right g false f (by omega)) ?_
          simp [hce, hcf, hre, hrf, hts]
          repeat refine sg ?_)
         try (
          refine RVdn_call (c_expr_Text g false e hre (by omega)) ?_
          simp [hce, hcf, hre, hrf, hts]
          repeat refine sg ?_)
         try (
          refine RVdn_call (c_expr_Text g false f hrf (by omega)) ?_
          simp [hce, hcf, hre, hrf, hts]
          repeat refine sg ?_)
         try (
          refine RVdn_call (c_ref05x_Same g false e f (by omega)) ?_
          simp [hce, hcf, hre, hrf, hts]
          repeat refine sg ?_)
         refine hK13 _ ?_
         clear hK13 K13
         refine AT_ret ?_
         simp [Tryd.f3]
  ·
   refine AT_seq_region fun K14 hK14 => ?_
   simp [hce, hcf]
   repeat refine sg ?_
   try (
    refine RVn_call (c_law05x_awake g hres) ?_
    simp [hce, hcf]
    repeat refine sg ?_)
   try (
    refine RVn_call (c_ref05x_Few g false e hfe) ?_
    simp [hce, hcf]
    repeat refine sg ?_)
   try (
    refine RVn_call (c_ref05x_Few g false f hff) ?_
    simp [hce, hcf]
    repeat refine sg ?_)
   refine hK14 _ ?_
   clear hK14 K14
   refine AT_cond (b := true) (g := none) (by simp [hce, hcf]) (fun hb => ?_) (fun hb => ?_)
   ·
    clear hb
    refine AT_seq_region fun K15 hK15 => ?_
    simp [hce, hcf]
    repeat refine sg ?_
    refine RVn_call (c_law05x_awake g hres) ?_
    simp [hce, hcf]
    repeat refine sg ?_
    refine hK15 _ ?_
    clear hK15 K15
    refine AT_ret ?_
    simp [Tryd.f3]
   ·
    cases hb
 ·
  refine AT_seq_region fun K16 hK16 => ?_
  simp [hce]
  repeat refine sg ?_
  try (
   refine RVn_call (c_law05x_awake g hres) ?_
   simp [hce]
   repeat refine sg ?_)
  try (
   refine RVn_call (c_ref05x_Few g false e hfe) ?_
   simp [hce]
   repeat refine sg ?_)
  try (
   refine RVn_call (c_ref05x_Few g false f hff) ?_
   simp [hce]
   repeat refine sg ?_)
  refine hK16 _ ?_
  clear hK16 K16
  refine AT_cond (b := true) (g := none) (by simp [hce]) (fun hb => ?_) (fun hb => ?_)
  ·
   clear hb
   refine AT_seq_region fun K17 hK17 => ?_
   simp [hce]
   repeat refine sg ?_
   refine RVn_call (c_law05x_awake g hres) ?_
   simp [hce]
   repeat refine sg ?_
   refine hK17 _ ?_
   clear hK17 K17
   refine AT_ret ?_
   simp [Tryd.f3]
  ·
   cases hb

end Go.Proofs.YtjkabaejabibnaaDoor

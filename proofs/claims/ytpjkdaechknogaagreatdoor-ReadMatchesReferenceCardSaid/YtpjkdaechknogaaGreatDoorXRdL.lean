/- The law: expressions are read as in the reference. -/
import Derived.Test.YtpjkdaechknogaaGreatDoorPt
import Derived.Test.YtpjkdaechknogaaGreatDoorPvPa
import Derived.Test.YtpjkdaechknogaaGreatDoorPvX
import Derived.Test.YtpjkdaechknogaaGreatDoorXRdK
import Derived.Test.YtpjkdaechknogaaGreatDoorXRdH
import Derived.Test.YtpjkdaechknogaaGreatDoorXExI
import Derived.Test.YtpjkdaechknogaaGreatDoorXExG
import Derived.Test.YtpjkdaechknogaaGreatDoorXRpA
import Derived.Test.YtpjkdaechknogaaGreatDoorPvRg
set_option linter.all false
set_option maxHeartbeats 1000000
set_option maxRecDepth 10000
namespace Go.Proofs.YtpjkdaechknogaaGreatDoor
open Go Go.Pv
variable (g : Nat → Option (List AV)) (rnd : Bool)

theorem c_ref07x_WholeExpr (s : Str) (hs : s.length ≤ 1000000) : Valid Tryz.prog (G0 g false) 6 [.str s] (.tup [.agg (encE (wholeR ex0 reR s).1), .int .i64 (wholeR ex0 reR s).2.1, .int .i64 (wholeR ex0 reR s).2.2]) := by

 refine valid_of [] Tryz.func6 rfl (by kernel_rfl) ?_
 refine AT_seq_region fun K1 hK1 => ?_
 simp [Tryz.f6]
 repeat refine sg ?_
 refine hK1 _ ?_
 clear hK1 K1
 rcases hx : lexT s with ⟨_ | l, m⟩
 ·
  refine AT_seq_region fun K2 hK2 => ?_
  simp [encP]
  repeat refine sg ?_
  refine RVn_call ((by have h := c_ref07x_Begin g s hs; rw [hx] at h; exact h)) ?_
  simp [encP]
  repeat refine sg ?_
  refine hK2 _ ?_
  clear hK2 K2
  refine AT_seq_k fun K3 hK3 => ?_
  refine AT_seq_region fun K4 hK4 => ?_
  simp
  repeat refine sg ?_
  refine hK4 _ ?_
  clear hK4 K4
  refine AT_cond (b := true) (g := none) (by simp) (fun hb => ?_) (fun hb => ?_)
  ·
   clear hb
   refine AT_seq_region fun K5 hK5 => ?_
   simp
   repeat refine sg ?_
   refine hK5 _ ?_
   clear hK5 K5
   refine AT_ret ?_
   simp [Tryz.f6]
   all_goals first | (simp [wholeR, hx, enc_ex0]; done) | (simp [wholeR, hx, ← hp, h0, enc_ex0]; done)
  ·
   cases hb
 ·
  obtain ⟨hsl, hll, hlt⟩ := lexT_bounds hx
  have hE := lexT_ends hx
  obtain ⟨p, hp⟩ : ∃ p, p = reR l := ⟨_, rfl⟩
  have hpl : p.2.k < l.length := by rw [hp]; exact (exprR_lt hE _ ⟨0, false⟩ hE.1).2
  refine AT_seq_region fun K6 hK6 => ?_
  simp [encP]
  repeat refine sg ?_
  refine RVn_call ((by have h := c_ref07x_Begin g s hs; rw [hx] at h; exact h)) ?_
  simp [encP]
  repeat refine sg ?_
  refine hK6 _ ?_
  clear hK6 K6
  refine AT_seq_k fun K7 hK7 => ?_
  refine AT_seq_region fun K8 hK8 => ?_
  simp
  repeat refine sg ?_
  refine hK8 _ ?_
  clear hK8 K8
  refine AT_cond (b := false) (g := none) (by simp) (fun hb => ?_) (fun hb => ?_)
  ·
   cases hb
  ·
   clear hb
   refine AT_skip ?_
   try simp only [nrm, reduceIte, Nat.reduceEqDiff]
   refine hK7 _ ?_
   refine AT_seq_region fun K9 hK9 => ?_
   simp [encP]
   repeat refine sg ?_
   refine RVn_call ((by have h := c_ref07x_Expr g l hE (by omega) (fun t ht => by have := hlt t ht; omega) (l.length + 1) ⟨0, false⟩ (by simp) hE.1; rw [show exprR l (l.length + 1) ⟨0, false⟩ = p from hp.symm] at h; simp only [encP] at h; exact h)) ?_
   simp [encP]
   repeat refine sg ?_
   refine hK9 _ ?_
   clear hK9 K9
   refine AT_seq_region fun K10 hK10 => ?_
   simp
   repeat refine sg ?_
   refine RVn_call ((by have h := c_ref07x_Finish g l (by omega) p.2 hpl; simp only [encP] at h; exact h)) ?_
   simp
   repeat refine sg ?_
   refine hK10 _ ?_
   clear hK10 K10
   refine AT_seq_k fun K11 hK11 => ?_
   by_cases h0 : (finR l p.2).1 = 0
   ·
    refine AT_seq_region fun K12 hK12 => ?_
    simp [h0]
    repeat refine sg ?_
    refine hK12 _ ?_
    clear hK12 K12
    refine AT_cond (b := false) (g := none) (by simp [h0]) (fun hb => ?_) (fun hb => ?_)
    ·
     cases hb
    ·
     clear hb
     refine AT_skip ?_
     try simp only [nrm, reduceIte, Nat.reduceEqDiff]
     refine hK11 _ ?_
     refine AT_seq_region fun K13 hK13 => ?_
     simp [h0]
     repeat refine sg ?_
     refine hK13 _ ?_
     clear hK13 K13
     refine AT_ret ?_
     simp [Tryz.f6]
     all_goals first | (simp [wholeR, hx, enc_ex0]; done) | (simp [wholeR, hx, ← hp, h0, enc_ex0]; done)
   ·
    refine AT_seq_region fun K14 hK14 => ?_
    simp [h0]
    repeat refine sg ?_
    refine hK14 _ ?_
    clear hK14 K14
    refine AT_cond (b := true) (g := none) (by simp [h0]) (fun hb => ?_) (fun hb => ?_)
    ·
     clear hb
     refine AT_seq_region fun K15 hK15 => ?_
     simp [h0]
     repeat refine sg ?_
     refine hK15 _ ?_
     clear hK15 K15
     refine AT_ret ?_
     simp [Tryz.f6]
     all_goals first | (simp [wholeR, hx, enc_ex0]; done) | (simp [wholeR, hx, ← hp, h0, enc_ex0]; done)
    ·
     cases hb

theorem c_law07x_ReadMatchesReference (s : Str) (hs : s.length ≤ 140737488355328) (hres : g 1 = some reservedA) (hty : g 0 = some errTy) : Valid Tryz.prog (G0 g false) 3 [.str s] (.bool true) := by

 refine valid_of [] Tryz.func3 rfl (by kernel_rfl) ?_
 refine AT_seq_region fun K1 hK1 => ?_
 simp [Tryz.f3]
 repeat refine sg ?_
 refine hK1 _ ?_
 clear hK1 K1
 refine AT_seq_k fun K2 hK2 => ?_
 by_cases hbig : (2000 : Int) < s.length
 ·
  refine AT_seq_region fun K3 hK3 => ?_
  simp [hbig]
  repeat refine sg ?_
  refine RVn_call (c_law07x_awake g hres hty) ?_
  simp [hbig]
  repeat refine sg ?_
  refine hK3 _ ?_
  clear hK3 K3
  refine AT_cond (b := true) (g := none) (by simp [hbig]) (fun hb => ?_) (fun hb => ?_)
  ·
   clear hb
   refine AT_seq_region fun K4 hK4 => ?_
   simp [hbig]
   repeat refine sg ?_
   refine RVn_call (c_law07x_awake g hres hty) ?_
   simp [hbig]
   repeat refine sg ?_
   refine hK4 _ ?_
   clear hK4 K4
   refine AT_ret ?_
   simp [Tryz.f3]
  ·
   cases hb
 ·
  have hsl : s.length ≤ 2000 := by omega
  refine AT_seq_region fun K5 hK5 => ?_
  simp [hbig]
  repeat refine sg ?_
  refine RVn_call (c_law07x_awake g hres hty) ?_
  simp [hbig]
  repeat refine sg ?_
  refine hK5 _ ?_
  clear hK5 K5
  refine AT_cond (b := false) (g := none) (by simp [hbig]) (fun hb => ?_) (fun hb => ?_)
  ·
   cases hb
  ·
   clear hb
   refine AT_skip ?_
   try simp only [nrm, reduceIte, Nat.reduceEqDiff]
   refine hK2 _ ?_
   refine AT_seq_region fun K6 hK6 => ?_
   obtain ⟨h1, h2⟩ := whole_same 108 ex0 rdE reR s (fun l hE => expr_same hE)
   obtain ⟨t, k, n, hw⟩ : ∃ t k n, wholeR ex0 reR s = (t, k, n) := ⟨_, _, _, rfl⟩
   rw [hw] at h1 h2
   have htd := toldA (g := g) (wholeC 108 ex0 rdE s).2 k n (h2.elim (fun h => .inl ⟨h.1, h.2.1⟩) (fun h => .inr ⟨h.2.1, h.2.2⟩)) hty
   have h1b : t = (wholeC 108 ex0 rdE s).1 := h1.symm
   have hsz : wtE t ≤ 10000 := by
     rcases h2 with ⟨-, -, l, m, hx, h5, -⟩ | ⟨h3, -⟩
     · rw [h1b, h5]; have := rdE_sz hx; omega
     · rw [show t = ex0 from h3]; decide
   have hrt : k = 0 → rightE t = true := fun hk => by
     rcases h2 with ⟨-, -, l, m, hx, h5, h6⟩ | ⟨-, h3, -⟩
     · rw [h1b, h5]; exact exprC_ok _ _ (Nat.lt_succ_self _) h6
     · exact absurd hk h3
   simp [hbig]
   repeat refine sg ?_
   refine RVn_call ((by have h := c_read_Expr g s (by omega) hres; rw [h1] at h; exact h)) ?_
   simp [hbig]
   repeat refine sg ?_
   refine hK6 _ ?_
   clear hK6 K6
   refine AT_seq_region fun K7 hK7 => ?_
   simp [hbig]
   repeat refine sg ?_
   refine RVn_call ((by have h := c_ref07x_WholeExpr g s (by omega); rw [hw] at h; exact h)) ?_
   simp [hbig]
   repeat refine sg ?_
   refine hK7 _ ?_
   clear hK7 K7
   refine AT_seq_k fun K8 hK8 => ?_
   refine AT_seq_region fun K9 hK9 => ?_
   simp [hbig]
   repeat refine sg ?_
   refine RVn_call ((eqE_refl t ▸ c_ref05x_Equal g false t t (by omega) : Valid Tryz.prog (G0 g false) 7 [.agg (encE t), .agg (encE t)] (.bool true))) ?_
   simp [hbig]
   repeat refine sg ?_
   refine RVn_call (htd) ?_
   simp [hbig]
   repeat refine sg ?_
   refine hK9 _ ?_
   clear hK9 K9
   refine AT_cond (b := false) (g := none) (by simp [hbig]) (fun hb => ?_) (fun hb => ?_)
   ·
    cases hb
   ·
    clear hb
    refine AT_skip ?_
    try simp only [nrm, reduceIte, Nat.reduceEqDiff]
    refine hK8 _ ?_
    by_cases hk : k = 0
    ·
     have hr := hrt hk
     have hk2 : (k != 0) = false := by simp [hk]
     refine AT_seq_region fun K10 hK10 => ?_
     simp [hbig, hk2, hr]
     repeat refine sg ?_
     try (
      refine RVn_call (c_ref05x_Right g false t (by omega)) ?_
      simp [hbig, hk2, hr]
      repeat refine sg ?_)
     try (
      refine RVn_call (c_expr_Right g false t (by omega) hres) ?_
      simp [hbig, hk2, hr]
      repeat refine sg ?_)
     refine hK10 _ ?_
     clear hK10 K10
     refine AT_ret ?_
     simp [Tryz.f3]
    ·
     have hk2 : (k != 0) = true := by simp [hk]
     refine AT_seq_region fun K11 hK11 => ?_
     simp [hbig, hk2]
     repeat refine sg ?_
     try (
      refine RVn_call (c_ref05x_Right g false t (by omega)) ?_
      simp [hbig, hk2]
      repeat refine sg ?_)
     try (
      refine RVn_call (c_expr_Right g false t (by omega) hres) ?_
      simp [hbig, hk2]
      repeat refine sg ?_)
     refine hK11 _ ?_
     clear hK11 K11
     refine AT_ret ?_
     simp [Tryz.f3]

end Go.Proofs.YtpjkdaechknogaaGreatDoor

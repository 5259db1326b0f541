/- Contracts: the shape of an expression. -/
import Derived.Test.YtpjkdaechknogaaGreatDoorPt
import Derived.Test.YtpjkdaechknogaaGreatDoorPvPa
import Derived.Test.YtpjkdaechknogaaGreatDoorPvX
import Derived.Test.YtpjkdaechknogaaGreatDoorXRpA
import Derived.Test.YtpjkdaechknogaaGreatDoorXRpA
import Derived.Test.YtpjkdaechknogaaGreatDoorXExA
import Derived.Test.YtpjkdaechknogaaGreatDoorXRpA
import Derived.Test.YtpjkdaechknogaaGreatDoorXRdH
import Derived.Test.YtpjkdaechknogaaGreatDoorXRdH
import Derived.Test.YtpjkdaechknogaaGreatDoorXNaB
set_option linter.all false
set_option maxHeartbeats 1000000
set_option maxRecDepth 10000
namespace Go.Proofs.YtpjkdaechknogaaGreatDoor
open Go Go.Pv
variable (g : Nat → Option (List AV)) (rnd : Bool)

theorem c_expr_shape_1 (t : Ty) (hw : wt t ≤ 1000000000) (hres : g 1 = some reservedA) : Valid Tryz.prog (G0 g rnd) 62 [.agg (encTy t)] (.bool (!rightT t)) := by

 refine valid_of [] Tryz.func62 rfl (by kernel_rfl) ?_
 refine AT_seq_region fun K1 hK1 => ?_
 simp [Tryz.f62]
 repeat refine sg ?_
 refine hK1 _ ?_
 clear hK1 K1
 refine AT_seq_region fun K2 hK2 => ?_
 simp
 repeat refine sg ?_
 refine RVn_call (c_types_Right g rnd t (by omega) hres) ?_
 simp
 repeat refine sg ?_
 refine hK2 _ ?_
 clear hK2 K2
 refine AT_ret ?_
 simp [Tryz.f62]

theorem c_expr_shape (e : Exp) (hw : wtE e ≤ 1000000000) (hres : g 1 = some reservedA) : Valid Tryz.prog (G0 g rnd) 30 [.agg (encE e)] (.bool (shapeE e)) := by
 obtain ⟨kd, n, t, ta, l, p⟩ := e
 obtain ⟨tn, tas, tp⟩ := t
 have hw2 : n.length + 1 + wt (.mk tn tas tp) + wts ta + wtEs l ≤ 1000000000 := by simpa [wtE_mk] using hw
 have hln := wtEs_len l
 have hla := wts_len ta
 obtain ⟨s1, hs1⟩ : ∃ s1, s1 = (tn.isEmpty && tas.isEmpty && ta.isEmpty) := ⟨_, rfl⟩
 obtain ⟨s2, hs2⟩ : ∃ s2, s2 = (tn.isEmpty && tas.isEmpty) := ⟨_, rfl⟩
 obtain ⟨s3, hs3⟩ : ∃ s3, s3 = (n.isEmpty && ta.isEmpty) := ⟨_, rfl⟩
 refine valid_of [] Tryz.func30 rfl (by kernel_rfl) ?_
 refine AT_seq_region fun K1 hK1 => ?_
 simp [row_map, Tryz.f30]
 repeat refine sg ?_
 refine hK1 _ ?_
 clear hK1 K1
 rcases kd_cases kd with hk | hk | hk | hk | hk | ⟨e1, e2, e3, e4, e5⟩
 ·
  have e1 : (kd == 1) = true := by rw [hk]; rfl
  have e2 : (kd == 2) = false := by rw [hk]; rfl
  have e3 : (kd == 3) = false := by rw [hk]; rfl
  have e4 : (kd == 4) = false := by rw [hk]; rfl
  have e5 : (kd == 5) = false := by rw [hk]; rfl
  cases hin : (isName n)
  ·
   refine AT_seq_region fun K2 hK2 => ?_
   simp [row_map, e1, e2, e3, e4, e5, hin]
   repeat refine sg ?_
   refine hK2 _ ?_
   clear hK2 K2
   refine AT_seq_region fun K3 hK3 => ?_
   simp [row_map, e1, e2, e3, e4, e5, hin]
   repeat refine sg ?_
   refine hK3 _ ?_
   clear hK3 K3
   refine AT_seq_k fun K4 hK4 => ?_
   refine AT_seq_region fun K5 hK5 => ?_
   simp [row_map, e1, e2, e3, e4, e5, hin]
   repeat refine sg ?_
   refine hK5 _ ?_
   clear hK5 K5
   refine AT_block ?_
   refine AT_seq_region fun K6 hK6 => ?_
   simp [row_map, e1, e2, e3, e4, e5, hin]
   repeat refine sg ?_
   refine hK6 _ ?_
   clear hK6 K6
   refine AT_cond (b := true) (g := none) (by simp [e1, e2, e3, e4, e5, hin]) (fun hb => ?_) (fun hb => ?_)
   ·
    clear hb
    refine AT_seq_region fun K7 hK7 => ?_
    simp [row_map, e1, e2, e3, e4, e5, hin]
    repeat refine sg ?_
    refine hK7 _ ?_
    clear hK7 K7
    refine AT_seq_region fun K8 hK8 => ?_
    simp [row_map, e1, e2, e3, e4, e5, hin]
    repeat refine sg ?_
    try (
     refine RVn_call (c_name_Is g rnd n (by omega) hres) ?_
     simp [row_map, e1, e2, e3, e4, e5, hin]
     repeat refine sg ?_)
    try (
     refine RVn_call ((by have h := c_expr_Same g rnd (.mk kd n (.mk tn tas tp) ta l p) (.mk kd n ty0 [] l 0) (by omega); rw [same_s1, show ((Ty.mk tn tas tp).name.isEmpty && (Ty.mk tn tas tp).args.isEmpty && ta.isEmpty) = s1 from hs1.symm, enc_s1] at h; exact h)) ?_
     simp [row_map, e1, e2, e3, e4, e5, hin]
     repeat refine sg ?_)
    refine hK8 _ ?_
    clear hK8 K8
    refine AT_ret ?_
    simp [row_map, Tryz.f30]
    all_goals rw [shapeE_ok]
    first
    | (simp only [okT, bodyE, kidsE, typedE, e1, e2, e3, e4, e5, Bool.or_false, Bool.false_or, Bool.false_and, Bool.and_false, Bool.true_and, Bool.and_true, Bool.or_true, Bool.true_or, Bool.not_true, Bool.not_false, if_true, if_false, Bool.false_eq_true, reduceIte, Ty.name, Ty.args]; done)
    | (simp only [okT, bodyE, kidsE, typedE, e1, e2, e3, e4, e5, Bool.or_false, Bool.false_or, Bool.false_and, Bool.and_false, Bool.true_and, Bool.and_true, Bool.or_true, Bool.true_or, Bool.not_true, Bool.not_false, if_true, if_false, Bool.false_eq_true, reduceIte, Ty.name, Ty.args, hin]; done)
    | (simp only [okT, bodyE, kidsE, typedE, e1, e2, e3, e4, e5, Bool.or_false, Bool.false_or, Bool.false_and, Bool.and_false, Bool.true_and, Bool.and_true, Bool.or_true, Bool.true_or, Bool.not_true, Bool.not_false, if_true, if_false, Bool.false_eq_true, reduceIte, Ty.name, Ty.args, hr]; done)
    | (simp only [okT, bodyE, kidsE, typedE, e1, e2, e3, e4, e5, Bool.or_false, Bool.false_or, Bool.false_and, Bool.and_false, Bool.true_and, Bool.and_true, Bool.or_true, Bool.true_or, Bool.not_true, Bool.not_false, if_true, if_false, Bool.false_eq_true, reduceIte, Ty.name, Ty.args, hin, hl2]; done)
    | (simp only [okT, bodyE, kidsE, typedE, e1, e2, e3, e4, e5, Bool.or_false, Bool.false_or, Bool.false_and, Bool.and_false, Bool.true_and, Bool.and_true, Bool.or_true, Bool.true_or, Bool.not_true, Bool.not_false, if_true, if_false, Bool.false_eq_true, reduceIte, Ty.name, Ty.args, hr, hl2]; done)
    | (rw [hs1]; simp only [okT, bodyE, kidsE, typedE, e1, e2, e3, e4, e5, Bool.or_false, Bool.false_or, Bool.false_and, Bool.and_false, Bool.true_and, Bool.and_true, Bool.or_true, Bool.true_or, Bool.not_true, Bool.not_false, if_true, if_false, Bool.false_eq_true, reduceIte, Ty.name, Ty.args, hin, hl2]; cases tn.isEmpty <;> cases tas.isEmpty <;> cases ta.isEmpty <;> rfl)
    | (rw [hs3]; simp only [okT, bodyE, kidsE, typedE, e1, e2, e3, e4, e5, Bool.or_false, Bool.false_or, Bool.false_and, Bool.and_false, Bool.true_and, Bool.and_true, Bool.or_true, Bool.true_or, Bool.not_true, Bool.not_false, if_true, if_false, Bool.false_eq_true, reduceIte, Ty.name, Ty.args, hr]; cases n.isEmpty <;> cases ta.isEmpty <;> rfl)
    | (rw [hs3]; simp only [okT, bodyE, kidsE, typedE, e1, e2, e3, e4, e5, Bool.or_false, Bool.false_or, Bool.false_and, Bool.and_false, Bool.true_and, Bool.and_true, Bool.or_true, Bool.true_or, Bool.not_true, Bool.not_false, if_true, if_false, Bool.false_eq_true, reduceIte, Ty.name, Ty.args, hr, hl2]; cases n.isEmpty <;> cases ta.isEmpty <;> rfl)
    | (rw [hsb] at hs2; simp only [okT, bodyE, kidsE, typedE, e1, e2, e3, e4, e5, Bool.or_false, Bool.false_or, Bool.false_and, Bool.and_false, Bool.true_and, Bool.and_true, Bool.or_true, Bool.true_or, Bool.not_true, Bool.not_false, if_true, if_false, Bool.false_eq_true, reduceIte, Ty.name, Ty.args, hin, hl2, ← hs2]; done)
    | (rw [hsb] at hs2; simp only [okT, bodyE, kidsE, typedE, e1, e2, e3, e4, e5, Bool.or_false, Bool.false_or, Bool.false_and, Bool.and_false, Bool.true_and, Bool.and_true, Bool.or_true, Bool.true_or, Bool.not_true, Bool.not_false, if_true, if_false, Bool.false_eq_true, reduceIte, Ty.name, Ty.args, hin, hl2, ← hs2]; cases ta with | nil => rfl | cons x r => simp)
   ·
    cases hb
  ·
   cases hl1 : ((l.length : Int) == 0)
   ·
    have hl2 : l.isEmpty = false := by rw [← len_eq0]; exact hl1
    refine AT_seq_region fun K9 hK9 => ?_
    simp [row_map, e1, e2, e3, e4, e5, hin, hl1]
    repeat refine sg ?_
    refine hK9 _ ?_
    clear hK9 K9
    refine AT_seq_region fun K10 hK10 => ?_
    simp [row_map, e1, e2, e3, e4, e5, hin, hl1]
    repeat refine sg ?_
    refine hK10 _ ?_
    clear hK10 K10
    refine AT_seq_k fun K11 hK11 => ?_
    refine AT_seq_region fun K12 hK12 => ?_
    simp [row_map, e1, e2, e3, e4, e5, hin, hl1]
    repeat refine sg ?_
    refine hK12 _ ?_
    clear hK12 K12
    refine AT_block ?_
    refine AT_seq_region fun K13 hK13 => ?_
    simp [row_map, e1, e2, e3, e4, e5, hin, hl1]
    repeat refine sg ?_
    refine hK13 _ ?_
    clear hK13 K13
    refine AT_cond (b := true) (g := none) (by simp [e1, e2, e3, e4, e5, hin, hl1]) (fun hb => ?_) (fun hb => ?_)
    ·
     clear hb
     refine AT_seq_region fun K14 hK14 => ?_
     simp [row_map, e1, e2, e3, e4, e5, hin, hl1]
     repeat refine sg ?_
     refine hK14 _ ?_
     clear hK14 K14
     refine AT_seq_region fun K15 hK15 => ?_
     simp [row_map, e1, e2, e3, e4, e5, hin, hl1]
     repeat refine sg ?_
     try (
      refine RVn_call (c_name_Is g rnd n (by omega) hres) ?_
      simp [row_map, e1, e2, e3, e4, e5, hin, hl1]
      repeat refine sg ?_)
     try (
      refine RVn_call ((by have h := c_expr_Same g rnd (.mk kd n (.mk tn tas tp) ta l p) (.mk kd n ty0 [] l 0) (by omega); rw [same_s1, show ((Ty.mk tn tas tp).name.isEmpty && (Ty.mk tn tas tp).args.isEmpty && ta.isEmpty) = s1 from hs1.symm, enc_s1] at h; exact h)) ?_
      simp [row_map, e1, e2, e3, e4, e5, hin, hl1]
      repeat refine sg ?_)
     refine hK15 _ ?_
     clear hK15 K15
     refine AT_ret ?_
     simp [row_map, Tryz.f30]
     all_goals rw [shapeE_ok]
     first
     | (simp only [okT, bodyE, kidsE, typedE, e1, e2, e3, e4, e5, Bool.or_false, Bool.false_or, Bool.false_and, Bool.and_false, Bool.true_and, Bool.and_true, Bool.or_true, Bool.true_or, Bool.not_true, Bool.not_false, if_true, if_false, Bool.false_eq_true, reduceIte, Ty.name, Ty.args]; done)
     | (simp only [okT, bodyE, kidsE, typedE, e1, e2, e3, e4, e5, Bool.or_false, Bool.false_or, Bool.false_and, Bool.and_false, Bool.true_and, Bool.and_true, Bool.or_true, Bool.true_or, Bool.not_true, Bool.not_false, if_true, if_false, Bool.false_eq_true, reduceIte, Ty.name, Ty.args, hin]; done)
     | (simp only [okT, bodyE, kidsE, typedE, e1, e2, e3, e4, e5, Bool.or_false, Bool.false_or, Bool.false_and, Bool.and_false, Bool.true_and, Bool.and_true, Bool.or_true, Bool.true_or, Bool.not_true, Bool.not_false, if_true, if_false, Bool.false_eq_true, reduceIte, Ty.name, Ty.args, hr]; done)
     | (simp only [okT, bodyE, kidsE, typedE, e1, e2, e3, e4, e5, Bool.or_false, Bool.false_or, Bool.false_and, Bool.and_false, Bool.true_and, Bool.and_true, Bool.or_true, Bool.true_or, Bool.not_true, Bool.not_false, if_true, if_false, Bool.false_eq_true, reduceIte, Ty.name, Ty.args, hin, hl2]; done)
     | (simp only [okT, bodyE, kidsE, typedE, e1, e2, e3, e4, e5, Bool.or_false, Bool.false_or, Bool.false_and, Bool.and_false, Bool.true_and, Bool.and_true, Bool.or_true, Bool.true_or, Bool.not_true, Bool.not_false, if_true, if_false, Bool.false_eq_true, reduceIte, Ty.name, Ty.args, hr, hl2]; done)
     | (rw [hs1]; simp only [okT, bodyE, kidsE, typedE, e1, e2, e3, e4, e5, Bool.or_false, Bool.false_or, Bool.false_and, Bool.and_false, Bool.true_and, Bool.and_true, Bool.or_true, Bool.true_or, Bool.not_true, Bool.not_false, if_true, if_false, Bool.false_eq_true, reduceIte, Ty.name, Ty.args, hin, hl2]; cases tn.isEmpty <;> cases tas.isEmpty <;> cases ta.isEmpty <;> rfl)
     | (rw [hs3]; simp only [okT, bodyE, kidsE, typedE, e1, e2, e3, e4, e5, Bool.or_false, Bool.false_or, Bool.false_and, Bool.and_false, Bool.true_and, Bool.and_true, Bool.or_true, Bool.true_or, Bool.not_true, Bool.not_false, if_true, if_false, Bool.false_eq_true, reduceIte, Ty.name, Ty.args, hr]; cases n.isEmpty <;> cases ta.isEmpty <;> rfl)
     | (rw [hs3]; simp only [okT, bodyE, kidsE, typedE, e1, e2, e3, e4, e5, Bool.or_false, Bool.false_or, Bool.false_and, Bool.and_false, Bool.true_and, Bool.and_true, Bool.or_true, Bool.true_or, Bool.not_true, Bool.not_false, if_true, if_false, Bool.false_eq_true, reduceIte, Ty.name, Ty.args, hr, hl2]; cases n.isEmpty <;> cases ta.isEmpty <;> rfl)
     | (rw [hsb] at hs2; simp only [okT, bodyE, kidsE, typedE, e1, e2, e3, e4, e5, Bool.or_false, Bool.false_or, Bool.false_and, Bool.and_false, Bool.true_and, Bool.and_true, Bool.or_true, Bool.true_or, Bool.not_true, Bool.not_false, if_true, if_false, Bool.false_eq_true, reduceIte, Ty.name, Ty.args, hin, hl2, ← hs2]; done)
     | (rw [hsb] at hs2; simp only [okT, bodyE, kidsE, typedE, e1, e2, e3, e4, e5, Bool.or_false, Bool.false_or, Bool.false_and, Bool.and_false, Bool.true_and, Bool.and_true, Bool.or_true, Bool.true_or, Bool.not_true, Bool.not_false, if_true, if_false, Bool.false_eq_true, reduceIte, Ty.name, Ty.args, hin, hl2, ← hs2]; cases ta with | nil => rfl | cons x r => simp)
    ·
     cases hb
   ·
    have hl2 : l.isEmpty = true := by rw [← len_eq0]; exact hl1
    refine AT_seq_region fun K16 hK16 => ?_
    simp [row_map, e1, e2, e3, e4, e5, hin, hl1]
    repeat refine sg ?_
    refine hK16 _ ?_
    clear hK16 K16
    refine AT_seq_region fun K17 hK17 => ?_
    simp [row_map, e1, e2, e3, e4, e5, hin, hl1]
    repeat refine sg ?_
    refine hK17 _ ?_
    clear hK17 K17
    refine AT_seq_k fun K18 hK18 => ?_
    refine AT_seq_region fun K19 hK19 => ?_
    simp [row_map, e1, e2, e3, e4, e5, hin, hl1]
    repeat refine sg ?_
    refine hK19 _ ?_
    clear hK19 K19
    refine AT_block ?_
    refine AT_seq_region fun K20 hK20 => ?_
    simp [row_map, e1, e2, e3, e4, e5, hin, hl1]
    repeat refine sg ?_
    refine hK20 _ ?_
    clear hK20 K20
    refine AT_cond (b := true) (g := none) (by simp [e1, e2, e3, e4, e5, hin, hl1]) (fun hb => ?_) (fun hb => ?_)
    ·
     clear hb
     refine AT_seq_region fun K21 hK21 => ?_
     simp [row_map, e1, e2, e3, e4, e5, hin, hl1]
     repeat refine sg ?_
     refine hK21 _ ?_
     clear hK21 K21
     refine AT_seq_region fun K22 hK22 => ?_
     simp [row_map, e1, e2, e3, e4, e5, hin, hl1]
     repeat refine sg ?_
     try (
      refine RVn_call (c_name_Is g rnd n (by omega) hres) ?_
      simp [row_map, e1, e2, e3, e4, e5, hin, hl1]
      repeat refine sg ?_)
     try (
      refine RVn_call ((by have h := c_expr_Same g rnd (.mk kd n (.mk tn tas tp) ta l p) (.mk kd n ty0 [] l 0) (by omega); rw [same_s1, show ((Ty.mk tn tas tp).name.isEmpty && (Ty.mk tn tas tp).args.isEmpty && ta.isEmpty) = s1 from hs1.symm, enc_s1] at h; exact h)) ?_
      simp [row_map, e1, e2, e3, e4, e5, hin, hl1]
      repeat refine sg ?_)
     refine hK22 _ ?_
     clear hK22 K22
     refine AT_ret ?_
     simp [row_map, Tryz.f30]
     all_goals rw [shapeE_ok]
     first
     | (simp only [okT, bodyE, kidsE, typedE, e1, e2, e3, e4, e5, Bool.or_false, Bool.false_or, Bool.false_and, Bool.and_false, Bool.true_and, Bool.and_true, Bool.or_true, Bool.true_or, Bool.not_true, Bool.not_false, if_true, if_false, Bool.false_eq_true, reduceIte, Ty.name, Ty.args]; done)
     | (simp only [okT, bodyE, kidsE, typedE, e1, e2, e3, e4, e5, Bool.or_false, Bool.false_or, Bool.false_and, Bool.and_false, Bool.true_and, Bool.and_true, Bool.or_true, Bool.true_or, Bool.not_true, Bool.not_false, if_true, if_false, Bool.false_eq_true, reduceIte, Ty.name, Ty.args, hin]; done)
     | (simp only [okT, bodyE, kidsE, typedE, e1, e2, e3, e4, e5, Bool.or_false, Bool.false_or, Bool.false_and, Bool.and_false, Bool.true_and, Bool.and_true, Bool.or_true, Bool.true_or, Bool.not_true, Bool.not_false, if_true, if_false, Bool.false_eq_true, reduceIte, Ty.name, Ty.args, hr]; done)
     | (simp only [okT, bodyE, kidsE, typedE, e1, e2, e3, e4, e5, Bool.or_false, Bool.false_or, Bool.false_and, Bool.and_false, Bool.true_and, Bool.and_true, Bool.or_true, Bool.true_or, Bool.not_true, Bool.not_false, if_true, if_false, Bool.false_eq_true, reduceIte, Ty.name, Ty.args, hin, hl2]; done)
     | (simp only [okT, bodyE, kidsE, typedE, e1, e2, e3, e4, e5, Bool.or_false, Bool.false_or, Bool.false_and, Bool.and_false, Bool.true_and, Bool.and_true, Bool.or_true, Bool.true_or, Bool.not_true, Bool.not_false, if_true, if_false, Bool.false_eq_true, reduceIte, Ty.name, Ty.args, hr, hl2]; done)
     | (rw [hs1]; simp only [okT, bodyE, kidsE, typedE, e1, e2, e3, e4, e5, Bool.or_false, Bool.false_or, Bool.false_and, Bool.and_false, Bool.true_and, Bool.and_true, Bool.or_true, Bool.true_or, Bool.not_true, Bool.not_false, if_true, if_false, Bool.false_eq_true, reduceIte, Ty.name, Ty.args, hin, hl2]; cases tn.isEmpty <;> cases tas.isEmpty <;> cases ta.isEmpty <;> rfl)
     | (rw [hs3]; simp only [okT, bodyE, kidsE, typedE, e1, e2, e3, e4, e5, Bool.or_false, Bool.false_or, Bool.false_and, Bool.and_false, Bool.true_and, Bool.and_true, Bool.or_true, Bool.true_or, Bool.not_true, Bool.not_false, if_true, if_false, Bool.false_eq_true, reduceIte, Ty.name, Ty.args, hr]; cases n.isEmpty <;> cases ta.isEmpty <;> rfl)
     | (rw [hs3]; simp only [okT, bodyE, kidsE, typedE, e1, e2, e3, e4, e5, Bool.or_false, Bool.false_or, Bool.false_and, Bool.and_false, Bool.true_and, Bool.and_true, Bool.or_true, Bool.true_or, Bool.not_true, Bool.not_false, if_true, if_false, Bool.false_eq_true, reduceIte, Ty.name, Ty.args, hr, hl2]; cases n.isEmpty <;> cases ta.isEmpty <;> rfl)
     | (rw [hsb] at hs2; simp only [okT, bodyE, kidsE, typedE, e1, e2, e3, e4, e5, Bool.or_false, Bool.false_or, Bool.false_and, Bool.and_false, Bool.true_and, Bool.and_true, Bool.or_true, Bool.true_or, Bool.not_true, Bool.not_false, if_true, if_false, Bool.false_eq_true, reduceIte, Ty.name, Ty.args, hin, hl2, ← hs2]; done)
     | (rw [hsb] at hs2; simp only [okT, bodyE, kidsE, typedE, e1, e2, e3, e4, e5, Bool.or_false, Bool.false_or, Bool.false_and, Bool.and_false, Bool.true_and, Bool.and_true, Bool.or_true, Bool.true_or, Bool.not_true, Bool.not_false, if_true, if_false, Bool.false_eq_true, reduceIte, Ty.name, Ty.args, hin, hl2, ← hs2]; cases ta with | nil => rfl | cons x r => simp)
    ·
     cases hb
 ·
  have e1 : (kd == 1) = false := by rw [hk]; rfl
  have e2 : (kd == 2) = true := by rw [hk]; rfl
  have e3 : (kd == 3) = false := by rw [hk]; rfl
  have e4 : (kd == 4) = false := by rw [hk]; rfl
  have e5 : (kd == 5) = false := by rw [hk]; rfl
  cases hin : (isName n)
  ·
   refine AT_seq_region fun K23 hK23 => ?_
   simp [row_map, e1, e2, e3, e4, e5, hin]
   repeat refine sg ?_
   refine hK23 _ ?_
   clear hK23 K23
   refine AT_seq_region fun K24 hK24 => ?_
   simp [row_map, e1, e2, e3, e4, e5, hin]
   repeat refine sg ?_
   refine hK24 _ ?_
   clear hK24 K24
   refine AT_seq_k fun K25 hK25 => ?_
   refine AT_seq_region fun K26 hK26 => ?_
   simp [row_map, e1, e2, e3, e4, e5, hin]
   repeat refine sg ?_
   refine hK26 _ ?_
   clear hK26 K26
   refine AT_block ?_
   refine AT_seq_region fun K27 hK27 => ?_
   simp [row_map, e1, e2, e3, e4, e5, hin]
   repeat refine sg ?_
   refine hK27 _ ?_
   clear hK27 K27
   refine AT_cond (b := false) (g := none) (by simp [e1, e2, e3, e4, e5, hin]) (fun hb => ?_) (fun hb => ?_)
   ·
    cases hb
   ·
    clear hb
    refine AT_seq_region fun K28 hK28 => ?_
    simp [row_map, e1, e2, e3, e4, e5, hin]
    repeat refine sg ?_
    refine hK28 _ ?_
    clear hK28 K28
    refine AT_cond (b := true) (g := none) (by simp [e1, e2, e3, e4, e5, hin]) (fun hb => ?_) (fun hb => ?_)
    ·
     clear hb
     refine AT_seq_draw_m false [(1, 1), (3, 3), (35, 1), (37, 1), (39, 3), (40, 3)] Pt.mixed (by kernel_rfl) ⟨by simp [Im, okP, AS.get, look, TV.strip], fun h => by cases h⟩ fun K29 hK29 => ?_
     simp [row_map, e1, e2, e3, e4, e5, hin]
     repeat refine sg ?_
     refine hK29 _ ?_
     clear hK29 K29
     refine AT_seq_region fun K30 hK30 => ?_
     simp [row_map, e1, e2, e3, e4, e5, hin]
     repeat refine sg ?_
     refine hK30 _ ?_
     clear hK30 K30
     refine AT_seq_region fun K31 hK31 => ?_
     simp [row_map, e1, e2, e3, e4, e5, hin]
     repeat refine sg ?_
     try (
      refine RVn_call (c_name_Is g rnd n (by omega) hres) ?_
      simp [row_map, e1, e2, e3, e4, e5, hin]
      repeat refine sg ?_)
     try (
      refine RVn_call ((by have h := c_expr_Same g rnd (.mk kd n (.mk tn tas tp) ta l p) (.mk kd n ty0 ta l 0) (by omega); rw [same_s2, show ((Ty.mk tn tas tp).name.isEmpty && (Ty.mk tn tas tp).args.isEmpty) = s2 from hs2.symm, enc_s1] at h; exact h)) ?_
      simp [row_map, e1, e2, e3, e4, e5, hin]
      repeat refine sg ?_)
     try (
      refine RVn_call ((by have h := c_slices_ContainsFunc_api_Type_api_Type_q g rnd 62 [] (fun x => !rightT x) ta (by omega) (fun x hx => c_expr_shape_1 g rnd x (by have := wts_mem hx; omega) hres); rw [any_right] at h; exact h)) ?_
      simp [row_map, e1, e2, e3, e4, e5, hin]
      repeat refine sg ?_)
     refine hK31 _ ?_
     clear hK31 K31
     refine AT_ret ?_
     simp [row_map, Tryz.f30]
     all_goals rw [shapeE_ok]
     first
     | (simp only [okT, bodyE, kidsE, typedE, e1, e2, e3, e4, e5, Bool.or_false, Bool.false_or, Bool.false_and, Bool.and_false, Bool.true_and, Bool.and_true, Bool.or_true, Bool.true_or, Bool.not_true, Bool.not_false, if_true, if_false, Bool.false_eq_true, reduceIte, Ty.name, Ty.args]; done)
     | (simp only [okT, bodyE, kidsE, typedE, e1, e2, e3, e4, e5, Bool.or_false, Bool.false_or, Bool.false_and, Bool.and_false, Bool.true_and, Bool.and_true, Bool.or_true, Bool.true_or, Bool.not_true, Bool.not_false, if_true, if_false, Bool.false_eq_true, reduceIte, Ty.name, Ty.args, hin]; done)
     | (simp only [okT, bodyE, kidsE, typedE, e1, e2, e3, e4, e5, Bool.or_false, Bool.false_or, Bool.false_and, Bool.and_false, Bool.true_and, Bool.and_true, Bool.or_true, Bool.true_or, Bool.not_true, Bool.not_false, if_true, if_false, Bool.false_eq_true, reduceIte, Ty.name, Ty.args, hr]; done)
     | (simp only [okT, bodyE, kidsE, typedE, e1, e2, e3, e4, e5, Bool.or_false, Bool.false_or, Bool.false_and, Bool.and_false, Bool.true_and, Bool.and_true, Bool.or_true, Bool.true_or, Bool.not_true, Bool.not_false, if_true, if_false, Bool.false_eq_true, reduceIte, Ty.name, Ty.args, hin, hl2]; done)
     | (simp only [okT, bodyE, kidsE, typedE, e1, e2, e3, e4, e5, Bool.or_false, Bool.false_or, Bool.false_and, Bool.and_false, Bool.true_and, Bool.and_true, Bool.or_true, Bool.true_or, Bool.not_true, Bool.not_false, if_true, if_false, Bool.false_eq_true, reduceIte, Ty.name, Ty.args, hr, hl2]; done)
     | (rw [hs1]; simp only [okT, bodyE, kidsE, typedE, e1, e2, e3, e4, e5, Bool.or_false, Bool.false_or, Bool.false_and, Bool.and_false, Bool.true_and, Bool.and_true, Bool.or_true, Bool.true_or, Bool.not_true, Bool.not_false, if_true, if_false, Bool.false_eq_true, reduceIte, Ty.name, Ty.args, hin, hl2]; cases tn.isEmpty <;> cases tas.isEmpty <;> cases ta.isEmpty <;> rfl)
     | (rw [hs3]; simp only [okT, bodyE, kidsE, typedE, e1, e2, e3, e4, e5, Bool.or_false, Bool.false_or, Bool.false_and, Bool.and_false, Bool.true_and, Bool.and_true, Bool.or_true, Bool.true_or, Bool.not_true, Bool.not_false, if_true, if_false, Bool.false_eq_true, reduceIte, Ty.name, Ty.args, hr]; cases n.isEmpty <;> cases ta.isEmpty <;> rfl)
     | (rw [hs3]; simp only [okT, bodyE, kidsE, typedE, e1, e2, e3, e4, e5, Bool.or_false, Bool.false_or, Bool.false_and, Bool.and_false, Bool.true_and, Bool.and_true, Bool.or_true, Bool.true_or, Bool.not_true, Bool.not_false, if_true, if_false, Bool.false_eq_true, reduceIte, Ty.name, Ty.args, hr, hl2]; cases n.isEmpty <;> cases ta.isEmpty <;> rfl)
     | (rw [hsb] at hs2; simp only [okT, bodyE, kidsE, typedE, e1, e2, e3, e4, e5, Bool.or_false, Bool.false_or, Bool.false_and, Bool.and_false, Bool.true_and, Bool.and_true, Bool.or_true, Bool.true_or, Bool.not_true, Bool.not_false, if_true, if_false, Bool.false_eq_true, reduceIte, Ty.name, Ty.args, hin, hl2, ← hs2]; done)
     | (rw [hsb] at hs2; simp only [okT, bodyE, kidsE, typedE, e1, e2, e3, e4, e5, Bool.or_false, Bool.false_or, Bool.false_and, Bool.and_false, Bool.true_and, Bool.and_true, Bool.or_true, Bool.true_or, Bool.not_true, Bool.not_false, if_true, if_false, Bool.false_eq_true, reduceIte, Ty.name, Ty.args, hin, hl2, ← hs2]; cases ta with | nil => rfl | cons x r => simp)
    ·
     cases hb
  ·
   by_cases hl1 : (1 : Int) ≤ l.length
   ·
    have hl2 : l.isEmpty = false := by rw [← Bool.not_eq_true, List.isEmpty_iff]; intro h; rw [h] at hl1; simp at hl1
    cases hsb : s2
    ·
     refine AT_seq_region fun K32 hK32 => ?_
     simp [row_map, e1, e2, e3, e4, e5, hin, hl1, hsb]
     repeat refine sg ?_
     refine hK32 _ ?_
     clear hK32 K32
     refine AT_seq_region fun K33 hK33 => ?_
     simp [row_map, e1, e2, e3, e4, e5, hin, hl1, hsb]
     repeat refine sg ?_
     refine hK33 _ ?_
     clear hK33 K33
     refine AT_seq_k fun K34 hK34 => ?_
     refine AT_seq_region fun K35 hK35 => ?_
     simp [row_map, e1, e2, e3, e4, e5, hin, hl1, hsb]
     repeat refine sg ?_
     refine hK35 _ ?_
     clear hK35 K35
     refine AT_block ?_
     refine AT_seq_region fun K36 hK36 => ?_
     simp [row_map, e1, e2, e3, e4, e5, hin, hl1, hsb]
     repeat refine sg ?_
     refine hK36 _ ?_
     clear hK36 K36
     refine AT_cond (b := false) (g := none) (by simp [e1, e2, e3, e4, e5, hin, hl1, hsb]) (fun hb => ?_) (fun hb => ?_)
     ·
      cases hb
     ·
      clear hb
      refine AT_seq_region fun K37 hK37 => ?_
      simp [row_map, e1, e2, e3, e4, e5, hin, hl1, hsb]
      repeat refine sg ?_
      refine hK37 _ ?_
      clear hK37 K37
      refine AT_cond (b := true) (g := none) (by simp [e1, e2, e3, e4, e5, hin, hl1, hsb]) (fun hb => ?_) (fun hb => ?_)
      ·
       clear hb
       refine AT_seq_draw_m false [(1, 1), (3, 3), (35, 1), (37, 1), (39, 3), (40, 3)] Pt.mixed (by kernel_rfl) ⟨by simp [Im, okP, AS.get, look, TV.strip], fun h => by cases h⟩ fun K38 hK38 => ?_
       simp [row_map, e1, e2, e3, e4, e5, hin, hl1, hsb]
       repeat refine sg ?_
       refine hK38 _ ?_
       clear hK38 K38
       refine AT_seq_region fun K39 hK39 => ?_
       simp [row_map, e1, e2, e3, e4, e5, hin, hl1, hsb]
       repeat refine sg ?_
       refine hK39 _ ?_
       clear hK39 K39
       refine AT_seq_region fun K40 hK40 => ?_
       simp [row_map, e1, e2, e3, e4, e5, hin, hl1, hsb]
       repeat refine sg ?_
       try (
        refine RVn_call (c_name_Is g rnd n (by omega) hres) ?_
        simp [row_map, e1, e2, e3, e4, e5, hin, hl1, hsb]
        repeat refine sg ?_)
       try (
        refine RVn_call ((by have h := c_expr_Same g rnd (.mk kd n (.mk tn tas tp) ta l p) (.mk kd n ty0 ta l 0) (by omega); rw [same_s2, show ((Ty.mk tn tas tp).name.isEmpty && (Ty.mk tn tas tp).args.isEmpty) = s2 from hs2.symm, enc_s1] at h; exact h)) ?_
        simp [row_map, e1, e2, e3, e4, e5, hin, hl1, hsb]
        repeat refine sg ?_)
       try (
        refine RVn_call ((by have h := c_slices_ContainsFunc_api_Type_api_Type_q g rnd 62 [] (fun x => !rightT x) ta (by omega) (fun x hx => c_expr_shape_1 g rnd x (by have := wts_mem hx; omega) hres); rw [any_right] at h; exact h)) ?_
        simp [row_map, e1, e2, e3, e4, e5, hin, hl1, hsb]
        repeat refine sg ?_)
       refine hK40 _ ?_
       clear hK40 K40
       refine AT_ret ?_
       simp [row_map, Tryz.f30]
       all_goals rw [shapeE_ok]
       first
       | (simp only [okT, bodyE, kidsE, typedE, e1, e2, e3, e4, e5, Bool.or_false, Bool.false_or, Bool.false_and, Bool.and_false, Bool.true_and, Bool.and_true, Bool.or_true, Bool.true_or, Bool.not_true, Bool.not_false, if_true, if_false, Bool.false_eq_true, reduceIte, Ty.name, Ty.args]; done)
       | (simp only [okT, bodyE, kidsE, typedE, e1, e2, e3, e4, e5, Bool.or_false, Bool.false_or, Bool.false_and, Bool.and_false, Bool.true_and, Bool.and_true, Bool.or_true, Bool.true_or, Bool.not_true, Bool.not_false, if_true, if_false, Bool.false_eq_true, reduceIte, Ty.name, Ty.args, hin]; done)
       | (simp only [okT, bodyE, kidsE, typedE, e1, e2, e3, e4, e5, Bool.or_false, Bool.false_or, Bool.false_and, Bool.and_false, Bool.true_and, Bool.and_true, Bool.or_true, Bool.true_or, Bool.not_true, Bool.not_false, if_true, if_false, Bool.false_eq_true, reduceIte, Ty.name, Ty.args, hr]; done)
       | (simp only [okT, bodyE, kidsE, typedE, e1, e2, e3, e4, e5, Bool.or_false, Bool.false_or, Bool.false_and, Bool.and_false, Bool.true_and, Bool.and_true, Bool.or_true, Bool.true_or, Bool.not_true, Bool.not_false, if_true, if_false, Bool.false_eq_true, reduceIte, Ty.name, Ty.args, hin, hl2]; done)
       | (simp only [okT, bodyE, kidsE, typedE, e1, e2, e3, e4, e5, Bool.or_false, Bool.false_or, Bool.false_and, Bool.and_false, Bool.true_and, Bool.and_true, Bool.or_true, Bool.true_or, Bool.not_true, Bool.not_false, if_true, if_false, Bool.false_eq_true, reduceIte, Ty.name, Ty.args, hr, hl2]; done)
       | (rw [hs1]; simp only [okT, bodyE, kidsE, typedE, e1, e2, e3, e4, e5, Bool.or_false, Bool.false_or, Bool.false_and, Bool.and_false, Bool.true_and, Bool.and_true, Bool.or_true, Bool.true_or, Bool.not_true, Bool.not_false, if_true, if_false, Bool.false_eq_true, reduceIte, Ty.name, Ty.args, hin, hl2]; cases tn.isEmpty <;> cases tas.isEmpty <;> cases ta.isEmpty <;> rfl)
       | (rw [hs3]; simp only [okT, bodyE, kidsE, typedE, e1, e2, e3, e4, e5, Bool.or_false, Bool.false_or, Bool.false_and, Bool.and_false, Bool.true_and, Bool.and_true, Bool.or_true, Bool.true_or, Bool.not_true, Bool.not_false, if_true, if_false, Bool.false_eq_true, reduceIte, Ty.name, Ty.args, hr]; cases n.isEmpty <;> cases ta.isEmpty <;> rfl)
       | (rw [hs3]; simp only [okT, bodyE, kidsE, typedE, e1, e2, e3, e4, e5, Bool.or_false, Bool.false_or, Bool.false_and, Bool.and_false, Bool.true_and, Bool.and_true, Bool.or_true, Bool.true_or, Bool.not_true, Bool.not_false, if_true, if_false, Bool.false_eq_true, reduceIte, Ty.name, Ty.args, hr, hl2]; cases n.isEmpty <;> cases ta.isEmpty <;> rfl)
       | (rw [hsb] at hs2; simp only [okT, bodyE, kidsE, typedE, e1, e2, e3, e4, e5, Bool.or_false, Bool.false_or, Bool.false_and, Bool.and_false, Bool.true_and, Bool.and_true, Bool.or_true, Bool.true_or, Bool.not_true, Bool.not_false, if_true, if_false, Bool.false_eq_true, reduceIte, Ty.name, Ty.args, hin, hl2, ← hs2]; done)
       | (rw [hsb] at hs2; simp only [okT, bodyE, kidsE, typedE, e1, e2, e3, e4, e5, Bool.or_false, Bool.false_or, Bool.false_and, Bool.and_false, Bool.true_and, Bool.and_true, Bool.or_true, Bool.true_or, Bool.not_true, Bool.not_false, if_true, if_false, Bool.false_eq_true, reduceIte, Ty.name, Ty.args, hin, hl2, ← hs2]; cases ta with | nil => rfl | cons x r => simp)
      ·
       cases hb
    ·
     refine AT_seq_region fun K41 hK41 => ?_
     simp [row_map, e1, e2, e3, e4, e5, hin, hl1, hsb]
     repeat refine sg ?_
     refine hK41 _ ?_
     clear hK41 K41
     refine AT_seq_region fun K42 hK42 => ?_
     simp [row_map, e1, e2, e3, e4, e5, hin, hl1, hsb]
     repeat refine sg ?_
     refine hK42 _ ?_
     clear hK42 K42
     refine AT_seq_k fun K43 hK43 => ?_
     refine AT_seq_region fun K44 hK44 => ?_
     simp [row_map, e1, e2, e3, e4, e5, hin, hl1, hsb]
     repeat refine sg ?_
     refine hK44 _ ?_
     clear hK44 K44
     refine AT_block ?_
     refine AT_seq_region fun K45 hK45 => ?_
     simp [row_map, e1, e2, e3, e4, e5, hin, hl1, hsb]
     repeat refine sg ?_
     refine hK45 _ ?_
     clear hK45 K45
     refine AT_cond (b := false) (g := none) (by simp [e1, e2, e3, e4, e5, hin, hl1, hsb]) (fun hb => ?_) (fun hb => ?_)
     ·
      cases hb
     ·
      clear hb
      refine AT_seq_region fun K46 hK46 => ?_
      simp [row_map, e1, e2, e3, e4, e5, hin, hl1, hsb]
      repeat refine sg ?_
      refine hK46 _ ?_
      clear hK46 K46
      refine AT_cond (b := true) (g := none) (by simp [e1, e2, e3, e4, e5, hin, hl1, hsb]) (fun hb => ?_) (fun hb => ?_)
      ·
       clear hb
       refine AT_seq_draw_m false [(1, 1), (3, 3), (35, 1), (37, 1), (39, 3), (40, 3)] Pt.mixed (by kernel_rfl) ⟨by simp [Im, okP, AS.get, look, TV.strip], fun h => by cases h⟩ fun K47 hK47 => ?_
       simp [row_map, e1, e2, e3, e4, e5, hin, hl1, hsb]
       repeat refine sg ?_
       refine hK47 _ ?_
       clear hK47 K47
       refine AT_seq_region fun K48 hK48 => ?_
       simp [row_map, e1, e2, e3, e4, e5, hin, hl1, hsb]
       repeat refine sg ?_
       refine hK48 _ ?_
       clear hK48 K48
       refine AT_seq_region fun K49 hK49 => ?_
       simp [row_map, e1, e2, e3, e4, e5, hin, hl1, hsb]
       repeat refine sg ?_
       try (
        refine RVn_call (c_name_Is g rnd n (by omega) hres) ?_
        simp [row_map, e1, e2, e3, e4, e5, hin, hl1, hsb]
        repeat refine sg ?_)
       try (
        refine RVn_call ((by have h := c_expr_Same g rnd (.mk kd n (.mk tn tas tp) ta l p) (.mk kd n ty0 ta l 0) (by omega); rw [same_s2, show ((Ty.mk tn tas tp).name.isEmpty && (Ty.mk tn tas tp).args.isEmpty) = s2 from hs2.symm, enc_s1] at h; exact h)) ?_
        simp [row_map, e1, e2, e3, e4, e5, hin, hl1, hsb]
        repeat refine sg ?_)
       try (
        refine RVn_call ((by have h := c_slices_ContainsFunc_api_Type_api_Type_q g rnd 62 [] (fun x => !rightT x) ta (by omega) (fun x hx => c_expr_shape_1 g rnd x (by have := wts_mem hx; omega) hres); rw [any_right] at h; exact h)) ?_
        simp [row_map, e1, e2, e3, e4, e5, hin, hl1, hsb]
        repeat refine sg ?_)
       refine hK49 _ ?_
       clear hK49 K49
       refine AT_ret ?_
       simp [row_map, Tryz.f30]
       all_goals rw [shapeE_ok]
       first
       | (simp only [okT, bodyE, kidsE, typedE, e1, e2, e3, e4, e5, Bool.or_false, Bool.false_or, Bool.false_and, Bool.and_false, Bool.true_and, Bool.and_true, Bool.or_true, Bool.true_or, Bool.not_true, Bool.not_false, if_true, if_false, Bool.false_eq_true, reduceIte, Ty.name, Ty.args]; done)
       | (simp only [okT, bodyE, kidsE, typedE, e1, e2, e3, e4, e5, Bool.or_false, Bool.false_or, Bool.false_and, Bool.and_false, Bool.true_and, Bool.and_true, Bool.or_true, Bool.true_or, Bool.not_true, Bool.not_false, if_true, if_false, Bool.false_eq_true, reduceIte, Ty.name, Ty.args, hin]; done)
       | (simp only [okT, bodyE, kidsE, typedE, e1, e2, e3, e4, e5, Bool.or_false, Bool.false_or, Bool.false_and, Bool.and_false, Bool.true_and, Bool.and_true, Bool.or_true, Bool.true_or, Bool.not_true, Bool.not_false, if_true, if_false, Bool.false_eq_true, reduceIte, Ty.name, Ty.args, hr]; done)
       | (simp only [okT, bodyE, kidsE, typedE, e1, e2, e3, e4, e5, Bool.or_false, Bool.false_or, Bool.false_and, Bool.and_false, Bool.true_and, Bool.and_true, Bool.or_true, Bool.true_or, Bool.not_true, Bool.not_false, if_true, if_false, Bool.false_eq_true, reduceIte, Ty.name, Ty.args, hin, hl2]; done)
       | (simp only [okT, bodyE, kidsE, typedE, e1, e2, e3, e4, e5, Bool.or_false, Bool.false_or, Bool.false_and, Bool.and_false, Bool.true_and, Bool.and_true, Bool.or_true, Bool.true_or, Bool.not_true, Bool.not_false, if_true, if_false, Bool.false_eq_true, reduceIte, Ty.name, Ty.args, hr, hl2]; done)
       | (rw [hs1]; simp only [okT, bodyE, kidsE, typedE, e1, e2, e3, e4, e5, Bool.or_false, Bool.false_or, Bool.false_and, Bool.and_false, Bool.true_and, Bool.and_true, Bool.or_true, Bool.true_or, Bool.not_true, Bool.not_false, if_true, if_false, Bool.false_eq_true, reduceIte, Ty.name, Ty.args, hin, hl2]; cases tn.isEmpty <;> cases tas.isEmpty <;> cases ta.isEmpty <;> rfl)
       | (rw [hs3]; simp only [okT, bodyE, kidsE, typedE, e1, e2, e3, e4, e5, Bool.or_false, Bool.false_or, Bool.false_and, Bool.and_false, Bool.true_and, Bool.and_true, Bool.or_true, Bool.true_or, Bool.not_true, Bool.not_false, if_true, if_false, Bool.false_eq_true, reduceIte, Ty.name, Ty.args, hr]; cases n.isEmpty <;> cases ta.isEmpty <;> rfl)
       | (rw [hs3]; simp only [okT, bodyE, kidsE, typedE, e1, e2, e3, e4, e5, Bool.or_false, Bool.false_or, Bool.false_and, Bool.and_false, Bool.true_and, Bool.and_true, Bool.or_true, Bool.true_or, Bool.not_true, Bool.not_false, if_true, if_false, Bool.false_eq_true, reduceIte, Ty.name, Ty.args, hr, hl2]; cases n.isEmpty <;> cases ta.isEmpty <;> rfl)
       | (rw [hsb] at hs2; simp only [okT, bodyE, kidsE, typedE, e1, e2, e3, e4, e5, Bool.or_false, Bool.false_or, Bool.false_and, Bool.and_false, Bool.true_and, Bool.and_true, Bool.or_true, Bool.true_or, Bool.not_true, Bool.not_false, if_true, if_false, Bool.false_eq_true, reduceIte, Ty.name, Ty.args, hin, hl2, ← hs2]; done)
       | (rw [hsb] at hs2; simp only [okT, bodyE, kidsE, typedE, e1, e2, e3, e4, e5, Bool.or_false, Bool.false_or, Bool.false_and, Bool.and_false, Bool.true_and, Bool.and_true, Bool.or_true, Bool.true_or, Bool.not_true, Bool.not_false, if_true, if_false, Bool.false_eq_true, reduceIte, Ty.name, Ty.args, hin, hl2, ← hs2]; cases ta with | nil => rfl | cons x r => simp)
      ·
       cases hb
   ·
    have hl2 : l.isEmpty = true := by cases l with | nil => rfl | cons x r => exact absurd (by simp; omega) hl1
    refine AT_seq_region fun K50 hK50 => ?_
    simp [row_map, e1, e2, e3, e4, e5, hin, hl1]
    repeat refine sg ?_
    refine hK50 _ ?_
    clear hK50 K50
    refine AT_seq_region fun K51 hK51 => ?_
    simp [row_map, e1, e2, e3, e4, e5, hin, hl1]
    repeat refine sg ?_
    refine hK51 _ ?_
    clear hK51 K51
    refine AT_seq_k fun K52 hK52 => ?_
    refine AT_seq_region fun K53 hK53 => ?_
    simp [row_map, e1, e2, e3, e4, e5, hin, hl1]
    repeat refine sg ?_
    refine hK53 _ ?_
    clear hK53 K53
    refine AT_block ?_
    refine AT_seq_region fun K54 hK54 => ?_
    simp [row_map, e1, e2, e3, e4, e5, hin, hl1]
    repeat refine sg ?_
    refine hK54 _ ?_
    clear hK54 K54
    refine AT_cond (b := false) (g := none) (by simp [e1, e2, e3, e4, e5, hin, hl1]) (fun hb => ?_) (fun hb => ?_)
    ·
     cases hb
    ·
     clear hb
     refine AT_seq_region fun K55 hK55 => ?_
     simp [row_map, e1, e2, e3, e4, e5, hin, hl1]
     repeat refine sg ?_
     refine hK55 _ ?_
     clear hK55 K55
     refine AT_cond (b := true) (g := none) (by simp [e1, e2, e3, e4, e5, hin, hl1]) (fun hb => ?_) (fun hb => ?_)
     ·
      clear hb
      refine AT_seq_draw_m false [(1, 1), (3, 3), (35, 1), (37, 1), (39, 3), (40, 3)] Pt.mixed (by kernel_rfl) ⟨by simp [Im, okP, AS.get, look, TV.strip], fun h => by cases h⟩ fun K56 hK56 => ?_
      simp [row_map, e1, e2, e3, e4, e5, hin, hl1]
      repeat refine sg ?_
      refine hK56 _ ?_
      clear hK56 K56
      refine AT_seq_region fun K57 hK57 => ?_
      simp [row_map, e1, e2, e3, e4, e5, hin, hl1]
      repeat refine sg ?_
      refine hK57 _ ?_
      clear hK57 K57
      refine AT_seq_region fun K58 hK58 => ?_
      simp [row_map, e1, e2, e3, e4, e5, hin, hl1]
      repeat refine sg ?_
      try (
       refine RVn_call (c_name_Is g rnd n (by omega) hres) ?_
       simp [row_map, e1, e2, e3, e4, e5, hin, hl1]
       repeat refine sg ?_)
      try (
       refine RVn_call ((by have h := c_expr_Same g rnd (.mk kd n (.mk tn tas tp) ta l p) (.mk kd n ty0 ta l 0) (by omega); rw [same_s2, show ((Ty.mk tn tas tp).name.isEmpty && (Ty.mk tn tas tp).args.isEmpty) = s2 from hs2.symm, enc_s1] at h; exact h)) ?_
       simp [row_map, e1, e2, e3, e4, e5, hin, hl1]
       repeat refine sg ?_)
      try (
       refine RVn_call ((by have h := c_slices_ContainsFunc_api_Type_api_Type_q g rnd 62 [] (fun x => !rightT x) ta (by omega) (fun x hx => c_expr_shape_1 g rnd x (by have := wts_mem hx; omega) hres); rw [any_right] at h; exact h)) ?_
       simp [row_map, e1, e2, e3, e4, e5, hin, hl1]
       repeat refine sg ?_)
      refine hK58 _ ?_
      clear hK58 K58
      refine AT_ret ?_
      simp [row_map, Tryz.f30]
      all_goals rw [shapeE_ok]
      first
      | (simp only [okT, bodyE, kidsE, typedE, e1, e2, e3, e4, e5, Bool.or_false, Bool.false_or, Bool.false_and, Bool.and_false, Bool.true_and, Bool.and_true, Bool.or_true, Bool.true_or, Bool.not_true, Bool.not_false, if_true, if_false, Bool.false_eq_true, reduceIte, Ty.name, Ty.args]; done)
      | (simp only [okT, bodyE, kidsE, typedE, e1, e2, e3, e4, e5, Bool.or_false, Bool.false_or, Bool.false_and, Bool.and_false, Bool.true_and, Bool.and_true, Bool.or_true, Bool.true_or, Bool.not_true, Bool.not_false, if_true, if_false, Bool.false_eq_true, reduceIte, Ty.name, Ty.args, hin]; done)
      | (simp only [okT, bodyE, kidsE, typedE, e1, e2, e3, e4, e5, Bool.or_false, Bool.false_or, Bool.false_and, Bool.and_false, Bool.true_and, Bool.and_true, Bool.or_true, Bool.true_or, Bool.not_true, Bool.not_false, if_true, if_false, Bool.false_eq_true, reduceIte, Ty.name, Ty.args, hr]; done)
      | (simp only [okT, bodyE, kidsE, typedE, e1, e2, e3, e4, e5, Bool.or_false, Bool.false_or, Bool.false_and, Bool.and_false, Bool.true_and, Bool.and_true, Bool.or_true, Bool.true_or, Bool.not_true, Bool.not_false, if_true, if_false, Bool.false_eq_true, reduceIte, Ty.name, Ty.args, hin, hl2]; done)
      | (simp only [okT, bodyE, kidsE, typedE, e1, e2, e3, e4, e5, Bool.or_false, Bool.false_or, Bool.false_and, Bool.and_false, Bool.true_and, Bool.and_true, Bool.or_true, Bool.true_or, Bool.not_true, Bool.not_false, if_true, if_false, Bool.false_eq_true, reduceIte, Ty.name, Ty.args, hr, hl2]; done)
      | (rw [hs1]; simp only [okT, bodyE, kidsE, typedE, e1, e2, e3, e4, e5, Bool.or_false, Bool.false_or, Bool.false_and, Bool.and_false, Bool.true_and, Bool.and_true, Bool.or_true, Bool.true_or, Bool.not_true, Bool.not_false, if_true, if_false, Bool.false_eq_true, reduceIte, Ty.name, Ty.args, hin, hl2]; cases tn.isEmpty <;> cases tas.isEmpty <;> cases ta.isEmpty <;> rfl)
      | (rw [hs3]; simp only [okT, bodyE, kidsE, typedE, e1, e2, e3, e4, e5, Bool.or_false, Bool.false_or, Bool.false_and, Bool.and_false, Bool.true_and, Bool.and_true, Bool.or_true, Bool.true_or, Bool.not_true, Bool.not_false, if_true, if_false, Bool.false_eq_true, reduceIte, Ty.name, Ty.args, hr]; cases n.isEmpty <;> cases ta.isEmpty <;> rfl)
      | (rw [hs3]; simp only [okT, bodyE, kidsE, typedE, e1, e2, e3, e4, e5, Bool.or_false, Bool.false_or, Bool.false_and, Bool.and_false, Bool.true_and, Bool.and_true, Bool.or_true, Bool.true_or, Bool.not_true, Bool.not_false, if_true, if_false, Bool.false_eq_true, reduceIte, Ty.name, Ty.args, hr, hl2]; cases n.isEmpty <;> cases ta.isEmpty <;> rfl)
      | (rw [hsb] at hs2; simp only [okT, bodyE, kidsE, typedE, e1, e2, e3, e4, e5, Bool.or_false, Bool.false_or, Bool.false_and, Bool.and_false, Bool.true_and, Bool.and_true, Bool.or_true, Bool.true_or, Bool.not_true, Bool.not_false, if_true, if_false, Bool.false_eq_true, reduceIte, Ty.name, Ty.args, hin, hl2, ← hs2]; done)
      | (rw [hsb] at hs2; simp only [okT, bodyE, kidsE, typedE, e1, e2, e3, e4, e5, Bool.or_false, Bool.false_or, Bool.false_and, Bool.and_false, Bool.true_and, Bool.and_true, Bool.or_true, Bool.true_or, Bool.not_true, Bool.not_false, if_true, if_false, Bool.false_eq_true, reduceIte, Ty.name, Ty.args, hin, hl2, ← hs2]; cases ta with | nil => rfl | cons x r => simp)
     ·
      cases hb
 ·
  have e1 : (kd == 1) = false := by rw [hk]; rfl
  have e2 : (kd == 2) = false := by rw [hk]; rfl
  have e3 : (kd == 3) = true := by rw [hk]; rfl
  have e4 : (kd == 4) = false := by rw [hk]; rfl
  have e5 : (kd == 5) = false := by rw [hk]; rfl
  cases hr : (rightT (.mk tn tas tp))
  ·
   refine AT_seq_region fun K59 hK59 => ?_
   simp [row_map, e1, e2, e3, e4, e5, hr]
   repeat refine sg ?_
   refine hK59 _ ?_
   clear hK59 K59
   refine AT_seq_region fun K60 hK60 => ?_
   simp [row_map, e1, e2, e3, e4, e5, hr]
   repeat refine sg ?_
   refine hK60 _ ?_
   clear hK60 K60
   refine AT_seq_k fun K61 hK61 => ?_
   refine AT_seq_region fun K62 hK62 => ?_
   simp [row_map, e1, e2, e3, e4, e5, hr]
   repeat refine sg ?_
   refine hK62 _ ?_
   clear hK62 K62
   refine AT_block ?_
   refine AT_seq_region fun K63 hK63 => ?_
   simp [row_map, e1, e2, e3, e4, e5, hr]
   repeat refine sg ?_
   refine hK63 _ ?_
   clear hK63 K63
   refine AT_cond (b := false) (g := none) (by simp [e1, e2, e3, e4, e5, hr]) (fun hb => ?_) (fun hb => ?_)
   ·
    cases hb
   ·
    clear hb
    refine AT_seq_region fun K64 hK64 => ?_
    simp [row_map, e1, e2, e3, e4, e5, hr]
    repeat refine sg ?_
    refine hK64 _ ?_
    clear hK64 K64
    refine AT_cond (b := false) (g := none) (by simp [e1, e2, e3, e4, e5, hr]) (fun hb => ?_) (fun hb => ?_)
    ·
     cases hb
    ·
     clear hb
     refine AT_seq_region fun K65 hK65 => ?_
     simp [row_map, e1, e2, e3, e4, e5, hr]
     repeat refine sg ?_
     refine hK65 _ ?_
     clear hK65 K65
     refine AT_cond (b := true) (g := none) (by simp [e1, e2, e3, e4, e5, hr]) (fun hb => ?_) (fun hb => ?_)
     ·
      clear hb
      refine AT_seq_region fun K66 hK66 => ?_
      simp [row_map, encTy_mk, e1, e2, e3, e4, e5, hr]
      repeat refine sg ?_
      refine hK66 _ ?_
      clear hK66 K66
      refine AT_seq_region fun K67 hK67 => ?_
      simp [row_map, e1, e2, e3, e4, e5, hr]
      repeat refine sg ?_
      try (
       refine RVn_call (c_types_Right g rnd (.mk tn tas tp) (by omega) hres) ?_
       simp [row_map, e1, e2, e3, e4, e5, hr]
       repeat refine sg ?_)
      try (
       refine RVn_call ((by have h := c_expr_Same g rnd (.mk kd n (.mk tn tas tp) ta l p) (.mk kd [] (.mk tn tas tp) [] l 0) (by omega); rw [same_s3, ← hs3, encE_mk kd [] (.mk tn tas tp) [] l 0] at h; exact h)) ?_
       simp [row_map, e1, e2, e3, e4, e5, hr]
       repeat refine sg ?_)
      refine hK67 _ ?_
      clear hK67 K67
      refine AT_ret ?_
      simp [row_map, Tryz.f30]
      all_goals rw [shapeE_ok]
      first
      | (simp only [okT, bodyE, kidsE, typedE, e1, e2, e3, e4, e5, Bool.or_false, Bool.false_or, Bool.false_and, Bool.and_false, Bool.true_and, Bool.and_true, Bool.or_true, Bool.true_or, Bool.not_true, Bool.not_false, if_true, if_false, Bool.false_eq_true, reduceIte, Ty.name, Ty.args]; done)
      | (simp only [okT, bodyE, kidsE, typedE, e1, e2, e3, e4, e5, Bool.or_false, Bool.false_or, Bool.false_and, Bool.and_false, Bool.true_and, Bool.and_true, Bool.or_true, Bool.true_or, Bool.not_true, Bool.not_false, if_true, if_false, Bool.false_eq_true, reduceIte, Ty.name, Ty.args, hin]; done)
      | (simp only [okT, bodyE, kidsE, typedE, e1, e2, e3, e4, e5, Bool.or_false, Bool.false_or, Bool.false_and, Bool.and_false, Bool.true_and, Bool.and_true, Bool.or_true, Bool.true_or, Bool.not_true, Bool.not_false, if_true, if_false, Bool.false_eq_true, reduceIte, Ty.name, Ty.args, hr]; done)
      | (simp only [okT, bodyE, kidsE, typedE, e1, e2, e3, e4, e5, Bool.or_false, Bool.false_or, Bool.false_and, Bool.and_false, Bool.true_and, Bool.and_true, Bool.or_true, Bool.true_or, Bool.not_true, Bool.not_false, if_true, if_false, Bool.false_eq_true, reduceIte, Ty.name, Ty.args, hin, hl2]; done)
      | (simp only [okT, bodyE, kidsE, typedE, e1, e2, e3, e4, e5, Bool.or_false, Bool.false_or, Bool.false_and, Bool.and_false, Bool.true_and, Bool.and_true, Bool.or_true, Bool.true_or, Bool.not_true, Bool.not_false, if_true, if_false, Bool.false_eq_true, reduceIte, Ty.name, Ty.args, hr, hl2]; done)
      | (rw [hs1]; simp only [okT, bodyE, kidsE, typedE, e1, e2, e3, e4, e5, Bool.or_false, Bool.false_or, Bool.false_and, Bool.and_false, Bool.true_and, Bool.and_true, Bool.or_true, Bool.true_or, Bool.not_true, Bool.not_false, if_true, if_false, Bool.false_eq_true, reduceIte, Ty.name, Ty.args, hin, hl2]; cases tn.isEmpty <;> cases tas.isEmpty <;> cases ta.isEmpty <;> rfl)
      | (rw [hs3]; simp only [okT, bodyE, kidsE, typedE, e1, e2, e3, e4, e5, Bool.or_false, Bool.false_or, Bool.false_and, Bool.and_false, Bool.true_and, Bool.and_true, Bool.or_true, Bool.true_or, Bool.not_true, Bool.not_false, if_true, if_false, Bool.false_eq_true, reduceIte, Ty.name, Ty.args, hr]; cases n.isEmpty <;> cases ta.isEmpty <;> rfl)
      | (rw [hs3]; simp only [okT, bodyE, kidsE, typedE, e1, e2, e3, e4, e5, Bool.or_false, Bool.false_or, Bool.false_and, Bool.and_false, Bool.true_and, Bool.and_true, Bool.or_true, Bool.true_or, Bool.not_true, Bool.not_false, if_true, if_false, Bool.false_eq_true, reduceIte, Ty.name, Ty.args, hr, hl2]; cases n.isEmpty <;> cases ta.isEmpty <;> rfl)
      | (rw [hsb] at hs2; simp only [okT, bodyE, kidsE, typedE, e1, e2, e3, e4, e5, Bool.or_false, Bool.false_or, Bool.false_and, Bool.and_false, Bool.true_and, Bool.and_true, Bool.or_true, Bool.true_or, Bool.not_true, Bool.not_false, if_true, if_false, Bool.false_eq_true, reduceIte, Ty.name, Ty.args, hin, hl2, ← hs2]; done)
      | (rw [hsb] at hs2; simp only [okT, bodyE, kidsE, typedE, e1, e2, e3, e4, e5, Bool.or_false, Bool.false_or, Bool.false_and, Bool.and_false, Bool.true_and, Bool.and_true, Bool.or_true, Bool.true_or, Bool.not_true, Bool.not_false, if_true, if_false, Bool.false_eq_true, reduceIte, Ty.name, Ty.args, hin, hl2, ← hs2]; cases ta with | nil => rfl | cons x r => simp)
     ·
      cases hb
  ·
   refine AT_seq_region fun K68 hK68 => ?_
   simp [row_map, e1, e2, e3, e4, e5, hr]
   repeat refine sg ?_
   refine hK68 _ ?_
   clear hK68 K68
   refine AT_seq_region fun K69 hK69 => ?_
   simp [row_map, e1, e2, e3, e4, e5, hr]
   repeat refine sg ?_
   refine hK69 _ ?_
   clear hK69 K69
   refine AT_seq_k fun K70 hK70 => ?_
   refine AT_seq_region fun K71 hK71 => ?_
   simp [row_map, e1, e2, e3, e4, e5, hr]
   repeat refine sg ?_
   refine hK71 _ ?_
   clear hK71 K71
   refine AT_block ?_
   refine AT_seq_region fun K72 hK72 => ?_
   simp [row_map, e1, e2, e3, e4, e5, hr]
   repeat refine sg ?_
   refine hK72 _ ?_
   clear hK72 K72
   refine AT_cond (b := false) (g := none) (by simp [e1, e2, e3, e4, e5, hr]) (fun hb => ?_) (fun hb => ?_)
   ·
    cases hb
   ·
    clear hb
    refine AT_seq_region fun K73 hK73 => ?_
    simp [row_map, e1, e2, e3, e4, e5, hr]
    repeat refine sg ?_
    refine hK73 _ ?_
    clear hK73 K73
    refine AT_cond (b := false) (g := none) (by simp [e1, e2, e3, e4, e5, hr]) (fun hb => ?_) (fun hb => ?_)
    ·
     cases hb
    ·
     clear hb
     refine AT_seq_region fun K74 hK74 => ?_
     simp [row_map, e1, e2, e3, e4, e5, hr]
     repeat refine sg ?_
     refine hK74 _ ?_
     clear hK74 K74
     refine AT_cond (b := true) (g := none) (by simp [e1, e2, e3, e4, e5, hr]) (fun hb => ?_) (fun hb => ?_)
     ·
      clear hb
      refine AT_seq_region fun K75 hK75 => ?_
      simp [row_map, encTy_mk, e1, e2, e3, e4, e5, hr]
      repeat refine sg ?_
      refine hK75 _ ?_
      clear hK75 K75
      refine AT_seq_region fun K76 hK76 => ?_
      simp [row_map, e1, e2, e3, e4, e5, hr]
      repeat refine sg ?_
      try (
       refine RVn_call (c_types_Right g rnd (.mk tn tas tp) (by omega) hres) ?_
       simp [row_map, e1, e2, e3, e4, e5, hr]
       repeat refine sg ?_)
      try (
       refine RVn_call ((by have h := c_expr_Same g rnd (.mk kd n (.mk tn tas tp) ta l p) (.mk kd [] (.mk tn tas tp) [] l 0) (by omega); rw [same_s3, ← hs3, encE_mk kd [] (.mk tn tas tp) [] l 0] at h; exact h)) ?_
       simp [row_map, e1, e2, e3, e4, e5, hr]
       repeat refine sg ?_)
      refine hK76 _ ?_
      clear hK76 K76
      refine AT_ret ?_
      simp [row_map, Tryz.f30]
      all_goals rw [shapeE_ok]
      first
      | (simp only [okT, bodyE, kidsE, typedE, e1, e2, e3, e4, e5, Bool.or_false, Bool.false_or, Bool.false_and, Bool.and_false, Bool.true_and, Bool.and_true, Bool.or_true, Bool.true_or, Bool.not_true, Bool.not_false, if_true, if_false, Bool.false_eq_true, reduceIte, Ty.name, Ty.args]; done)
      | (simp only [okT, bodyE, kidsE, typedE, e1, e2, e3, e4, e5, Bool.or_false, Bool.false_or, Bool.false_and, Bool.and_false, Bool.true_and, Bool.and_true, Bool.or_true, Bool.true_or, Bool.not_true, Bool.not_false, if_true, if_false, Bool.false_eq_true, reduceIte, Ty.name, Ty.args, hin]; done)
      | (simp only [okT, bodyE, kidsE, typedE, e1, e2, e3, e4, e5, Bool.or_false, Bool.false_or, Bool.false_and, Bool.and_false, Bool.true_and, Bool.and_true, Bool.or_true, Bool.true_or, Bool.not_true, Bool.not_false, if_true, if_false, Bool.false_eq_true, reduceIte, Ty.name, Ty.args, hr]; done)
      | (simp only [okT, bodyE, kidsE, typedE, e1, e2, e3, e4, e5, Bool.or_false, Bool.false_or, Bool.false_and, Bool.and_false, Bool.true_and, Bool.and_true, Bool.or_true, Bool.true_or, Bool.not_true, Bool.not_false, if_true, if_false, Bool.false_eq_true, reduceIte, Ty.name, Ty.args, hin, hl2]; done)
      | (simp only [okT, bodyE, kidsE, typedE, e1, e2, e3, e4, e5, Bool.or_false, Bool.false_or, Bool.false_and, Bool.and_false, Bool.true_and, Bool.and_true, Bool.or_true, Bool.true_or, Bool.not_true, Bool.not_false, if_true, if_false, Bool.false_eq_true, reduceIte, Ty.name, Ty.args, hr, hl2]; done)
      | (rw [hs1]; simp only [okT, bodyE, kidsE, typedE, e1, e2, e3, e4, e5, Bool.or_false, Bool.false_or, Bool.false_and, Bool.and_false, Bool.true_and, Bool.and_true, Bool.or_true, Bool.true_or, Bool.not_true, Bool.not_false, if_true, if_false, Bool.false_eq_true, reduceIte, Ty.name, Ty.args, hin, hl2]; cases tn.isEmpty <;> cases tas.isEmpty <;> cases ta.isEmpty <;> rfl)
      | (rw [hs3]; simp only [okT, bodyE, kidsE, typedE, e1, e2, e3, e4, e5, Bool.or_false, Bool.false_or, Bool.false_and, Bool.and_false, Bool.true_and, Bool.and_true, Bool.or_true, Bool.true_or, Bool.not_true, Bool.not_false, if_true, if_false, Bool.false_eq_true, reduceIte, Ty.name, Ty.args, hr]; cases n.isEmpty <;> cases ta.isEmpty <;> rfl)
      | (rw [hs3]; simp only [okT, bodyE, kidsE, typedE, e1, e2, e3, e4, e5, Bool.or_false, Bool.false_or, Bool.false_and, Bool.and_false, Bool.true_and, Bool.and_true, Bool.or_true, Bool.true_or, Bool.not_true, Bool.not_false, if_true, if_false, Bool.false_eq_true, reduceIte, Ty.name, Ty.args, hr, hl2]; cases n.isEmpty <;> cases ta.isEmpty <;> rfl)
      | (rw [hsb] at hs2; simp only [okT, bodyE, kidsE, typedE, e1, e2, e3, e4, e5, Bool.or_false, Bool.false_or, Bool.false_and, Bool.and_false, Bool.true_and, Bool.and_true, Bool.or_true, Bool.true_or, Bool.not_true, Bool.not_false, if_true, if_false, Bool.false_eq_true, reduceIte, Ty.name, Ty.args, hin, hl2, ← hs2]; done)
      | (rw [hsb] at hs2; simp only [okT, bodyE, kidsE, typedE, e1, e2, e3, e4, e5, Bool.or_false, Bool.false_or, Bool.false_and, Bool.and_false, Bool.true_and, Bool.and_true, Bool.or_true, Bool.true_or, Bool.not_true, Bool.not_false, if_true, if_false, Bool.false_eq_true, reduceIte, Ty.name, Ty.args, hin, hl2, ← hs2]; cases ta with | nil => rfl | cons x r => simp)
     ·
      cases hb
 ·
  have e1 : (kd == 1) = false := by rw [hk]; rfl
  have e2 : (kd == 2) = false := by rw [hk]; rfl
  have e3 : (kd == 3) = false := by rw [hk]; rfl
  have e4 : (kd == 4) = true := by rw [hk]; rfl
  have e5 : (kd == 5) = false := by rw [hk]; rfl
  cases hin : (isName n)
  ·
   refine AT_seq_region fun K77 hK77 => ?_
   simp [row_map, e1, e2, e3, e4, e5, hin]
   repeat refine sg ?_
   refine hK77 _ ?_
   clear hK77 K77
   refine AT_seq_region fun K78 hK78 => ?_
   simp [row_map, e1, e2, e3, e4, e5, hin]
   repeat refine sg ?_
   refine hK78 _ ?_
   clear hK78 K78
   refine AT_seq_k fun K79 hK79 => ?_
   refine AT_seq_region fun K80 hK80 => ?_
   simp [row_map, e1, e2, e3, e4, e5, hin]
   repeat refine sg ?_
   refine hK80 _ ?_
   clear hK80 K80
   refine AT_block ?_
   refine AT_seq_region fun K81 hK81 => ?_
   simp [row_map, e1, e2, e3, e4, e5, hin]
   repeat refine sg ?_
   refine hK81 _ ?_
   clear hK81 K81
   refine AT_cond (b := false) (g := none) (by simp [e1, e2, e3, e4, e5, hin]) (fun hb => ?_) (fun hb => ?_)
   ·
    cases hb
   ·
    clear hb
    refine AT_seq_region fun K82 hK82 => ?_
    simp [row_map, e1, e2, e3, e4, e5, hin]
    repeat refine sg ?_
    refine hK82 _ ?_
    clear hK82 K82
    refine AT_cond (b := false) (g := none) (by simp [e1, e2, e3, e4, e5, hin]) (fun hb => ?_) (fun hb => ?_)
    ·
     cases hb
    ·
     clear hb
     refine AT_seq_region fun K83 hK83 => ?_
     simp [row_map, e1, e2, e3, e4, e5, hin]
     repeat refine sg ?_
     refine hK83 _ ?_
     clear hK83 K83
     refine AT_cond (b := false) (g := none) (by simp [e1, e2, e3, e4, e5, hin]) (fun hb => ?_) (fun hb => ?_)
     ·
      cases hb
     ·
      clear hb
      refine AT_seq_region fun K84 hK84 => ?_
      simp [row_map, e1, e2, e3, e4, e5, hin]
      repeat refine sg ?_
      refine hK84 _ ?_
      clear hK84 K84
      refine AT_cond (b := true) (g := none) (by simp [e1, e2, e3, e4, e5, hin]) (fun hb => ?_) (fun hb => ?_)
      ·
       clear hb
       refine AT_seq_region fun K85 hK85 => ?_
       simp [row_map, e1, e2, e3, e4, e5, hin]
       repeat refine sg ?_
       refine hK85 _ ?_
       clear hK85 K85
       refine AT_seq_region fun K86 hK86 => ?_
       simp [row_map, e1, e2, e3, e4, e5, hin]
       repeat refine sg ?_
       try (
        refine RVn_call (c_name_Is g rnd n (by omega) hres) ?_
        simp [row_map, e1, e2, e3, e4, e5, hin]
        repeat refine sg ?_)
       try (
        refine RVn_call ((by have h := c_expr_Same g rnd (.mk kd n (.mk tn tas tp) ta l p) (.mk kd n ty0 [] l 0) (by omega); rw [same_s1, show ((Ty.mk tn tas tp).name.isEmpty && (Ty.mk tn tas tp).args.isEmpty && ta.isEmpty) = s1 from hs1.symm, enc_s1] at h; exact h)) ?_
        simp [row_map, e1, e2, e3, e4, e5, hin]
        repeat refine sg ?_)
       refine hK86 _ ?_
       clear hK86 K86
       refine AT_ret ?_
       simp [row_map, Tryz.f30]
       all_goals rw [shapeE_ok]
       first
       | (simp only [okT, bodyE, kidsE, typedE, e1, e2, e3, e4, e5, Bool.or_false, Bool.false_or, Bool.false_and, Bool.and_false, Bool.true_and, Bool.and_true, Bool.or_true, Bool.true_or, Bool.not_true, Bool.not_false, if_true, if_false, Bool.false_eq_true, reduceIte, Ty.name, Ty.args]; done)
       | (simp only [okT, bodyE, kidsE, typedE, e1, e2, e3, e4, e5, Bool.or_false, Bool.false_or, Bool.false_and, Bool.and_false, Bool.true_and, Bool.and_true, Bool.or_true, Bool.true_or, Bool.not_true, Bool.not_false, if_true, if_false, Bool.false_eq_true, reduceIte, Ty.name, Ty.args, hin]; done)
       | (simp only [okT, bodyE, kidsE, typedE, e1, e2, e3, e4, e5, Bool.or_false, Bool.false_or, Bool.false_and, Bool.and_false, Bool.true_and, Bool.and_true, Bool.or_true, Bool.true_or, Bool.not_true, Bool.not_false, if_true, if_false, Bool.false_eq_true, reduceIte, Ty.name, Ty.args, hr]; done)
       | (simp only [okT, bodyE, kidsE, typedE, e1, e2, e3, e4, e5, Bool.or_false, Bool.false_or, Bool.false_and, Bool.and_false, Bool.true_and, Bool.and_true, Bool.or_true, Bool.true_or, Bool.not_true, Bool.not_false, if_true, if_false, Bool.false_eq_true, reduceIte, Ty.name, Ty.args, hin, hl2]; done)
       | (simp only [okT, bodyE, kidsE, typedE, e1, e2, e3, e4, e5, Bool.or_false, Bool.false_or, Bool.false_and, Bool.and_false, Bool.true_and, Bool.and_true, Bool.or_true, Bool.true_or, Bool.not_true, Bool.not_false, if_true, if_false, Bool.false_eq_true, reduceIte, Ty.name, Ty.args, hr, hl2]; done)
       | (rw [hs1]; simp only [okT, bodyE, kidsE, typedE, e1, e2, e3, e4, e5, Bool.or_false, Bool.false_or, Bool.false_and, Bool.and_false, Bool.true_and, Bool.and_true, Bool.or_true, Bool.true_or, Bool.not_true, Bool.not_false, if_true, if_false, Bool.false_eq_true, reduceIte, Ty.name, Ty.args, hin, hl2]; cases tn.isEmpty <;> cases tas.isEmpty <;> cases ta.isEmpty <;> rfl)
       | (rw [hs3]; simp only [okT, bodyE, kidsE, typedE, e1, e2, e3, e4, e5, Bool.or_false, Bool.false_or, Bool.false_and, Bool.and_false, Bool.true_and, Bool.and_true, Bool.or_true, Bool.true_or, Bool.not_true, Bool.not_false, if_true, if_false, Bool.false_eq_true, reduceIte, Ty.name, Ty.args, hr]; cases n.isEmpty <;> cases ta.isEmpty <;> rfl)
       | (rw [hs3]; simp only [okT, bodyE, kidsE, typedE, e1, e2, e3, e4, e5, Bool.or_false, Bool.false_or, Bool.false_and, Bool.and_false, Bool.true_and, Bool.and_true, Bool.or_true, Bool.true_or, Bool.not_true, Bool.not_false, if_true, if_false, Bool.false_eq_true, reduceIte, Ty.name, Ty.args, hr, hl2]; cases n.isEmpty <;> cases ta.isEmpty <;> rfl)
       | (rw [hsb] at hs2; simp only [okT, bodyE, kidsE, typedE, e1, e2, e3, e4, e5, Bool.or_false, Bool.false_or, Bool.false_and, Bool.and_false, Bool.true_and, Bool.and_true, Bool.or_true, Bool.true_or, Bool.not_true, Bool.not_false, if_true, if_false, Bool.false_eq_true, reduceIte, Ty.name, Ty.args, hin, hl2, ← hs2]; done)
       | (rw [hsb] at hs2; simp only [okT, bodyE, kidsE, typedE, e1, e2, e3, e4, e5, Bool.or_false, Bool.false_or, Bool.false_and, Bool.and_false, Bool.true_and, Bool.and_true, Bool.or_true, Bool.true_or, Bool.not_true, Bool.not_false, if_true, if_false, Bool.false_eq_true, reduceIte, Ty.name, Ty.args, hin, hl2, ← hs2]; cases ta with | nil => rfl | cons x r => simp)
      ·
       cases hb
  ·
   cases hl1 : ((l.length : Int) == 1)
   ·
    have hl2 : (l.length == 1) = false := by rw [← len_eq1]; exact hl1
    refine AT_seq_region fun K87 hK87 => ?_
    simp [row_map, e1, e2, e3, e4, e5, hin, hl1]
    repeat refine sg ?_
    refine hK87 _ ?_
    clear hK87 K87
    refine AT_seq_region fun K88 hK88 => ?_
    simp [row_map, e1, e2, e3, e4, e5, hin, hl1]
    repeat refine sg ?_
    refine hK88 _ ?_
    clear hK88 K88
    refine AT_seq_k fun K89 hK89 => ?_
    refine AT_seq_region fun K90 hK90 => ?_
    simp [row_map, e1, e2, e3, e4, e5, hin, hl1]
    repeat refine sg ?_
    refine hK90 _ ?_
    clear hK90 K90
    refine AT_block ?_
    refine AT_seq_region fun K91 hK91 => ?_
    simp [row_map, e1, e2, e3, e4, e5, hin, hl1]
    repeat refine sg ?_
    refine hK91 _ ?_
    clear hK91 K91
    refine AT_cond (b := false) (g := none) (by simp [e1, e2, e3, e4, e5, hin, hl1]) (fun hb => ?_) (fun hb => ?_)
    ·
     cases hb
    ·
     clear hb
     refine AT_seq_region fun K92 hK92 => ?_
     simp [row_map, e1, e2, e3, e4, e5, hin, hl1]
     repeat refine sg ?_
     refine hK92 _ ?_
     clear hK92 K92
     refine AT_cond (b := false) (g := none) (by simp [e1, e2, e3, e4, e5, hin, hl1]) (fun hb => ?_) (fun hb => ?_)
     ·
      cases hb
     ·
      clear hb
      refine AT_seq_region fun K93 hK93 => ?_
      simp [row_map, e1, e2, e3, e4, e5, hin, hl1]
      repeat refine sg ?_
      refine hK93 _ ?_
      clear hK93 K93
      refine AT_cond (b := false) (g := none) (by simp [e1, e2, e3, e4, e5, hin, hl1]) (fun hb => ?_) (fun hb => ?_)
      ·
       cases hb
      ·
       clear hb
       refine AT_seq_region fun K94 hK94 => ?_
       simp [row_map, e1, e2, e3, e4, e5, hin, hl1]
       repeat refine sg ?_
       refine hK94 _ ?_
       clear hK94 K94
       refine AT_cond (b := true) (g := none) (by simp [e1, e2, e3, e4, e5, hin, hl1]) (fun hb => ?_) (fun hb => ?_)
       ·
        clear hb
        refine AT_seq_region fun K95 hK95 => ?_
        simp [row_map, e1, e2, e3, e4, e5, hin, hl1]
        repeat refine sg ?_
        refine hK95 _ ?_
        clear hK95 K95
        refine AT_seq_region fun K96 hK96 => ?_
        simp [row_map, e1, e2, e3, e4, e5, hin, hl1]
        repeat refine sg ?_
        try (
         refine RVn_call (c_name_Is g rnd n (by omega) hres) ?_
         simp [row_map, e1, e2, e3, e4, e5, hin, hl1]
         repeat refine sg ?_)
        try (
         refine RVn_call ((by have h := c_expr_Same g rnd (.mk kd n (.mk tn tas tp) ta l p) (.mk kd n ty0 [] l 0) (by omega); rw [same_s1, show ((Ty.mk tn tas tp).name.isEmpty && (Ty.mk tn tas tp).args.isEmpty && ta.isEmpty) = s1 from hs1.symm, enc_s1] at h; exact h)) ?_
         simp [row_map, e1, e2, e3, e4, e5, hin, hl1]
         repeat refine sg ?_)
        refine hK96 _ ?_
        clear hK96 K96
        refine AT_ret ?_
        simp [row_map, Tryz.f30]
        all_goals rw [shapeE_ok]
        first
        | (simp only [okT, bodyE, kidsE, typedE, e1, e2, e3, e4, e5, Bool.or_false, Bool.false_or, Bool.false_and, Bool.and_false, Bool.true_and, Bool.and_true, Bool.or_true, Bool.true_or, Bool.not_true, Bool.not_false, if_true, if_false, Bool.false_eq_true, reduceIte, Ty.name, Ty.args]; done)
        | (simp only [okT, bodyE, kidsE, typedE, e1, e2, e3, e4, e5, Bool.or_false, Bool.false_or, Bool.false_and, Bool.and_false, Bool.true_and, Bool.and_true, Bool.or_true, Bool.true_or, Bool.not_true, Bool.not_false, if_true, if_false, Bool.false_eq_true, reduceIte, Ty.name, Ty.args, hin]; done)
        | (simp only [okT, bodyE, kidsE, typedE, e1, e2, e3, e4, e5, Bool.or_false, Bool.false_or, Bool.false_and, Bool.and_false, Bool.true_and, Bool.and_true, Bool.or_true, Bool.true_or, Bool.not_true, Bool.not_false, if_true, if_false, Bool.false_eq_true, reduceIte, Ty.name, Ty.args, hr]; done)
        | (simp only [okT, bodyE, kidsE, typedE, e1, e2, e3, e4, e5, Bool.or_false, Bool.false_or, Bool.false_and, Bool.and_false, Bool.true_and, Bool.and_true, Bool.or_true, Bool.true_or, Bool.not_true, Bool.not_false, if_true, if_false, Bool.false_eq_true, reduceIte, Ty.name, Ty.args, hin, hl2]; done)
        | (simp only [okT, bodyE, kidsE, typedE, e1, e2, e3, e4, e5, Bool.or_false, Bool.false_or, Bool.false_and, Bool.and_false, Bool.true_and, Bool.and_true, Bool.or_true, Bool.true_or, Bool.not_true, Bool.not_false, if_true, if_false, Bool.false_eq_true, reduceIte, Ty.name, Ty.args, hr, hl2]; done)
        | (rw [hs1]; simp only [okT, bodyE, kidsE, typedE, e1, e2, e3, e4, e5, Bool.or_false, Bool.false_or, Bool.false_and, Bool.and_false, Bool.true_and, Bool.and_true, Bool.or_true, Bool.true_or, Bool.not_true, Bool.not_false, if_true, if_false, Bool.false_eq_true, reduceIte, Ty.name, Ty.args, hin, hl2]; cases tn.isEmpty <;> cases tas.isEmpty <;> cases ta.isEmpty <;> rfl)
        | (rw [hs3]; simp only [okT, bodyE, kidsE, typedE, e1, e2, e3, e4, e5, Bool.or_false, Bool.false_or, Bool.false_and, Bool.and_false, Bool.true_and, Bool.and_true, Bool.or_true, Bool.true_or, Bool.not_true, Bool.not_false, if_true, if_false, Bool.false_eq_true, reduceIte, Ty.name, Ty.args, hr]; cases n.isEmpty <;> cases ta.isEmpty <;> rfl)
        | (rw [hs3]; simp only [okT, bodyE, kidsE, typedE, e1, e2, e3, e4, e5, Bool.or_false, Bool.false_or, Bool.false_and, Bool.and_false, Bool.true_and, Bool.and_true, Bool.or_true, Bool.true_or, Bool.not_true, Bool.not_false, if_true, if_false, Bool.false_eq_true, reduceIte, Ty.name, Ty.args, hr, hl2]; cases n.isEmpty <;> cases ta.isEmpty <;> rfl)
        | (rw [hsb] at hs2; simp only [okT, bodyE, kidsE, typedE, e1, e2, e3, e4, e5, Bool.or_false, Bool.false_or, Bool.false_and, Bool.and_false, Bool.true_and, Bool.and_true, Bool.or_true, Bool.true_or, Bool.not_true, Bool.not_false, if_true, if_false, Bool.false_eq_true, reduceIte, Ty.name, Ty.args, hin, hl2, ← hs2]; done)
        | (rw [hsb] at hs2; simp only [okT, bodyE, kidsE, typedE, e1, e2, e3, e4, e5, Bool.or_false, Bool.false_or, Bool.false_and, Bool.and_false, Bool.true_and, Bool.and_true, Bool.or_true, Bool.true_or, Bool.not_true, Bool.not_false, if_true, if_false, Bool.false_eq_true, reduceIte, Ty.name, Ty.args, hin, hl2, ← hs2]; cases ta with | nil => rfl | cons x r => simp)
       ·
        cases hb
   ·
    have hl2 : (l.length == 1) = true := by rw [← len_eq1]; exact hl1
    refine AT_seq_region fun K97 hK97 => ?_
    simp [row_map, e1, e2, e3, e4, e5, hin, hl1]
    repeat refine sg ?_
    refine hK97 _ ?_
    clear hK97 K97
    refine AT_seq_region fun K98 hK98 => ?_
    simp [row_map, e1, e2, e3, e4, e5, hin, hl1]
    repeat refine sg ?_
    refine hK98 _ ?_
    clear hK98 K98
    refine AT_seq_k fun K99 hK99 => ?_
    refine AT_seq_region fun K100 hK100 => ?_
    simp [row_map, e1, e2, e3, e4, e5, hin, hl1]
    repeat refine sg ?_
    refine hK100 _ ?_
    clear hK100 K100
    refine AT_block ?_
    refine AT_seq_region fun K101 hK101 => ?_
    simp [row_map, e1, e2, e3, e4, e5, hin, hl1]
    repeat refine sg ?_
    refine hK101 _ ?_
    clear hK101 K101
    refine AT_cond (b := false) (g := none) (by simp [e1, e2, e3, e4, e5, hin, hl1]) (fun hb => ?_) (fun hb => ?_)
    ·
     cases hb
    ·
     clear hb
     refine AT_seq_region fun K102 hK102 => ?_
     simp [row_map, e1, e2, e3, e4, e5, hin, hl1]
     repeat refine sg ?_
     refine hK102 _ ?_
     clear hK102 K102
     refine AT_cond (b := false) (g := none) (by simp [e1, e2, e3, e4, e5, hin, hl1]) (fun hb => ?_) (fun hb => ?_)
     ·
      cases hb
     ·
      clear hb
      refine AT_seq_region fun K103 hK103 => ?_
      simp [row_map, e1, e2, e3, e4, e5, hin, hl1]
      repeat refine sg ?_
      refine hK103 _ ?_
      clear hK103 K103
      refine AT_cond (b := false) (g := none) (by simp [e1, e2, e3, e4, e5, hin, hl1]) (fun hb => ?_) (fun hb => ?_)
      ·
       cases hb
      ·
       clear hb
       refine AT_seq_region fun K104 hK104 => ?_
       simp [row_map, e1, e2, e3, e4, e5, hin, hl1]
       repeat refine sg ?_
       refine hK104 _ ?_
       clear hK104 K104
       refine AT_cond (b := true) (g := none) (by simp [e1, e2, e3, e4, e5, hin, hl1]) (fun hb => ?_) (fun hb => ?_)
       ·
        clear hb
        refine AT_seq_region fun K105 hK105 => ?_
        simp [row_map, e1, e2, e3, e4, e5, hin, hl1]
        repeat refine sg ?_
        refine hK105 _ ?_
        clear hK105 K105
        refine AT_seq_region fun K106 hK106 => ?_
        simp [row_map, e1, e2, e3, e4, e5, hin, hl1]
        repeat refine sg ?_
        try (
         refine RVn_call (c_name_Is g rnd n (by omega) hres) ?_
         simp [row_map, e1, e2, e3, e4, e5, hin, hl1]
         repeat refine sg ?_)
        try (
         refine RVn_call ((by have h := c_expr_Same g rnd (.mk kd n (.mk tn tas tp) ta l p) (.mk kd n ty0 [] l 0) (by omega); rw [same_s1, show ((Ty.mk tn tas tp).name.isEmpty && (Ty.mk tn tas tp).args.isEmpty && ta.isEmpty) = s1 from hs1.symm, enc_s1] at h; exact h)) ?_
         simp [row_map, e1, e2, e3, e4, e5, hin, hl1]
         repeat refine sg ?_)
        refine hK106 _ ?_
        clear hK106 K106
        refine AT_ret ?_
        simp [row_map, Tryz.f30]
        all_goals rw [shapeE_ok]
        first
        | (simp only [okT, bodyE, kidsE, typedE, e1, e2, e3, e4, e5, Bool.or_false, Bool.false_or, Bool.false_and, Bool.and_false, Bool.true_and, Bool.and_true, Bool.or_true, Bool.true_or, Bool.not_true, Bool.not_false, if_true, if_false, Bool.false_eq_true, reduceIte, Ty.name, Ty.args]; done)
        | (simp only [okT, bodyE, kidsE, typedE, e1, e2, e3, e4, e5, Bool.or_false, Bool.false_or, Bool.false_and, Bool.and_false, Bool.true_and, Bool.and_true, Bool.or_true, Bool.true_or, Bool.not_true, Bool.not_false, if_true, if_false, Bool.false_eq_true, reduceIte, Ty.name, Ty.args, hin]; done)
        | (simp only [okT, bodyE, kidsE, typedE, e1, e2, e3, e4, e5, Bool.or_false, Bool.false_or, Bool.false_and, Bool.and_false, Bool.true_and, Bool.and_true, Bool.or_true, Bool.true_or, Bool.not_true, Bool.not_false, if_true, if_false, Bool.false_eq_true, reduceIte, Ty.name, Ty.args, hr]; done)
        | (simp only [okT, bodyE, kidsE, typedE, e1, e2, e3, e4, e5, Bool.or_false, Bool.false_or, Bool.false_and, Bool.and_false, Bool.true_and, Bool.and_true, Bool.or_true, Bool.true_or, Bool.not_true, Bool.not_false, if_true, if_false, Bool.false_eq_true, reduceIte, Ty.name, Ty.args, hin, hl2]; done)
        | (simp only [okT, bodyE, kidsE, typedE, e1, e2, e3, e4, e5, Bool.or_false, Bool.false_or, Bool.false_and, Bool.and_false, Bool.true_and, Bool.and_true, Bool.or_true, Bool.true_or, Bool.not_true, Bool.not_false, if_true, if_false, Bool.false_eq_true, reduceIte, Ty.name, Ty.args, hr, hl2]; done)
        | (rw [hs1]; simp only [okT, bodyE, kidsE, typedE, e1, e2, e3, e4, e5, Bool.or_false, Bool.false_or, Bool.false_and, Bool.and_false, Bool.true_and, Bool.and_true, Bool.or_true, Bool.true_or, Bool.not_true, Bool.not_false, if_true, if_false, Bool.false_eq_true, reduceIte, Ty.name, Ty.args, hin, hl2]; cases tn.isEmpty <;> cases tas.isEmpty <;> cases ta.isEmpty <;> rfl)
        | (rw [hs3]; simp only [okT, bodyE, kidsE, typedE, e1, e2, e3, e4, e5, Bool.or_false, Bool.false_or, Bool.false_and, Bool.and_false, Bool.true_and, Bool.and_true, Bool.or_true, Bool.true_or, Bool.not_true, Bool.not_false, if_true, if_false, Bool.false_eq_true, reduceIte, Ty.name, Ty.args, hr]; cases n.isEmpty <;> cases ta.isEmpty <;> rfl)
        | (rw [hs3]; simp only [okT, bodyE, kidsE, typedE, e1, e2, e3, e4, e5, Bool.or_false, Bool.false_or, Bool.false_and, Bool.and_false, Bool.true_and, Bool.and_true, Bool.or_true, Bool.true_or, Bool.not_true, Bool.not_false, if_true, if_false, Bool.false_eq_true, reduceIte, Ty.name, Ty.args, hr, hl2]; cases n.isEmpty <;> cases ta.isEmpty <;> rfl)
        | (rw [hsb] at hs2; simp only [okT, bodyE, kidsE, typedE, e1, e2, e3, e4, e5, Bool.or_false, Bool.false_or, Bool.false_and, Bool.and_false, Bool.true_and, Bool.and_true, Bool.or_true, Bool.true_or, Bool.not_true, Bool.not_false, if_true, if_false, Bool.false_eq_true, reduceIte, Ty.name, Ty.args, hin, hl2, ← hs2]; done)
        | (rw [hsb] at hs2; simp only [okT, bodyE, kidsE, typedE, e1, e2, e3, e4, e5, Bool.or_false, Bool.false_or, Bool.false_and, Bool.and_false, Bool.true_and, Bool.and_true, Bool.or_true, Bool.true_or, Bool.not_true, Bool.not_false, if_true, if_false, Bool.false_eq_true, reduceIte, Ty.name, Ty.args, hin, hl2, ← hs2]; cases ta with | nil => rfl | cons x r => simp)
       ·
        cases hb
 ·
  have e1 : (kd == 1) = false := by rw [hk]; rfl
  have e2 : (kd == 2) = false := by rw [hk]; rfl
  have e3 : (kd == 3) = false := by rw [hk]; rfl
  have e4 : (kd == 4) = false := by rw [hk]; rfl
  have e5 : (kd == 5) = true := by rw [hk]; rfl
  cases hr : (rightT (.mk tn tas tp))
  ·
   refine AT_seq_region fun K107 hK107 => ?_
   simp [row_map, e1, e2, e3, e4, e5, hr]
   repeat refine sg ?_
   refine hK107 _ ?_
   clear hK107 K107
   refine AT_seq_region fun K108 hK108 => ?_
   simp [row_map, e1, e2, e3, e4, e5, hr]
   repeat refine sg ?_
   refine hK108 _ ?_
   clear hK108 K108
   refine AT_seq_k fun K109 hK109 => ?_
   refine AT_seq_region fun K110 hK110 => ?_
   simp [row_map, e1, e2, e3, e4, e5, hr]
   repeat refine sg ?_
   refine hK110 _ ?_
   clear hK110 K110
   refine AT_block ?_
   refine AT_seq_region fun K111 hK111 => ?_
   simp [row_map, e1, e2, e3, e4, e5, hr]
   repeat refine sg ?_
   refine hK111 _ ?_
   clear hK111 K111
   refine AT_cond (b := false) (g := none) (by simp [e1, e2, e3, e4, e5, hr]) (fun hb => ?_) (fun hb => ?_)
   ·
    cases hb
   ·
    clear hb
    refine AT_seq_region fun K112 hK112 => ?_
    simp [row_map, e1, e2, e3, e4, e5, hr]
    repeat refine sg ?_
    refine hK112 _ ?_
    clear hK112 K112
    refine AT_cond (b := false) (g := none) (by simp [e1, e2, e3, e4, e5, hr]) (fun hb => ?_) (fun hb => ?_)
    ·
     cases hb
    ·
     clear hb
     refine AT_seq_region fun K113 hK113 => ?_
     simp [row_map, e1, e2, e3, e4, e5, hr]
     repeat refine sg ?_
     refine hK113 _ ?_
     clear hK113 K113
     refine AT_cond (b := false) (g := none) (by simp [e1, e2, e3, e4, e5, hr]) (fun hb => ?_) (fun hb => ?_)
     ·
      cases hb
     ·
      clear hb
      refine AT_seq_region fun K114 hK114 => ?_
      simp [row_map, e1, e2, e3, e4, e5, hr]
      repeat refine sg ?_
      refine hK114 _ ?_
      clear hK114 K114
      refine AT_cond (b := false) (g := none) (by simp [e1, e2, e3, e4, e5, hr]) (fun hb => ?_) (fun hb => ?_)
      ·
       cases hb
      ·
       clear hb
       refine AT_skip ?_
       try simp only [nrm, reduceIte, Nat.reduceEqDiff]
       refine hK109 _ ?_
       refine AT_seq_region fun K115 hK115 => ?_
       simp [row_map, encTy_mk, e1, e2, e3, e4, e5, hr]
       repeat refine sg ?_
       refine hK115 _ ?_
       clear hK115 K115
       refine AT_seq_region fun K116 hK116 => ?_
       simp [row_map, e1, e2, e3, e4, e5, hr]
       repeat refine sg ?_
       try (
        refine RVn_call (c_types_Right g rnd (.mk tn tas tp) (by omega) hres) ?_
        simp [row_map, e1, e2, e3, e4, e5, hr]
        repeat refine sg ?_)
       try (
        refine RVn_call ((by have h := c_expr_Same g rnd (.mk kd n (.mk tn tas tp) ta l p) (.mk kd [] (.mk tn tas tp) [] l 0) (by omega); rw [same_s3, ← hs3, encE_mk kd [] (.mk tn tas tp) [] l 0] at h; exact h)) ?_
        simp [row_map, e1, e2, e3, e4, e5, hr]
        repeat refine sg ?_)
       refine hK116 _ ?_
       clear hK116 K116
       refine AT_ret ?_
       simp [row_map, Tryz.f30]
       all_goals rw [shapeE_ok]
       first
       | (simp only [okT, bodyE, kidsE, typedE, e1, e2, e3, e4, e5, Bool.or_false, Bool.false_or, Bool.false_and, Bool.and_false, Bool.true_and, Bool.and_true, Bool.or_true, Bool.true_or, Bool.not_true, Bool.not_false, if_true, if_false, Bool.false_eq_true, reduceIte, Ty.name, Ty.args]; done)
       | (simp only [okT, bodyE, kidsE, typedE, e1, e2, e3, e4, e5, Bool.or_false, Bool.false_or, Bool.false_and, Bool.and_false, Bool.true_and, Bool.and_true, Bool.or_true, Bool.true_or, Bool.not_true, Bool.not_false, if_true, if_false, Bool.false_eq_true, reduceIte, Ty.name, Ty.args, hin]; done)
       | (simp only [okT, bodyE, kidsE, typedE, e1, e2, e3, e4, e5, Bool.or_false, Bool.false_or, Bool.false_and, Bool.and_false, Bool.true_and, Bool.and_true, Bool.or_true, Bool.true_or, Bool.not_true, Bool.not_false, if_true, if_false, Bool.false_eq_true, reduceIte, Ty.name, Ty.args, hr]; done)
       | (simp only [okT, bodyE, kidsE, typedE, e1, e2, e3, e4, e5, Bool.or_false, Bool.false_or, Bool.false_and, Bool.and_false, Bool.true_and, Bool.and_true, Bool.or_true, Bool.true_or, Bool.not_true, Bool.not_false, if_true, if_false, Bool.false_eq_true, reduceIte, Ty.name, Ty.args, hin, hl2]; done)
       | (simp only [okT, bodyE, kidsE, typedE, e1, e2, e3, e4, e5, Bool.or_false, Bool.false_or, Bool.false_and, Bool.and_false, Bool.true_and, Bool.and_true, Bool.or_true, Bool.true_or, Bool.not_true, Bool.not_false, if_true, if_false, Bool.false_eq_true, reduceIte, Ty.name, Ty.args, hr, hl2]; done)
       | (rw [hs1]; simp only [okT, bodyE, kidsE, typedE, e1, e2, e3, e4, e5, Bool.or_false, Bool.false_or, Bool.false_and, Bool.and_false, Bool.true_and, Bool.and_true, Bool.or_true, Bool.true_or, Bool.not_true, Bool.not_false, if_true, if_false, Bool.false_eq_true, reduceIte, Ty.name, Ty.args, hin, hl2]; cases tn.isEmpty <;> cases tas.isEmpty <;> cases ta.isEmpty <;> rfl)
       | (rw [hs3]; simp only [okT, bodyE, kidsE, typedE, e1, e2, e3, e4, e5, Bool.or_false, Bool.false_or, Bool.false_and, Bool.and_false, Bool.true_and, Bool.and_true, Bool.or_true, Bool.true_or, Bool.not_true, Bool.not_false, if_true, if_false, Bool.false_eq_true, reduceIte, Ty.name, Ty.args, hr]; cases n.isEmpty <;> cases ta.isEmpty <;> rfl)
       | (rw [hs3]; simp only [okT, bodyE, kidsE, typedE, e1, e2, e3, e4, e5, Bool.or_false, Bool.false_or, Bool.false_and, Bool.and_false, Bool.true_and, Bool.and_true, Bool.or_true, Bool.true_or, Bool.not_true, Bool.not_false, if_true, if_false, Bool.false_eq_true, reduceIte, Ty.name, Ty.args, hr, hl2]; cases n.isEmpty <;> cases ta.isEmpty <;> rfl)
       | (rw [hsb] at hs2; simp only [okT, bodyE, kidsE, typedE, e1, e2, e3, e4, e5, Bool.or_false, Bool.false_or, Bool.false_and, Bool.and_false, Bool.true_and, Bool.and_true, Bool.or_true, Bool.true_or, Bool.not_true, Bool.not_false, if_true, if_false, Bool.false_eq_true, reduceIte, Ty.name, Ty.args, hin, hl2, ← hs2]; done)
       | (rw [hsb] at hs2; simp only [okT, bodyE, kidsE, typedE, e1, e2, e3, e4, e5, Bool.or_false, Bool.false_or, Bool.false_and, Bool.and_false, Bool.true_and, Bool.and_true, Bool.or_true, Bool.true_or, Bool.not_true, Bool.not_false, if_true, if_false, Bool.false_eq_true, reduceIte, Ty.name, Ty.args, hin, hl2, ← hs2]; cases ta with | nil => rfl | cons x r => simp)
  ·
   cases hl1 : ((l.length : Int) == 1)
   ·
    have hl2 : (l.length == 1) = false := by rw [← len_eq1]; exact hl1
    refine AT_seq_region fun K117 hK117 => ?_
    simp [row_map, e1, e2, e3, e4, e5, hr, hl1]
    repeat refine sg ?_
    refine hK117 _ ?_
    clear hK117 K117
    refine AT_seq_region fun K118 hK118 => ?_
    simp [row_map, e1, e2, e3, e4, e5, hr, hl1]
    repeat refine sg ?_
    refine hK118 _ ?_
    clear hK118 K118
    refine AT_seq_k fun K119 hK119 => ?_
    refine AT_seq_region fun K120 hK120 => ?_
    simp [row_map, e1, e2, e3, e4, e5, hr, hl1]
    repeat refine sg ?_
    refine hK120 _ ?_
    clear hK120 K120
    refine AT_block ?_
    refine AT_seq_region fun K121 hK121 => ?_
    simp [row_map, e1, e2, e3, e4, e5, hr, hl1]
    repeat refine sg ?_
    refine hK121 _ ?_
    clear hK121 K121
    refine AT_cond (b := false) (g := none) (by simp [e1, e2, e3, e4, e5, hr, hl1]) (fun hb => ?_) (fun hb => ?_)
    ·
     cases hb
    ·
     clear hb
     refine AT_seq_region fun K122 hK122 => ?_
     simp [row_map, e1, e2, e3, e4, e5, hr, hl1]
     repeat refine sg ?_
     refine hK122 _ ?_
     clear hK122 K122
     refine AT_cond (b := false) (g := none) (by simp [e1, e2, e3, e4, e5, hr, hl1]) (fun hb => ?_) (fun hb => ?_)
     ·
      cases hb
     ·
      clear hb
      refine AT_seq_region fun K123 hK123 => ?_
      simp [row_map, e1, e2, e3, e4, e5, hr, hl1]
      repeat refine sg ?_
      refine hK123 _ ?_
      clear hK123 K123
      refine AT_cond (b := false) (g := none) (by simp [e1, e2, e3, e4, e5, hr, hl1]) (fun hb => ?_) (fun hb => ?_)
      ·
       cases hb
      ·
       clear hb
       refine AT_seq_region fun K124 hK124 => ?_
       simp [row_map, e1, e2, e3, e4, e5, hr, hl1]
       repeat refine sg ?_
       refine hK124 _ ?_
       clear hK124 K124
       refine AT_cond (b := false) (g := none) (by simp [e1, e2, e3, e4, e5, hr, hl1]) (fun hb => ?_) (fun hb => ?_)
       ·
        cases hb
       ·
        clear hb
        refine AT_skip ?_
        try simp only [nrm, reduceIte, Nat.reduceEqDiff]
        refine hK119 _ ?_
        refine AT_seq_region fun K125 hK125 => ?_
        simp [row_map, encTy_mk, e1, e2, e3, e4, e5, hr, hl1]
        repeat refine sg ?_
        refine hK125 _ ?_
        clear hK125 K125
        refine AT_seq_region fun K126 hK126 => ?_
        simp [row_map, e1, e2, e3, e4, e5, hr, hl1]
        repeat refine sg ?_
        try (
         refine RVn_call (c_types_Right g rnd (.mk tn tas tp) (by omega) hres) ?_
         simp [row_map, e1, e2, e3, e4, e5, hr, hl1]
         repeat refine sg ?_)
        try (
         refine RVn_call ((by have h := c_expr_Same g rnd (.mk kd n (.mk tn tas tp) ta l p) (.mk kd [] (.mk tn tas tp) [] l 0) (by omega); rw [same_s3, ← hs3, encE_mk kd [] (.mk tn tas tp) [] l 0] at h; exact h)) ?_
         simp [row_map, e1, e2, e3, e4, e5, hr, hl1]
         repeat refine sg ?_)
        refine hK126 _ ?_
        clear hK126 K126
        refine AT_ret ?_
        simp [row_map, Tryz.f30]
        all_goals rw [shapeE_ok]
        first
        | (simp only [okT, bodyE, kidsE, typedE, e1, e2, e3, e4, e5, Bool.or_false, Bool.false_or, Bool.false_and, Bool.and_false, Bool.true_and, Bool.and_true, Bool.or_true, Bool.true_or, Bool.not_true, Bool.not_false, if_true, if_false, Bool.false_eq_true, reduceIte, Ty.name, Ty.args]; done)
        | (simp only [okT, bodyE, kidsE, typedE, e1, e2, e3, e4, e5, Bool.or_false, Bool.false_or, Bool.false_and, Bool.and_false, Bool.true_and, Bool.and_true, Bool.or_true, Bool.true_or, Bool.not_true, Bool.not_false, if_true, if_false, Bool.false_eq_true, reduceIte, Ty.name, Ty.args, hin]; done)
        | (simp only [okT, bodyE, kidsE, typedE, e1, e2, e3, e4, e5, Bool.or_false, Bool.false_or, Bool.false_and, Bool.and_false, Bool.true_and, Bool.and_true, Bool.or_true, Bool.true_or, Bool.not_true, Bool.not_false, if_true, if_false, Bool.false_eq_true, reduceIte, Ty.name, Ty.args, hr]; done)
        | (simp only [okT, bodyE, kidsE, typedE, e1, e2, e3, e4, e5, Bool.or_false, Bool.false_or, Bool.false_and, Bool.and_false, Bool.true_and, Bool.and_true, Bool.or_true, Bool.true_or, Bool.not_true, Bool.not_false, if_true, if_false, Bool.false_eq_true, reduceIte, Ty.name, Ty.args, hin, hl2]; done)
        | (simp only [okT, bodyE, kidsE, typedE, e1, e2, e3, e4, e5, Bool.or_false, Bool.false_or, Bool.false_and, Bool.and_false, Bool.true_and, Bool.and_true, Bool.or_true, Bool.true_or, Bool.not_true, Bool.not_false, if_true, if_false, Bool.false_eq_true, reduceIte, Ty.name, Ty.args, hr, hl2]; done)
        | (rw [hs1]; simp only [okT, bodyE, kidsE, typedE, e1, e2, e3, e4, e5, Bool.or_false, Bool.false_or, Bool.false_and, Bool.and_false, Bool.true_and, Bool.and_true, Bool.or_true, Bool.true_or, Bool.not_true, Bool.not_false, if_true, if_false, Bool.false_eq_true, reduceIte, Ty.name, Ty.args, hin, hl2]; cases tn.isEmpty <;> cases tas.isEmpty <;> cases ta.isEmpty <;> rfl)
        | (rw [hs3]; simp only [okT, bodyE, kidsE, typedE, e1, e2, e3, e4, e5, Bool.or_false, Bool.false_or, Bool.false_and, Bool.and_false, Bool.true_and, Bool.and_true, Bool.or_true, Bool.true_or, Bool.not_true, Bool.not_false, if_true, if_false, Bool.false_eq_true, reduceIte, Ty.name, Ty.args, hr]; cases n.isEmpty <;> cases ta.isEmpty <;> rfl)
        | (rw [hs3]; simp only [okT, bodyE, kidsE, typedE, e1, e2, e3, e4, e5, Bool.or_false, Bool.false_or, Bool.false_and, Bool.and_false, Bool.true_and, Bool.and_true, Bool.or_true, Bool.true_or, Bool.not_true, Bool.not_false, if_true, if_false, Bool.false_eq_true, reduceIte, Ty.name, Ty.args, hr, hl2]; cases n.isEmpty <;> cases ta.isEmpty <;> rfl)
        | (rw [hsb] at hs2; simp only [okT, bodyE, kidsE, typedE, e1, e2, e3, e4, e5, Bool.or_false, Bool.false_or, Bool.false_and, Bool.and_false, Bool.true_and, Bool.and_true, Bool.or_true, Bool.true_or, Bool.not_true, Bool.not_false, if_true, if_false, Bool.false_eq_true, reduceIte, Ty.name, Ty.args, hin, hl2, ← hs2]; done)
        | (rw [hsb] at hs2; simp only [okT, bodyE, kidsE, typedE, e1, e2, e3, e4, e5, Bool.or_false, Bool.false_or, Bool.false_and, Bool.and_false, Bool.true_and, Bool.and_true, Bool.or_true, Bool.true_or, Bool.not_true, Bool.not_false, if_true, if_false, Bool.false_eq_true, reduceIte, Ty.name, Ty.args, hin, hl2, ← hs2]; cases ta with | nil => rfl | cons x r => simp)
   ·
    have hl2 : (l.length == 1) = true := by rw [← len_eq1]; exact hl1
    refine AT_seq_region fun K127 hK127 => ?_
    simp [row_map, e1, e2, e3, e4, e5, hr, hl1]
    repeat refine sg ?_
    refine hK127 _ ?_
    clear hK127 K127
    refine AT_seq_region fun K128 hK128 => ?_
    simp [row_map, e1, e2, e3, e4, e5, hr, hl1]
    repeat refine sg ?_
    refine hK128 _ ?_
    clear hK128 K128
    refine AT_seq_k fun K129 hK129 => ?_
    refine AT_seq_region fun K130 hK130 => ?_
    simp [row_map, e1, e2, e3, e4, e5, hr, hl1]
    repeat refine sg ?_
    refine hK130 _ ?_
    clear hK130 K130
    refine AT_block ?_
    refine AT_seq_region fun K131 hK131 => ?_
    simp [row_map, e1, e2, e3, e4, e5, hr, hl1]
    repeat refine sg ?_
    refine hK131 _ ?_
    clear hK131 K131
    refine AT_cond (b := false) (g := none) (by simp [e1, e2, e3, e4, e5, hr, hl1]) (fun hb => ?_) (fun hb => ?_)
    ·
     cases hb
    ·
     clear hb
     refine AT_seq_region fun K132 hK132 => ?_
     simp [row_map, e1, e2, e3, e4, e5, hr, hl1]
     repeat refine sg ?_
     refine hK132 _ ?_
     clear hK132 K132
     refine AT_cond (b := false) (g := none) (by simp [e1, e2, e3, e4, e5, hr, hl1]) (fun hb => ?_) (fun hb => ?_)
     ·
      cases hb
     ·
      clear hb
      refine AT_seq_region fun K133 hK133 => ?_
      simp [row_map, e1, e2, e3, e4, e5, hr, hl1]
      repeat refine sg ?_
      refine hK133 _ ?_
      clear hK133 K133
      refine AT_cond (b := false) (g := none) (by simp [e1, e2, e3, e4, e5, hr, hl1]) (fun hb => ?_) (fun hb => ?_)
      ·
       cases hb
      ·
       clear hb
       refine AT_seq_region fun K134 hK134 => ?_
       simp [row_map, e1, e2, e3, e4, e5, hr, hl1]
       repeat refine sg ?_
       refine hK134 _ ?_
       clear hK134 K134
       refine AT_cond (b := false) (g := none) (by simp [e1, e2, e3, e4, e5, hr, hl1]) (fun hb => ?_) (fun hb => ?_)
       ·
        cases hb
       ·
        clear hb
        refine AT_skip ?_
        try simp only [nrm, reduceIte, Nat.reduceEqDiff]
        refine hK129 _ ?_
        refine AT_seq_region fun K135 hK135 => ?_
        simp [row_map, encTy_mk, e1, e2, e3, e4, e5, hr, hl1]
        repeat refine sg ?_
        refine hK135 _ ?_
        clear hK135 K135
        refine AT_seq_region fun K136 hK136 => ?_
        simp [row_map, e1, e2, e3, e4, e5, hr, hl1]
        repeat refine sg ?_
        try (
         refine RVn_call (c_types_Right g rnd (.mk tn tas tp) (by omega) hres) ?_
         simp [row_map, e1, e2, e3, e4, e5, hr, hl1]
         repeat refine sg ?_)
        try (
         refine RVn_call ((by have h := c_expr_Same g rnd (.mk kd n (.mk tn tas tp) ta l p) (.mk kd [] (.mk tn tas tp) [] l 0) (by omega); rw [same_s3, ← hs3, encE_mk kd [] (.mk tn tas tp) [] l 0] at h; exact h)) ?_
         simp [row_map, e1, e2, e3, e4, e5, hr, hl1]
         repeat refine sg ?_)
        refine hK136 _ ?_
        clear hK136 K136
        refine AT_ret ?_
        simp [row_map, Tryz.f30]
        all_goals rw [shapeE_ok]
        first
        | (simp only [okT, bodyE, kidsE, typedE, e1, e2, e3, e4, e5, Bool.or_false, Bool.false_or, Bool.false_and, Bool.and_false, Bool.true_and, Bool.and_true, Bool.or_true, Bool.true_or, Bool.not_true, Bool.not_false, if_true, if_false, Bool.false_eq_true, reduceIte, Ty.name, Ty.args]; done)
        | (simp only [okT, bodyE, kidsE, typedE, e1, e2, e3, e4, e5, Bool.or_false, Bool.false_or, Bool.false_and, Bool.and_false, Bool.true_and, Bool.and_true, Bool.or_true, Bool.true_or, Bool.not_true, Bool.not_false, if_true, if_false, Bool.false_eq_true, reduceIte, Ty.name, Ty.args, hin]; done)
        | (simp only [okT, bodyE, kidsE, typedE, e1, e2, e3, e4, e5, Bool.or_false, Bool.false_or, Bool.false_and, Bool.and_false, Bool.true_and, Bool.and_true, Bool.or_true, Bool.true_or, Bool.not_true, Bool.not_false, if_true, if_false, Bool.false_eq_true, reduceIte, Ty.name, Ty.args, hr]; done)
        | (simp only [okT, bodyE, kidsE, typedE, e1, e2, e3, e4, e5, Bool.or_false, Bool.false_or, Bool.false_and, Bool.and_false, Bool.true_and, Bool.and_true, Bool.or_true, Bool.true_or, Bool.not_true, Bool.not_false, if_true, if_false, Bool.false_eq_true, reduceIte, Ty.name, Ty.args, hin, hl2]; done)
        | (simp only [okT, bodyE, kidsE, typedE, e1, e2, e3, e4, e5, Bool.or_false, Bool.false_or, Bool.false_and, Bool.and_false, Bool.true_and, Bool.and_true, Bool.or_true, Bool.true_or, Bool.not_true, Bool.not_false, if_true, if_false, Bool.false_eq_true, reduceIte, Ty.name, Ty.args, hr, hl2]; done)
        | (rw [hs1]; simp only [okT, bodyE, kidsE, typedE, e1, e2, e3, e4, e5, Bool.or_false, Bool.false_or, Bool.false_and, Bool.and_false, Bool.true_and, Bool.and_true, Bool.or_true, Bool.true_or, Bool.not_true, Bool.not_false, if_true, if_false, Bool.false_eq_true, reduceIte, Ty.name, Ty.args, hin, hl2]; cases tn.isEmpty <;> cases tas.isEmpty <;> cases ta.isEmpty <;> rfl)
        | (rw [hs3]; simp only [okT, bodyE, kidsE, typedE, e1, e2, e3, e4, e5, Bool.or_false, Bool.false_or, Bool.false_and, Bool.and_false, Bool.true_and, Bool.and_true, Bool.or_true, Bool.true_or, Bool.not_true, Bool.not_false, if_true, if_false, Bool.false_eq_true, reduceIte, Ty.name, Ty.args, hr]; cases n.isEmpty <;> cases ta.isEmpty <;> rfl)
        | (rw [hs3]; simp only [okT, bodyE, kidsE, typedE, e1, e2, e3, e4, e5, Bool.or_false, Bool.false_or, Bool.false_and, Bool.and_false, Bool.true_and, Bool.and_true, Bool.or_true, Bool.true_or, Bool.not_true, Bool.not_false, if_true, if_false, Bool.false_eq_true, reduceIte, Ty.name, Ty.args, hr, hl2]; cases n.isEmpty <;> cases ta.isEmpty <;> rfl)
        | (rw [hsb] at hs2; simp only [okT, bodyE, kidsE, typedE, e1, e2, e3, e4, e5, Bool.or_false, Bool.false_or, Bool.false_and, Bool.and_false, Bool.true_and, Bool.and_true, Bool.or_true, Bool.true_or, Bool.not_true, Bool.not_false, if_true, if_false, Bool.false_eq_true, reduceIte, Ty.name, Ty.args, hin, hl2, ← hs2]; done)
        | (rw [hsb] at hs2; simp only [okT, bodyE, kidsE, typedE, e1, e2, e3, e4, e5, Bool.or_false, Bool.false_or, Bool.false_and, Bool.and_false, Bool.true_and, Bool.and_true, Bool.or_true, Bool.true_or, Bool.not_true, Bool.not_false, if_true, if_false, Bool.false_eq_true, reduceIte, Ty.name, Ty.args, hin, hl2, ← hs2]; cases ta with | nil => rfl | cons x r => simp)
 ·
  refine AT_seq_region fun K137 hK137 => ?_
  simp [row_map, e1, e2, e3, e4, e5]
  repeat refine sg ?_
  refine hK137 _ ?_
  clear hK137 K137
  refine AT_seq_region fun K138 hK138 => ?_
  simp [row_map, e1, e2, e3, e4, e5]
  repeat refine sg ?_
  refine hK138 _ ?_
  clear hK138 K138
  refine AT_seq_k fun K139 hK139 => ?_
  refine AT_seq_region fun K140 hK140 => ?_
  simp [row_map, e1, e2, e3, e4, e5]
  repeat refine sg ?_
  refine hK140 _ ?_
  clear hK140 K140
  refine AT_block ?_
  refine AT_seq_region fun K141 hK141 => ?_
  simp [row_map, e1, e2, e3, e4, e5]
  repeat refine sg ?_
  refine hK141 _ ?_
  clear hK141 K141
  refine AT_cond (b := false) (g := none) (by simp [e1, e2, e3, e4, e5]) (fun hb => ?_) (fun hb => ?_)
  ·
   cases hb
  ·
   clear hb
   refine AT_seq_region fun K142 hK142 => ?_
   simp [row_map, e1, e2, e3, e4, e5]
   repeat refine sg ?_
   refine hK142 _ ?_
   clear hK142 K142
   refine AT_cond (b := false) (g := none) (by simp [e1, e2, e3, e4, e5]) (fun hb => ?_) (fun hb => ?_)
   ·
    cases hb
   ·
    clear hb
    refine AT_seq_region fun K143 hK143 => ?_
    simp [row_map, e1, e2, e3, e4, e5]
    repeat refine sg ?_
    refine hK143 _ ?_
    clear hK143 K143
    refine AT_cond (b := false) (g := none) (by simp [e1, e2, e3, e4, e5]) (fun hb => ?_) (fun hb => ?_)
    ·
     cases hb
    ·
     clear hb
     refine AT_seq_region fun K144 hK144 => ?_
     simp [row_map, e1, e2, e3, e4, e5]
     repeat refine sg ?_
     refine hK144 _ ?_
     clear hK144 K144
     refine AT_cond (b := false) (g := none) (by simp [e1, e2, e3, e4, e5]) (fun hb => ?_) (fun hb => ?_)
     ·
      cases hb
     ·
      clear hb
      refine AT_skip ?_
      try simp only [nrm, reduceIte, Nat.reduceEqDiff]
      refine hK139 _ ?_
      refine AT_seq_region fun K145 hK145 => ?_
      simp [row_map, encTy_mk, e1, e2, e3, e4, e5]
      repeat refine sg ?_
      refine hK145 _ ?_
      clear hK145 K145
      refine AT_seq_region fun K146 hK146 => ?_
      simp [row_map, e1, e2, e3, e4, e5]
      repeat refine sg ?_
      try (
       refine RVn_call (c_types_Right g rnd (.mk tn tas tp) (by omega) hres) ?_
       simp [row_map, e1, e2, e3, e4, e5]
       repeat refine sg ?_)
      try (
       refine RVn_call ((by have h := c_expr_Same g rnd (.mk kd n (.mk tn tas tp) ta l p) (.mk kd [] (.mk tn tas tp) [] l 0) (by omega); rw [same_s3, ← hs3, encE_mk kd [] (.mk tn tas tp) [] l 0] at h; exact h)) ?_
       simp [row_map, e1, e2, e3, e4, e5]
       repeat refine sg ?_)
      refine hK146 _ ?_
      clear hK146 K146
      refine AT_ret ?_
      simp [row_map, Tryz.f30]
      all_goals rw [shapeE_ok]
      first
      | (simp only [okT, bodyE, kidsE, typedE, e1, e2, e3, e4, e5, Bool.or_false, Bool.false_or, Bool.false_and, Bool.and_false, Bool.true_and, Bool.and_true, Bool.or_true, Bool.true_or, Bool.not_true, Bool.not_false, if_true, if_false, Bool.false_eq_true, reduceIte, Ty.name, Ty.args]; done)
      | (simp only [okT, bodyE, kidsE, typedE, e1, e2, e3, e4, e5, Bool.or_false, Bool.false_or, Bool.false_and, Bool.and_false, Bool.true_and, Bool.and_true, Bool.or_true, Bool.true_or, Bool.not_true, Bool.not_false, if_true, if_false, Bool.false_eq_true, reduceIte, Ty.name, Ty.args, hin]; done)
      | (simp only [okT, bodyE, kidsE, typedE, e1, e2, e3, e4, e5, Bool.or_false, Bool.false_or, Bool.false_and, Bool.and_false, Bool.true_and, Bool.and_true, Bool.or_true, Bool.true_or, Bool.not_true, Bool.not_false, if_true, if_false, Bool.false_eq_true, reduceIte, Ty.name, Ty.args, hr]; done)
      | (simp only [okT, bodyE, kidsE, typedE, e1, e2, e3, e4, e5, Bool.or_false, Bool.false_or, Bool.false_and, Bool.and_false, Bool.true_and, Bool.and_true, Bool.or_true, Bool.true_or, Bool.not_true, Bool.not_false, if_true, if_false, Bool.false_eq_true, reduceIte, Ty.name, Ty.args, hin, hl2]; done)
      | (simp only [okT, bodyE, kidsE, typedE, e1, e2, e3, e4, e5, Bool.or_false, Bool.false_or, Bool.false_and, Bool.and_false, Bool.true_and, Bool.and_true, Bool.or_true, Bool.true_or, Bool.not_true, Bool.not_false, if_true, if_false, Bool.false_eq_true, reduceIte, Ty.name, Ty.args, hr, hl2]; done)
      | (rw [hs1]; simp only [okT, bodyE, kidsE, typedE, e1, e2, e3, e4, e5, Bool.or_false, Bool.false_or, Bool.false_and, Bool.and_false, Bool.true_and, Bool.and_true, Bool.or_true, Bool.true_or, Bool.not_true, Bool.not_false, if_true, if_false, Bool.false_eq_true, reduceIte, Ty.name, Ty.args, hin, hl2]; cases tn.isEmpty <;> cases tas.isEmpty <;> cases ta.isEmpty <;> rfl)
      | (rw [hs3]; simp only [okT, bodyE, kidsE, typedE, e1, e2, e3, e4, e5, Bool.or_false, Bool.false_or, Bool.false_and, Bool.and_false, Bool.true_and, Bool.and_true, Bool.or_true, Bool.true_or, Bool.not_true, Bool.not_false, if_true, if_false, Bool.false_eq_true, reduceIte, Ty.name, Ty.args, hr]; cases n.isEmpty <;> cases ta.isEmpty <;> rfl)
      | (rw [hs3]; simp only [okT, bodyE, kidsE, typedE, e1, e2, e3, e4, e5, Bool.or_false, Bool.false_or, Bool.false_and, Bool.and_false, Bool.true_and, Bool.and_true, Bool.or_true, Bool.true_or, Bool.not_true, Bool.not_false, if_true, if_false, Bool.false_eq_true, reduceIte, Ty.name, Ty.args, hr, hl2]; cases n.isEmpty <;> cases ta.isEmpty <;> rfl)
      | (rw [hsb] at hs2; simp only [okT, bodyE, kidsE, typedE, e1, e2, e3, e4, e5, Bool.or_false, Bool.false_or, Bool.false_and, Bool.and_false, Bool.true_and, Bool.and_true, Bool.or_true, Bool.true_or, Bool.not_true, Bool.not_false, if_true, if_false, Bool.false_eq_true, reduceIte, Ty.name, Ty.args, hin, hl2, ← hs2]; done)
      | (rw [hsb] at hs2; simp only [okT, bodyE, kidsE, typedE, e1, e2, e3, e4, e5, Bool.or_false, Bool.false_or, Bool.false_and, Bool.and_false, Bool.true_and, Bool.and_true, Bool.or_true, Bool.true_or, Bool.not_true, Bool.not_false, if_true, if_false, Bool.false_eq_true, reduceIte, Ty.name, Ty.args, hin, hl2, ← hs2]; cases ta with | nil => rfl | cons x r => simp)

end Go.Proofs.YtpjkdaechknogaaGreatDoor

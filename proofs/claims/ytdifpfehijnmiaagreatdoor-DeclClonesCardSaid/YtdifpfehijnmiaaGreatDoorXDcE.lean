import Derived.Test.YtdifpfehijnmiaaGreatDoorPt
import Derived.Test.YtdifpfehijnmiaaGreatDoorPvPb
import Derived.Test.YtdifpfehijnmiaaGreatDoorPvY
import Derived.Test.YtdifpfehijnmiaaGreatDoorXExE
import Derived.Test.YtdifpfehijnmiaaGreatDoorXTyQ
import Derived.Test.YtdifpfehijnmiaaGreatDoorXExD
import Derived.Test.YtdifpfehijnmiaaGreatDoorXNaB
import Derived.Test.YtdifpfehijnmiaaGreatDoorXDcD
section
/- Contracts: the shape of an expression. -/
set_option linter.all false
set_option maxHeartbeats 1000000
set_option maxRecDepth 10000
namespace Go.Proofs.YtdifpfehijnmiaaGreatDoor
open Go Go.Pv
variable (g : Nat → Option (List AV)) (rnd : Bool)

theorem c_expr_shape_1 (t : Ty) (hw : wt t ≤ 1000000000) (hres : g 0 = some reservedA) : Valid Tryz.prog (G0 g rnd) 126 [.agg (encTy t)] (.bool (!rightT t)) := by

 refine valid_of [] Tryz.func126 rfl (by kernel_rfl) ?_
 refine sr fun Z z => ?_
 simp [Tryz.f126]
 refine z _ ?_
 clear z Z
 refine sr fun Z z => ?_
 simp
 refine RVn_call (c_types_Right g rnd t (by omega) hres) ?_
 simp
 refine z _ ?_
 clear z Z
 refine AT_ret ?_
 simp [Tryz.f126]

theorem c_expr_shape (e : Exp) (hw : wtE e ≤ 1000000000) (hres : g 0 = some reservedA) : Valid Tryz.prog (G0 g rnd) 90 [.agg (encE e)] (.bool (shapeE e)) := by
 obtain ⟨kd, n, t, ta, l, p⟩ := e
 obtain ⟨tn, tas, tp⟩ := t
 have hw2 : n.length + 1 + wt (.mk tn tas tp) + wts ta + wtEs l ≤ 1000000000 := by simpa [wtE_mk] using hw
 have hln := wtEs_len l
 have hla := wts_len ta
 obtain ⟨s1, hs1⟩ : ∃ s1, s1 = (tn.isEmpty && tas.isEmpty && ta.isEmpty) := ⟨_, rfl⟩
 obtain ⟨s2, hs2⟩ : ∃ s2, s2 = (tn.isEmpty && tas.isEmpty) := ⟨_, rfl⟩
 obtain ⟨s3, hs3⟩ : ∃ s3, s3 = (n.isEmpty && ta.isEmpty) := ⟨_, rfl⟩
 refine valid_of [] Tryz.func90 rfl (by kernel_rfl) ?_
 refine sr fun Z z => ?_
 simp [row_map, Tryz.f90]
 refine z _ ?_
 clear z Z
 rcases kd_cases kd with hk | hk | hk | hk | hk | ⟨e1, e2, e3, e4, e5⟩
 ·
  have e1 : (kd == 1) = true := by rw [hk]; rfl
  have e2 : (kd == 2) = false := by rw [hk]; rfl
  have e3 : (kd == 3) = false := by rw [hk]; rfl
  have e4 : (kd == 4) = false := by rw [hk]; rfl
  have e5 : (kd == 5) = false := by rw [hk]; rfl
  cases hin : (isName n)
  ·
   refine sr fun Z z => ?_
   simp [row_map, e1, e2, e3, e4, e5, hin]
   refine z _ ?_
   clear z Z
   refine sr fun Z z => ?_
   simp [row_map, e1, e2, e3, e4, e5, hin]
   refine z _ ?_
   clear z Z
   refine AT_seq_k fun K1 hK1 => ?_
   refine sr fun Z z => ?_
   simp [row_map, e1, e2, e3, e4, e5, hin]
   refine z _ ?_
   clear z Z
   refine AT_block ?_
   refine sr fun Z z => ?_
   simp [row_map, e1, e2, e3, e4, e5, hin]
   refine z _ ?_
   clear z Z
   refine cT (by simp [e1, e2, e3, e4, e5, hin]) ?_
   refine sr fun Z z => ?_
   simp [row_map, e1, e2, e3, e4, e5, hin]
   refine z _ ?_
   clear z Z
   refine sr fun Z z => ?_
   simp [row_map, e1, e2, e3, e4, e5, hin]
   refine RVn_call (c_name_Is g rnd n (by omega) hres) ?_
   simp [row_map, e1, e2, e3, e4, e5, hin]
   repeat refine sg ?_
   refine z _ ?_
   clear z Z
   refine AT_ret ?_
   simp [row_map, Tryz.f90]
   all_goals rw [shapeE_ok]
   (· simp only [okT, bodyE, kidsE, typedE, e1, e2, e3, e4, e5, Bool.or_false, Bool.false_or, Bool.false_and, Bool.and_false, Bool.true_and, Bool.and_true, Bool.or_true, Bool.true_or, Bool.not_true, Bool.not_false, if_true, if_false, Bool.false_eq_true, reduceIte, Ty.name, Ty.args, hin])
  ·
   cases hl1 : ((l.length : Int) == 0)
   ·
    have hl2 : l.isEmpty = false := by rw [← len_eq0]; exact hl1
    refine sr fun Z z => ?_
    simp [row_map, e1, e2, e3, e4, e5, hin, hl1]
    refine z _ ?_
    clear z Z
    refine sr fun Z z => ?_
    simp [row_map, e1, e2, e3, e4, e5, hin, hl1]
    refine z _ ?_
    clear z Z
    refine AT_seq_k fun K2 hK2 => ?_
    refine sr fun Z z => ?_
    simp [row_map, e1, e2, e3, e4, e5, hin, hl1]
    refine z _ ?_
    clear z Z
    refine AT_block ?_
    refine sr fun Z z => ?_
    simp [row_map, e1, e2, e3, e4, e5, hin, hl1]
    refine z _ ?_
    clear z Z
    refine cT (by simp [e1, e2, e3, e4, e5, hin, hl1]) ?_
    refine sr fun Z z => ?_
    simp [row_map, e1, e2, e3, e4, e5, hin, hl1]
    refine z _ ?_
    clear z Z
    refine sr fun Z z => ?_
    simp [row_map, e1, e2, e3, e4, e5, hin, hl1]
    refine RVn_call (c_name_Is g rnd n (by omega) hres) ?_
    simp [row_map, e1, e2, e3, e4, e5, hin, hl1]
    repeat refine sg ?_
    refine z _ ?_
    clear z Z
    refine AT_ret ?_
    simp [row_map, Tryz.f90]
    all_goals rw [shapeE_ok]
    (· simp only [okT, bodyE, kidsE, typedE, e1, e2, e3, e4, e5, Bool.or_false, Bool.false_or, Bool.false_and, Bool.and_false, Bool.true_and, Bool.and_true, Bool.or_true, Bool.true_or, Bool.not_true, Bool.not_false, if_true, if_false, Bool.false_eq_true, reduceIte, Ty.name, Ty.args, hin, hl2])
   ·
    have hl2 : l.isEmpty = true := by rw [← len_eq0]; exact hl1
    refine sr fun Z z => ?_
    simp [row_map, e1, e2, e3, e4, e5, hin, hl1]
    refine z _ ?_
    clear z Z
    refine sr fun Z z => ?_
    simp [row_map, e1, e2, e3, e4, e5, hin, hl1]
    refine z _ ?_
    clear z Z
    refine AT_seq_k fun K3 hK3 => ?_
    refine sr fun Z z => ?_
    simp [row_map, e1, e2, e3, e4, e5, hin, hl1]
    refine z _ ?_
    clear z Z
    refine AT_block ?_
    refine sr fun Z z => ?_
    simp [row_map, e1, e2, e3, e4, e5, hin, hl1]
    refine z _ ?_
    clear z Z
    refine cT (by simp [e1, e2, e3, e4, e5, hin, hl1]) ?_
    refine sr fun Z z => ?_
    simp [row_map, e1, e2, e3, e4, e5, hin, hl1]
    refine z _ ?_
    clear z Z
    refine sr fun Z z => ?_
    simp [row_map, e1, e2, e3, e4, e5, hin, hl1]
    refine RVn_call (c_name_Is g rnd n (by omega) hres) ?_
    simp [row_map, e1, e2, e3, e4, e5, hin, hl1]
    repeat refine sg ?_
    refine RVn_call ((by have h := c_expr_Same g rnd (.mk kd n (.mk tn tas tp) ta l p) (.mk kd n ty0 [] l 0) (by omega); rw [same_s1, show ((Ty.mk tn tas tp).name.isEmpty && (Ty.mk tn tas tp).args.isEmpty && ta.isEmpty) = s1 from hs1.symm, enc_s1] at h; exact h)) ?_
    simp [row_map, e1, e2, e3, e4, e5, hin, hl1]
    repeat refine sg ?_
    refine z _ ?_
    clear z Z
    refine AT_ret ?_
    simp [row_map, Tryz.f90]
    all_goals rw [shapeE_ok]
    (rw [hs1]; simp only [okT, bodyE, kidsE, typedE, e1, e2, e3, e4, e5, Bool.or_false, Bool.false_or, Bool.false_and, Bool.and_false, Bool.true_and, Bool.and_true, Bool.or_true, Bool.true_or, Bool.not_true, Bool.not_false, if_true, if_false, Bool.false_eq_true, reduceIte, Ty.name, Ty.args, hin, hl2]; cases tn.isEmpty <;> cases tas.isEmpty <;> cases ta.isEmpty <;> rfl)
 ·
  have e1 : (kd == 1) = false := by rw [hk]; rfl
  have e2 : (kd == 2) = true := by rw [hk]; rfl
  have e3 : (kd == 3) = false := by rw [hk]; rfl
  have e4 : (kd == 4) = false := by rw [hk]; rfl
  have e5 : (kd == 5) = false := by rw [hk]; rfl
  cases hin : (isName n)
  ·
   refine sr fun Z z => ?_
   simp [row_map, e1, e2, e3, e4, e5, hin]
   refine z _ ?_
   clear z Z
   refine sr fun Z z => ?_
   simp [row_map, e1, e2, e3, e4, e5, hin]
   refine z _ ?_
   clear z Z
   refine AT_seq_k fun K4 hK4 => ?_
   refine sr fun Z z => ?_
   simp [row_map, e1, e2, e3, e4, e5, hin]
   refine z _ ?_
   clear z Z
   refine AT_block ?_
   refine sr fun Z z => ?_
   simp [row_map, e1, e2, e3, e4, e5, hin]
   refine z _ ?_
   clear z Z
   refine cF (by simp [e1, e2, e3, e4, e5, hin]) ?_
   refine sr fun Z z => ?_
   simp [row_map, e1, e2, e3, e4, e5, hin]
   refine z _ ?_
   clear z Z
   refine cT (by simp [e1, e2, e3, e4, e5, hin]) ?_
   refine AT_seq_draw_m false [(1, 1), (3, 3), (35, 1), (37, 1), (39, 3), (40, 3)] Pt.mixed (by kernel_rfl) ⟨by simp [Im, okP, AS.get, look, TV.strip], fun h => by cases h⟩ fun Z z => ?_
   simp [row_map, e1, e2, e3, e4, e5, hin]
   refine z _ ?_
   clear z Z
   refine sr fun Z z => ?_
   simp [row_map, e1, e2, e3, e4, e5, hin]
   refine z _ ?_
   clear z Z
   refine sr fun Z z => ?_
   simp [row_map, e1, e2, e3, e4, e5, hin]
   refine RVn_call (c_name_Is g rnd n (by omega) hres) ?_
   simp [row_map, e1, e2, e3, e4, e5, hin]
   repeat refine sg ?_
   refine z _ ?_
   clear z Z
   refine AT_ret ?_
   simp [row_map, Tryz.f90]
   all_goals rw [shapeE_ok]
   (· simp only [okT, bodyE, kidsE, typedE, e1, e2, e3, e4, e5, Bool.or_false, Bool.false_or, Bool.false_and, Bool.and_false, Bool.true_and, Bool.and_true, Bool.or_true, Bool.true_or, Bool.not_true, Bool.not_false, if_true, if_false, Bool.false_eq_true, reduceIte, Ty.name, Ty.args, hin])
  ·
   by_cases hl1 : (1 : Int) ≤ l.length
   ·
    have hl2 : l.isEmpty = false := by rw [← Bool.not_eq_true, List.isEmpty_iff]; intro h; rw [h] at hl1; simp at hl1
    cases hsb : s2
    ·
     refine sr fun Z z => ?_
     simp [row_map, e1, e2, e3, e4, e5, hin, hl1, hsb]
     refine z _ ?_
     clear z Z
     refine sr fun Z z => ?_
     simp [row_map, e1, e2, e3, e4, e5, hin, hl1, hsb]
     refine z _ ?_
     clear z Z
     refine AT_seq_k fun K5 hK5 => ?_
     refine sr fun Z z => ?_
     simp [row_map, e1, e2, e3, e4, e5, hin, hl1, hsb]
     refine z _ ?_
     clear z Z
     refine AT_block ?_
     refine sr fun Z z => ?_
     simp [row_map, e1, e2, e3, e4, e5, hin, hl1, hsb]
     refine z _ ?_
     clear z Z
     refine cF (by simp [e1, e2, e3, e4, e5, hin, hl1, hsb]) ?_
     refine sr fun Z z => ?_
     simp [row_map, e1, e2, e3, e4, e5, hin, hl1, hsb]
     refine z _ ?_
     clear z Z
     refine cT (by simp [e1, e2, e3, e4, e5, hin, hl1, hsb]) ?_
     refine AT_seq_draw_m false [(1, 1), (3, 3), (35, 1), (37, 1), (39, 3), (40, 3)] Pt.mixed (by kernel_rfl) ⟨by simp [Im, okP, AS.get, look, TV.strip], fun h => by cases h⟩ fun Z z => ?_
     simp [row_map, e1, e2, e3, e4, e5, hin, hl1, hsb]
     refine z _ ?_
     clear z Z
     refine sr fun Z z => ?_
     simp [row_map, e1, e2, e3, e4, e5, hin, hl1, hsb]
     refine z _ ?_
     clear z Z
     refine sr fun Z z => ?_
     simp [row_map, e1, e2, e3, e4, e5, hin, hl1, hsb]
     refine RVn_call (c_name_Is g rnd n (by omega) hres) ?_
     simp [row_map, e1, e2, e3, e4, e5, hin, hl1, hsb]
     repeat refine sg ?_
     refine RVn_call ((by have h := c_expr_Same g rnd (.mk kd n (.mk tn tas tp) ta l p) (.mk kd n ty0 ta l 0) (by omega); rw [same_s2, show ((Ty.mk tn tas tp).name.isEmpty && (Ty.mk tn tas tp).args.isEmpty) = s2 from hs2.symm, enc_s1] at h; exact h)) ?_
     simp [row_map, e1, e2, e3, e4, e5, hin, hl1, hsb]
     repeat refine sg ?_
     refine z _ ?_
     clear z Z
     refine AT_ret ?_
     simp [row_map, Tryz.f90]
     all_goals rw [shapeE_ok]
     (· rw [hsb] at hs2; simp only [okT, bodyE, kidsE, typedE, e1, e2, e3, e4, e5, Bool.or_false, Bool.false_or, Bool.false_and, Bool.and_false, Bool.true_and, Bool.and_true, Bool.or_true, Bool.true_or, Bool.not_true, Bool.not_false, if_true, if_false, Bool.false_eq_true, reduceIte, Ty.name, Ty.args, hin, hl2, ← hs2])
    ·
     refine sr fun Z z => ?_
     simp [row_map, e1, e2, e3, e4, e5, hin, hl1, hsb]
     refine z _ ?_
     clear z Z
     refine sr fun Z z => ?_
     simp [row_map, e1, e2, e3, e4, e5, hin, hl1, hsb]
     refine z _ ?_
     clear z Z
     refine AT_seq_k fun K6 hK6 => ?_
     refine sr fun Z z => ?_
     simp [row_map, e1, e2, e3, e4, e5, hin, hl1, hsb]
     refine z _ ?_
     clear z Z
     refine AT_block ?_
     refine sr fun Z z => ?_
     simp [row_map, e1, e2, e3, e4, e5, hin, hl1, hsb]
     refine z _ ?_
     clear z Z
     refine cF (by simp [e1, e2, e3, e4, e5, hin, hl1, hsb]) ?_
     refine sr fun Z z => ?_
     simp [row_map, e1, e2, e3, e4, e5, hin, hl1, hsb]
     refine z _ ?_
     clear z Z
     refine cT (by simp [e1, e2, e3, e4, e5, hin, hl1, hsb]) ?_
     refine AT_seq_draw_m false [(1, 1), (3, 3), (35, 1), (37, 1), (39, 3), (40, 3)] Pt.mixed (by kernel_rfl) ⟨by simp [Im, okP, AS.get, look, TV.strip], fun h => by cases h⟩ fun Z z => ?_
     simp [row_map, e1, e2, e3, e4, e5, hin, hl1, hsb]
     refine z _ ?_
     clear z Z
     refine sr fun Z z => ?_
     simp [row_map, e1, e2, e3, e4, e5, hin, hl1, hsb]
     refine z _ ?_
     clear z Z
     refine sr fun Z z => ?_
     simp [row_map, e1, e2, e3, e4, e5, hin, hl1, hsb]
     refine RVn_call (c_name_Is g rnd n (by omega) hres) ?_
     simp [row_map, e1, e2, e3, e4, e5, hin, hl1, hsb]
     repeat refine sg ?_
     refine RVn_call ((by have h := c_expr_Same g rnd (.mk kd n (.mk tn tas tp) ta l p) (.mk kd n ty0 ta l 0) (by omega); rw [same_s2, show ((Ty.mk tn tas tp).name.isEmpty && (Ty.mk tn tas tp).args.isEmpty) = s2 from hs2.symm, enc_s1] at h; exact h)) ?_
     simp [row_map, e1, e2, e3, e4, e5, hin, hl1, hsb]
     repeat refine sg ?_
     refine RVn_call ((by have h := c_slices_ContainsFunc_api_Type_api_Type_q g rnd 126 [] (fun x => !rightT x) ta (by omega) (fun x hx => c_expr_shape_1 g rnd x (by have := wts_mem hx; omega) hres); rw [any_right] at h; exact h)) ?_
     simp [row_map, e1, e2, e3, e4, e5, hin, hl1, hsb]
     repeat refine sg ?_
     refine z _ ?_
     clear z Z
     refine AT_ret ?_
     simp [row_map, Tryz.f90]
     all_goals rw [shapeE_ok]
     (rw [hsb] at hs2; simp only [okT, bodyE, kidsE, typedE, e1, e2, e3, e4, e5, Bool.or_false, Bool.false_or, Bool.false_and, Bool.and_false, Bool.true_and, Bool.and_true, Bool.or_true, Bool.true_or, Bool.not_true, Bool.not_false, if_true, if_false, Bool.false_eq_true, reduceIte, Ty.name, Ty.args, hin, hl2, ← hs2]; cases ta with | nil => rfl | cons x r => simp)
   ·
    have hl2 : l.isEmpty = true := by cases l with | nil => rfl | cons x r => exact absurd (by simp; omega) hl1
    refine sr fun Z z => ?_
    simp [row_map, e1, e2, e3, e4, e5, hin, hl1]
    refine z _ ?_
    clear z Z
    refine sr fun Z z => ?_
    simp [row_map, e1, e2, e3, e4, e5, hin, hl1]
    refine z _ ?_
    clear z Z
    refine AT_seq_k fun K7 hK7 => ?_
    refine sr fun Z z => ?_
    simp [row_map, e1, e2, e3, e4, e5, hin, hl1]
    refine z _ ?_
    clear z Z
    refine AT_block ?_
    refine sr fun Z z => ?_
    simp [row_map, e1, e2, e3, e4, e5, hin, hl1]
    refine z _ ?_
    clear z Z
    refine cF (by simp [e1, e2, e3, e4, e5, hin, hl1]) ?_
    refine sr fun Z z => ?_
    simp [row_map, e1, e2, e3, e4, e5, hin, hl1]
    refine z _ ?_
    clear z Z
    refine cT (by simp [e1, e2, e3, e4, e5, hin, hl1]) ?_
    refine AT_seq_draw_m false [(1, 1), (3, 3), (35, 1), (37, 1), (39, 3), (40, 3)] Pt.mixed (by kernel_rfl) ⟨by simp [Im, okP, AS.get, look, TV.strip], fun h => by cases h⟩ fun Z z => ?_
    simp [row_map, e1, e2, e3, e4, e5, hin, hl1]
    refine z _ ?_
    clear z Z
    refine sr fun Z z => ?_
    simp [row_map, e1, e2, e3, e4, e5, hin, hl1]
    refine z _ ?_
    clear z Z
    refine sr fun Z z => ?_
    simp [row_map, e1, e2, e3, e4, e5, hin, hl1]
    refine RVn_call (c_name_Is g rnd n (by omega) hres) ?_
    simp [row_map, e1, e2, e3, e4, e5, hin, hl1]
    repeat refine sg ?_
    refine z _ ?_
    clear z Z
    refine AT_ret ?_
    simp [row_map, Tryz.f90]
    all_goals rw [shapeE_ok]
    (· simp only [okT, bodyE, kidsE, typedE, e1, e2, e3, e4, e5, Bool.or_false, Bool.false_or, Bool.false_and, Bool.and_false, Bool.true_and, Bool.and_true, Bool.or_true, Bool.true_or, Bool.not_true, Bool.not_false, if_true, if_false, Bool.false_eq_true, reduceIte, Ty.name, Ty.args, hin, hl2])
 ·
  have e1 : (kd == 1) = false := by rw [hk]; rfl
  have e2 : (kd == 2) = false := by rw [hk]; rfl
  have e3 : (kd == 3) = true := by rw [hk]; rfl
  have e4 : (kd == 4) = false := by rw [hk]; rfl
  have e5 : (kd == 5) = false := by rw [hk]; rfl
  cases hr : (rightT (.mk tn tas tp))
  ·
   refine sr fun Z z => ?_
   simp [row_map, e1, e2, e3, e4, e5, hr]
   refine z _ ?_
   clear z Z
   refine sr fun Z z => ?_
   simp [row_map, e1, e2, e3, e4, e5, hr]
   refine z _ ?_
   clear z Z
   refine AT_seq_k fun K8 hK8 => ?_
   refine sr fun Z z => ?_
   simp [row_map, e1, e2, e3, e4, e5, hr]
   refine z _ ?_
   clear z Z
   refine AT_block ?_
   refine sr fun Z z => ?_
   simp [row_map, e1, e2, e3, e4, e5, hr]
   refine z _ ?_
   clear z Z
   refine cF (by simp [e1, e2, e3, e4, e5, hr]) ?_
   refine sr fun Z z => ?_
   simp [row_map, e1, e2, e3, e4, e5, hr]
   refine z _ ?_
   clear z Z
   refine cF (by simp [e1, e2, e3, e4, e5, hr]) ?_
   refine sr fun Z z => ?_
   simp [row_map, e1, e2, e3, e4, e5, hr]
   refine z _ ?_
   clear z Z
   refine cT (by simp [e1, e2, e3, e4, e5, hr]) ?_
   refine sr fun Z z => ?_
   simp [row_map, encTy_mk, e1, e2, e3, e4, e5, hr]
   refine z _ ?_
   clear z Z
   refine sr fun Z z => ?_
   simp [row_map, e1, e2, e3, e4, e5, hr]
   refine RVn_call (c_types_Right g rnd (.mk tn tas tp) (by omega) hres) ?_
   simp [row_map, e1, e2, e3, e4, e5, hr]
   repeat refine sg ?_
   refine z _ ?_
   clear z Z
   refine AT_ret ?_
   simp [row_map, Tryz.f90]
   all_goals rw [shapeE_ok]
   (· simp only [okT, bodyE, kidsE, typedE, e1, e2, e3, e4, e5, Bool.or_false, Bool.false_or, Bool.false_and, Bool.and_false, Bool.true_and, Bool.and_true, Bool.or_true, Bool.true_or, Bool.not_true, Bool.not_false, if_true, if_false, Bool.false_eq_true, reduceIte, Ty.name, Ty.args, hr])
  ·
   refine sr fun Z z => ?_
   simp [row_map, e1, e2, e3, e4, e5, hr]
   refine z _ ?_
   clear z Z
   refine sr fun Z z => ?_
   simp [row_map, e1, e2, e3, e4, e5, hr]
   refine z _ ?_
   clear z Z
   refine AT_seq_k fun K9 hK9 => ?_
   refine sr fun Z z => ?_
   simp [row_map, e1, e2, e3, e4, e5, hr]
   refine z _ ?_
   clear z Z
   refine AT_block ?_
   refine sr fun Z z => ?_
   simp [row_map, e1, e2, e3, e4, e5, hr]
   refine z _ ?_
   clear z Z
   refine cF (by simp [e1, e2, e3, e4, e5, hr]) ?_
   refine sr fun Z z => ?_
   simp [row_map, e1, e2, e3, e4, e5, hr]
   refine z _ ?_
   clear z Z
   refine cF (by simp [e1, e2, e3, e4, e5, hr]) ?_
   refine sr fun Z z => ?_
   simp [row_map, e1, e2, e3, e4, e5, hr]
   refine z _ ?_
   clear z Z
   refine cT (by simp [e1, e2, e3, e4, e5, hr]) ?_
   refine sr fun Z z => ?_
   simp [row_map, encTy_mk, e1, e2, e3, e4, e5, hr]
   refine z _ ?_
   clear z Z
   refine sr fun Z z => ?_
   simp [row_map, e1, e2, e3, e4, e5, hr]
   refine RVn_call (c_types_Right g rnd (.mk tn tas tp) (by omega) hres) ?_
   simp [row_map, e1, e2, e3, e4, e5, hr]
   repeat refine sg ?_
   refine RVn_call ((by have h := c_expr_Same g rnd (.mk kd n (.mk tn tas tp) ta l p) (.mk kd [] (.mk tn tas tp) [] l 0) (by omega); rw [same_s3, ← hs3, encE_mk kd [] (.mk tn tas tp) [] l 0] at h; exact h)) ?_
   simp [row_map, e1, e2, e3, e4, e5, hr]
   repeat refine sg ?_
   refine z _ ?_
   clear z Z
   refine AT_ret ?_
   simp [row_map, Tryz.f90]
   all_goals rw [shapeE_ok]
   (rw [hs3]; simp only [okT, bodyE, kidsE, typedE, e1, e2, e3, e4, e5, Bool.or_false, Bool.false_or, Bool.false_and, Bool.and_false, Bool.true_and, Bool.and_true, Bool.or_true, Bool.true_or, Bool.not_true, Bool.not_false, if_true, if_false, Bool.false_eq_true, reduceIte, Ty.name, Ty.args, hr]; cases n.isEmpty <;> cases ta.isEmpty <;> rfl)
 ·
  have e1 : (kd == 1) = false := by rw [hk]; rfl
  have e2 : (kd == 2) = false := by rw [hk]; rfl
  have e3 : (kd == 3) = false := by rw [hk]; rfl
  have e4 : (kd == 4) = true := by rw [hk]; rfl
  have e5 : (kd == 5) = false := by rw [hk]; rfl
  cases hin : (isName n)
  ·
   refine sr fun Z z => ?_
   simp [row_map, e1, e2, e3, e4, e5, hin]
   refine z _ ?_
   clear z Z
   refine sr fun Z z => ?_
   simp [row_map, e1, e2, e3, e4, e5, hin]
   refine z _ ?_
   clear z Z
   refine AT_seq_k fun K10 hK10 => ?_
   refine sr fun Z z => ?_
   simp [row_map, e1, e2, e3, e4, e5, hin]
   refine z _ ?_
   clear z Z
   refine AT_block ?_
   refine sr fun Z z => ?_
   simp [row_map, e1, e2, e3, e4, e5, hin]
   refine z _ ?_
   clear z Z
   refine cF (by simp [e1, e2, e3, e4, e5, hin]) ?_
   refine sr fun Z z => ?_
   simp [row_map, e1, e2, e3, e4, e5, hin]
   refine z _ ?_
   clear z Z
   refine cF (by simp [e1, e2, e3, e4, e5, hin]) ?_
   refine sr fun Z z => ?_
   simp [row_map, e1, e2, e3, e4, e5, hin]
   refine z _ ?_
   clear z Z
   refine cF (by simp [e1, e2, e3, e4, e5, hin]) ?_
   refine sr fun Z z => ?_
   simp [row_map, e1, e2, e3, e4, e5, hin]
   refine z _ ?_
   clear z Z
   refine cT (by simp [e1, e2, e3, e4, e5, hin]) ?_
   refine sr fun Z z => ?_
   simp [row_map, e1, e2, e3, e4, e5, hin]
   refine z _ ?_
   clear z Z
   refine sr fun Z z => ?_
   simp [row_map, e1, e2, e3, e4, e5, hin]
   refine RVn_call (c_name_Is g rnd n (by omega) hres) ?_
   simp [row_map, e1, e2, e3, e4, e5, hin]
   repeat refine sg ?_
   refine z _ ?_
   clear z Z
   refine AT_ret ?_
   simp [row_map, Tryz.f90]
   all_goals rw [shapeE_ok]
   (· simp only [okT, bodyE, kidsE, typedE, e1, e2, e3, e4, e5, Bool.or_false, Bool.false_or, Bool.false_and, Bool.and_false, Bool.true_and, Bool.and_true, Bool.or_true, Bool.true_or, Bool.not_true, Bool.not_false, if_true, if_false, Bool.false_eq_true, reduceIte, Ty.name, Ty.args, hin])
  ·
   cases hl1 : ((l.length : Int) == 1)
   ·
    have hl2 : (l.length == 1) = false := by rw [← len_eq1]; exact hl1
    refine sr fun Z z => ?_
    simp [row_map, e1, e2, e3, e4, e5, hin, hl1]
    refine z _ ?_
    clear z Z
    refine sr fun Z z => ?_
    simp [row_map, e1, e2, e3, e4, e5, hin, hl1]
    refine z _ ?_
    clear z Z
    refine AT_seq_k fun K11 hK11 => ?_
    refine sr fun Z z => ?_
    simp [row_map, e1, e2, e3, e4, e5, hin, hl1]
    refine z _ ?_
    clear z Z
    refine AT_block ?_
    refine sr fun Z z => ?_
    simp [row_map, e1, e2, e3, e4, e5, hin, hl1]
    refine z _ ?_
    clear z Z
    refine cF (by simp [e1, e2, e3, e4, e5, hin, hl1]) ?_
    refine sr fun Z z => ?_
    simp [row_map, e1, e2, e3, e4, e5, hin, hl1]
    refine z _ ?_
    clear z Z
    refine cF (by simp [e1, e2, e3, e4, e5, hin, hl1]) ?_
    refine sr fun Z z => ?_
    simp [row_map, e1, e2, e3, e4, e5, hin, hl1]
    refine z _ ?_
    clear z Z
    refine cF (by simp [e1, e2, e3, e4, e5, hin, hl1]) ?_
    refine sr fun Z z => ?_
    simp [row_map, e1, e2, e3, e4, e5, hin, hl1]
    refine z _ ?_
    clear z Z
    refine cT (by simp [e1, e2, e3, e4, e5, hin, hl1]) ?_
    refine sr fun Z z => ?_
    simp [row_map, e1, e2, e3, e4, e5, hin, hl1]
    refine z _ ?_
    clear z Z
    refine sr fun Z z => ?_
    simp [row_map, e1, e2, e3, e4, e5, hin, hl1]
    refine RVn_call (c_name_Is g rnd n (by omega) hres) ?_
    simp [row_map, e1, e2, e3, e4, e5, hin, hl1]
    repeat refine sg ?_
    refine z _ ?_
    clear z Z
    refine AT_ret ?_
    simp [row_map, Tryz.f90]
    all_goals rw [shapeE_ok]
    (· simp only [okT, bodyE, kidsE, typedE, e1, e2, e3, e4, e5, Bool.or_false, Bool.false_or, Bool.false_and, Bool.and_false, Bool.true_and, Bool.and_true, Bool.or_true, Bool.true_or, Bool.not_true, Bool.not_false, if_true, if_false, Bool.false_eq_true, reduceIte, Ty.name, Ty.args, hin, hl2])
   ·
    have hl2 : (l.length == 1) = true := by rw [← len_eq1]; exact hl1
    refine sr fun Z z => ?_
    simp [row_map, e1, e2, e3, e4, e5, hin, hl1]
    refine z _ ?_
    clear z Z
    refine sr fun Z z => ?_
    simp [row_map, e1, e2, e3, e4, e5, hin, hl1]
    refine z _ ?_
    clear z Z
    refine AT_seq_k fun K12 hK12 => ?_
    refine sr fun Z z => ?_
    simp [row_map, e1, e2, e3, e4, e5, hin, hl1]
    refine z _ ?_
    clear z Z
    refine AT_block ?_
    refine sr fun Z z => ?_
    simp [row_map, e1, e2, e3, e4, e5, hin, hl1]
    refine z _ ?_
    clear z Z
    refine cF (by simp [e1, e2, e3, e4, e5, hin, hl1]) ?_
    refine sr fun Z z => ?_
    simp [row_map, e1, e2, e3, e4, e5, hin, hl1]
    refine z _ ?_
    clear z Z
    refine cF (by simp [e1, e2, e3, e4, e5, hin, hl1]) ?_
    refine sr fun Z z => ?_
    simp [row_map, e1, e2, e3, e4, e5, hin, hl1]
    refine z _ ?_
    clear z Z
    refine cF (by simp [e1, e2, e3, e4, e5, hin, hl1]) ?_
    refine sr fun Z z => ?_
    simp [row_map, e1, e2, e3, e4, e5, hin, hl1]
    refine z _ ?_
    clear z Z
    refine cT (by simp [e1, e2, e3, e4, e5, hin, hl1]) ?_
    refine sr fun Z z => ?_
    simp [row_map, e1, e2, e3, e4, e5, hin, hl1]
    refine z _ ?_
    clear z Z
    refine sr fun Z z => ?_
    simp [row_map, e1, e2, e3, e4, e5, hin, hl1]
    refine RVn_call (c_name_Is g rnd n (by omega) hres) ?_
    simp [row_map, e1, e2, e3, e4, e5, hin, hl1]
    repeat refine sg ?_
    refine RVn_call ((by have h := c_expr_Same g rnd (.mk kd n (.mk tn tas tp) ta l p) (.mk kd n ty0 [] l 0) (by omega); rw [same_s1, show ((Ty.mk tn tas tp).name.isEmpty && (Ty.mk tn tas tp).args.isEmpty && ta.isEmpty) = s1 from hs1.symm, enc_s1] at h; exact h)) ?_
    simp [row_map, e1, e2, e3, e4, e5, hin, hl1]
    repeat refine sg ?_
    refine z _ ?_
    clear z Z
    refine AT_ret ?_
    simp [row_map, Tryz.f90]
    all_goals rw [shapeE_ok]
    (rw [hs1]; simp only [okT, bodyE, kidsE, typedE, e1, e2, e3, e4, e5, Bool.or_false, Bool.false_or, Bool.false_and, Bool.and_false, Bool.true_and, Bool.and_true, Bool.or_true, Bool.true_or, Bool.not_true, Bool.not_false, if_true, if_false, Bool.false_eq_true, reduceIte, Ty.name, Ty.args, hin, hl2]; cases tn.isEmpty <;> cases tas.isEmpty <;> cases ta.isEmpty <;> rfl)
 ·
  have e1 : (kd == 1) = false := by rw [hk]; rfl
  have e2 : (kd == 2) = false := by rw [hk]; rfl
  have e3 : (kd == 3) = false := by rw [hk]; rfl
  have e4 : (kd == 4) = false := by rw [hk]; rfl
  have e5 : (kd == 5) = true := by rw [hk]; rfl
  cases hr : (rightT (.mk tn tas tp))
  ·
   refine sr fun Z z => ?_
   simp [row_map, e1, e2, e3, e4, e5, hr]
   refine z _ ?_
   clear z Z
   refine sr fun Z z => ?_
   simp [row_map, e1, e2, e3, e4, e5, hr]
   refine z _ ?_
   clear z Z
   refine AT_seq_k fun K13 hK13 => ?_
   refine sr fun Z z => ?_
   simp [row_map, e1, e2, e3, e4, e5, hr]
   refine z _ ?_
   clear z Z
   refine AT_block ?_
   refine sr fun Z z => ?_
   simp [row_map, e1, e2, e3, e4, e5, hr]
   refine z _ ?_
   clear z Z
   refine cF (by simp [e1, e2, e3, e4, e5, hr]) ?_
   refine sr fun Z z => ?_
   simp [row_map, e1, e2, e3, e4, e5, hr]
   refine z _ ?_
   clear z Z
   refine cF (by simp [e1, e2, e3, e4, e5, hr]) ?_
   refine sr fun Z z => ?_
   simp [row_map, e1, e2, e3, e4, e5, hr]
   refine z _ ?_
   clear z Z
   refine cF (by simp [e1, e2, e3, e4, e5, hr]) ?_
   refine sr fun Z z => ?_
   simp [row_map, e1, e2, e3, e4, e5, hr]
   refine z _ ?_
   clear z Z
   refine cF (by simp [e1, e2, e3, e4, e5, hr]) ?_
   refine AT_skip ?_
   refine hK13 _ ?_
   refine sr fun Z z => ?_
   simp [row_map, encTy_mk, e1, e2, e3, e4, e5, hr]
   refine z _ ?_
   clear z Z
   refine sr fun Z z => ?_
   simp [row_map, e1, e2, e3, e4, e5, hr]
   refine RVn_call (c_types_Right g rnd (.mk tn tas tp) (by omega) hres) ?_
   simp [row_map, e1, e2, e3, e4, e5, hr]
   repeat refine sg ?_
   refine z _ ?_
   clear z Z
   refine AT_ret ?_
   simp [row_map, Tryz.f90]
   all_goals rw [shapeE_ok]
   (· simp only [okT, bodyE, kidsE, typedE, e1, e2, e3, e4, e5, Bool.or_false, Bool.false_or, Bool.false_and, Bool.and_false, Bool.true_and, Bool.and_true, Bool.or_true, Bool.true_or, Bool.not_true, Bool.not_false, if_true, if_false, Bool.false_eq_true, reduceIte, Ty.name, Ty.args, hr])
  ·
   cases hl1 : ((l.length : Int) == 1)
   ·
    have hl2 : (l.length == 1) = false := by rw [← len_eq1]; exact hl1
    refine sr fun Z z => ?_
    simp [row_map, e1, e2, e3, e4, e5, hr, hl1]
    refine z _ ?_
    clear z Z
    refine sr fun Z z => ?_
    simp [row_map, e1, e2, e3, e4, e5, hr, hl1]
    refine z _ ?_
    clear z Z
    refine AT_seq_k fun K14 hK14 => ?_
    refine sr fun Z z => ?_
    simp [row_map, e1, e2, e3, e4, e5, hr, hl1]
    refine z _ ?_
    clear z Z
    refine AT_block ?_
    refine sr fun Z z => ?_
    simp [row_map, e1, e2, e3, e4, e5, hr, hl1]
    refine z _ ?_
    clear z Z
    refine cF (by simp [e1, e2, e3, e4, e5, hr, hl1]) ?_
    refine sr fun Z z => ?_
    simp [row_map, e1, e2, e3, e4, e5, hr, hl1]
    refine z _ ?_
    clear z Z
    refine cF (by simp [e1, e2, e3, e4, e5, hr, hl1]) ?_
    refine sr fun Z z => ?_
    simp [row_map, e1, e2, e3, e4, e5, hr, hl1]
    refine z _ ?_
    clear z Z
    refine cF (by simp [e1, e2, e3, e4, e5, hr, hl1]) ?_
    refine sr fun Z z => ?_
    simp [row_map, e1, e2, e3, e4, e5, hr, hl1]
    refine z _ ?_
    clear z Z
    refine cF (by simp [e1, e2, e3, e4, e5, hr, hl1]) ?_
    refine AT_skip ?_
    refine hK14 _ ?_
    refine sr fun Z z => ?_
    simp [row_map, encTy_mk, e1, e2, e3, e4, e5, hr, hl1]
    refine z _ ?_
    clear z Z
    refine sr fun Z z => ?_
    simp [row_map, e1, e2, e3, e4, e5, hr, hl1]
    refine RVn_call (c_types_Right g rnd (.mk tn tas tp) (by omega) hres) ?_
    simp [row_map, e1, e2, e3, e4, e5, hr, hl1]
    repeat refine sg ?_
    refine z _ ?_
    clear z Z
    refine AT_ret ?_
    simp [row_map, Tryz.f90]
    all_goals rw [shapeE_ok]
    (· simp only [okT, bodyE, kidsE, typedE, e1, e2, e3, e4, e5, Bool.or_false, Bool.false_or, Bool.false_and, Bool.and_false, Bool.true_and, Bool.and_true, Bool.or_true, Bool.true_or, Bool.not_true, Bool.not_false, if_true, if_false, Bool.false_eq_true, reduceIte, Ty.name, Ty.args, hr, hl2])
   ·
    have hl2 : (l.length == 1) = true := by rw [← len_eq1]; exact hl1
    refine sr fun Z z => ?_
    simp [row_map, e1, e2, e3, e4, e5, hr, hl1]
    refine z _ ?_
    clear z Z
    refine sr fun Z z => ?_
    simp [row_map, e1, e2, e3, e4, e5, hr, hl1]
    refine z _ ?_
    clear z Z
    refine AT_seq_k fun K15 hK15 => ?_
    refine sr fun Z z => ?_
    simp [row_map, e1, e2, e3, e4, e5, hr, hl1]
    refine z _ ?_
    clear z Z
    refine AT_block ?_
    refine sr fun Z z => ?_
    simp [row_map, e1, e2, e3, e4, e5, hr, hl1]
    refine z _ ?_
    clear z Z
    refine cF (by simp [e1, e2, e3, e4, e5, hr, hl1]) ?_
    refine sr fun Z z => ?_
    simp [row_map, e1, e2, e3, e4, e5, hr, hl1]
    refine z _ ?_
    clear z Z
    refine cF (by simp [e1, e2, e3, e4, e5, hr, hl1]) ?_
    refine sr fun Z z => ?_
    simp [row_map, e1, e2, e3, e4, e5, hr, hl1]
    refine z _ ?_
    clear z Z
    refine cF (by simp [e1, e2, e3, e4, e5, hr, hl1]) ?_
    refine sr fun Z z => ?_
    simp [row_map, e1, e2, e3, e4, e5, hr, hl1]
    refine z _ ?_
    clear z Z
    refine cF (by simp [e1, e2, e3, e4, e5, hr, hl1]) ?_
    refine AT_skip ?_
    refine hK15 _ ?_
    refine sr fun Z z => ?_
    simp [row_map, encTy_mk, e1, e2, e3, e4, e5, hr, hl1]
    refine z _ ?_
    clear z Z
    refine sr fun Z z => ?_
    simp [row_map, e1, e2, e3, e4, e5, hr, hl1]
    refine RVn_call (c_types_Right g rnd (.mk tn tas tp) (by omega) hres) ?_
    simp [row_map, e1, e2, e3, e4, e5, hr, hl1]
    repeat refine sg ?_
    refine RVn_call ((by have h := c_expr_Same g rnd (.mk kd n (.mk tn tas tp) ta l p) (.mk kd [] (.mk tn tas tp) [] l 0) (by omega); rw [same_s3, ← hs3, encE_mk kd [] (.mk tn tas tp) [] l 0] at h; exact h)) ?_
    simp [row_map, e1, e2, e3, e4, e5, hr, hl1]
    repeat refine sg ?_
    refine z _ ?_
    clear z Z
    refine AT_ret ?_
    simp [row_map, Tryz.f90]
    all_goals rw [shapeE_ok]
    (rw [hs3]; simp only [okT, bodyE, kidsE, typedE, e1, e2, e3, e4, e5, Bool.or_false, Bool.false_or, Bool.false_and, Bool.and_false, Bool.true_and, Bool.and_true, Bool.or_true, Bool.true_or, Bool.not_true, Bool.not_false, if_true, if_false, Bool.false_eq_true, reduceIte, Ty.name, Ty.args, hr, hl2]; cases n.isEmpty <;> cases ta.isEmpty <;> rfl)
 ·
  refine sr fun Z z => ?_
  simp [row_map, e1, e2, e3, e4, e5]
  refine z _ ?_
  clear z Z
  refine sr fun Z z => ?_
  simp [row_map, e1, e2, e3, e4, e5]
  refine z _ ?_
  clear z Z
  refine AT_seq_k fun K16 hK16 => ?_
  refine sr fun Z z => ?_
  simp [row_map, e1, e2, e3, e4, e5]
  refine z _ ?_
  clear z Z
  refine AT_block ?_
  refine sr fun Z z => ?_
  simp [row_map, e1, e2, e3, e4, e5]
  refine z _ ?_
  clear z Z
  refine cF (by simp [e1, e2, e3, e4, e5]) ?_
  refine sr fun Z z => ?_
  simp [row_map, e1, e2, e3, e4, e5]
  refine z _ ?_
  clear z Z
  refine cF (by simp [e1, e2, e3, e4, e5]) ?_
  refine sr fun Z z => ?_
  simp [row_map, e1, e2, e3, e4, e5]
  refine z _ ?_
  clear z Z
  refine cF (by simp [e1, e2, e3, e4, e5]) ?_
  refine sr fun Z z => ?_
  simp [row_map, e1, e2, e3, e4, e5]
  refine z _ ?_
  clear z Z
  refine cF (by simp [e1, e2, e3, e4, e5]) ?_
  refine AT_skip ?_
  refine hK16 _ ?_
  refine sr fun Z z => ?_
  simp [row_map, encTy_mk, e1, e2, e3, e4, e5]
  refine z _ ?_
  clear z Z
  refine sr fun Z z => ?_
  simp [row_map, e1, e2, e3, e4, e5]
  refine z _ ?_
  clear z Z
  refine AT_ret ?_
  simp [row_map, Tryz.f90]
  all_goals rw [shapeE_ok]
  (· simp only [okT, bodyE, kidsE, typedE, e1, e2, e3, e4, e5, Bool.or_false, Bool.false_or, Bool.false_and, Bool.and_false, Bool.true_and, Bool.and_true, Bool.or_true, Bool.true_or, Bool.not_true, Bool.not_false, if_true, if_false, Bool.false_eq_true, reduceIte, Ty.name, Ty.args])

end Go.Proofs.YtdifpfehijnmiaaGreatDoor
end

section
/- Contracts: right expressions, by the iterator. -/
set_option linter.all false
set_option maxHeartbeats 1000000
set_option maxRecDepth 10000
namespace Go.Proofs.YtdifpfehijnmiaaGreatDoor
open Go Go.Pv
variable (g : Nat → Option (List AV)) (rnd : Bool)

theorem c_expr_Right_z (e : Exp) (hw : wtE e ≤ 400000000) (hres : g 0 = some reservedA) : Valid Tryz.prog (G0 g false) 31 [.agg (encE e)] (.bool (rightE e)) := by

 refine valid_of [] Tryz.func31 rfl (by kernel_rfl) ?_
 refine sr fun Z z => ?_
 simp [encE_mk, encTy_def, Tryz.f31]
 refine z _ ?_
 clear z Z
 refine AT_seq_k fun K1 hK1 => ?_
 refine sr fun Z z => ?_
 simp [encE_mk, encTy_def, encE_mk, encTy_def]
 refine RVn_call (c_expr_All g false e) ?_
 simp [encE_mk, encTy_def, encE_mk, encTy_def]
 refine z _ ?_
 clear z Z
 refine AT_block ?_
 refine AT_keep [2,5] [2] (by first | rfl | simp) ?_
 refine AT_rangeFunc rfl rfl (by first | rfl | simp) (by first | decide | simp) [2] (by decide) (elP ((lstE e).map avE)) (goE shapeE) (feedG (goE shapeE) [] ((lstE e).map avE)) (fun Y hP hgo hel => ⟨_, by have h := c_expr_All_1 g Y hP e (by omega) [] (elOk_P hel _ _ (by simp)); rw [feed_G, hgo] at h; exact h⟩) (fun s => { n := 17, tm := [(2, .lp 2 0), (5, .v (.func 108 [.ro (encE e)]) none)], bx := [(2, [.bool false])], tb := [], sh := [], hint := [] }) (by first | rfl | simp) ?_ ?_
 intro s x hel
 obtain ⟨x, rfl, hn⟩ := elP_exp hel
 obtain ⟨kx, nx, tx, ax, lx, px⟩ := x
 refine AT_region_q fun Z z => ?_
 simp [encE_mk, encTy_def]
 refine z _ ?_
 clear z Z
 refine AT_block ?_
 refine sr fun Z z => ?_
 simp [encE_mk, encTy_def]
 refine RVn_call (repeat_zero g true lx.length (by have h2 := lstE_mem_wt e _ hn; have h3 := wtEs_len lx; simp [wtE_mk] at h2; omega)) ?_
 simp [encE_mk, encTy_def]
 refine z _ ?_
 clear z Z
 refine sr fun Z z => ?_
 simp [encE_mk, encTy_def]
 refine RVn_call ((by have h := c_expr_shape g true (.mk kx nx tx ax (List.replicate lx.length ex0) px) (by have h1 := wt_bareK (.mk kx nx tx ax lx px); have h2 := lstE_mem_wt e _ hn; simp only [bareK] at h1; omega) hres; have hs := shape_bareK (.mk kx nx tx ax lx px); simp only [bareK] at hs; rw [hs] at h; simp only [encE_mk, encTy_def, List.map_replicate, enc_ex0] at h; exact h)) ?_
 simp [encE_mk, encTy_def]
 refine z _ ?_
 clear z Z
 refine AT_cond (g := none) rfl (fun hb16 => ?_) (fun hb16 => ?_)
 simp [encE_mk, encTy_def] at hb16
 refine sr fun Z z => ?_
 simp [encE_mk, encTy_def, hb16]
 refine z _ ?_
 clear z Z
 refine AT_ret ?_
 refine ⟨by rw [goE_at]; simpa using hb16, by first | rfl | simp [tmOk], [2], by first | rfl | simp, ?_⟩
 refine AT_ret ?_
 simp [encE_mk, encTy_def, Tryz.f31]
 (· have hz : rightE e = false := by rw [rightE_all, List.all_eq_false]; exact ⟨_, hn, by simpa using hb16⟩
    simp [hz, AS.out])
 simp [encE_mk, encTy_def] at hb16
 refine AT_skip ?_
 refine ⟨by rw [goE_at]; simpa using hb16, by first | rfl | simp [tmOk], [2], by first | rfl | simp, ?_⟩
 simp [AS.out]
 intro hfin
 rw [feedG_goE, ← rightE_all] at hfin
 refine hK1 _ ?_
 refine sr fun Z z => ?_
 simp [encE_mk, encTy_def]
 refine z _ ?_
 clear z Z
 refine AT_ret ?_
 simp [encE_mk, encTy_def, Tryz.f31]
 (· simp [hfin])

theorem c_expr_Right (e : Exp) (hw : wtE e ≤ 400000000) (hres : g 0 = some reservedA) : Valid Tryz.prog (G0 g rnd) 31 [.agg (encE e)] (.bool (rightE e)) := (c_expr_Right_z g e hw hres).gl rfl

end Go.Proofs.YtdifpfehijnmiaaGreatDoor
end

section
/- Contracts: right declarations. -/
set_option linter.all false
set_option maxHeartbeats 1000000
set_option maxRecDepth 10000
namespace Go.Proofs.YtdifpfehijnmiaaGreatDoor
open Go Go.Pv
variable (g : Nat → Option (List AV)) (rnd : Bool)

theorem c_decl_RightDecl (a : Dc) (hw : wtD a ≤ 400000000) (hres : g 0 = some reservedA) : Valid Tryz.prog (G0 g rnd) 9 [.agg (encD a)] (.bool (rightD a)) := by
 have hw2 : a.name.length + 1 + wtFs a.fms + wtFs a.flds + wtGs a.sigs + a.recv.length + wtSs a.vars + wtG a.sig + wtE a.body ≤ 400000000 := hw
 refine valid_of [] Tryz.func9 rfl (by kernel_rfl) ?_
 refine sr fun Z z => ?_
 simp [encD, Tryz.f9]
 refine z _ ?_
 clear z Z
 refine sr fun Z z => ?_
 simp [encD]
 refine z _ ?_
 clear z Z
 refine AT_seq_k fun K1 hK1 => ?_
 cases h1 : isName a.name
 refine sr fun Z z => ?_
 simp [encD, h1]
 refine RVn_call (c_name_Is g rnd a.name (by omega) hres) ?_
 simp [encD, h1]
 refine z _ ?_
 clear z Z
 refine cT (by simp [h1]) ?_
 refine sr fun Z z => ?_
 simp [encD, h1]
 refine z _ ?_
 clear z Z
 refine AT_ret ?_
 simp [encD, Tryz.f9]
 (· simp [rightD, h1])
 rcases dkinds a.kind with hk | hk | hk | ⟨k1, k2, k3⟩
 cases s1 : (sameD a (⟨1, a.name, a.fms, a.flds, [], [], [], ⟨[], [], [], .mk [] [] 0, 0⟩, (.mk 0 [] (.mk [] [] 0) [] [] 0), 0⟩ : Dc))
 refine sr fun Z z => ?_
 simp [encD, h1, hk, s1]
 refine RVn_call (c_name_Is g rnd a.name (by omega) hres) ?_
 simp [encD, h1, hk, s1]
 refine z _ ?_
 clear z Z
 refine cF (by simp [h1, hk, s1]) ?_
 refine AT_skip ?_
 refine hK1 _ ?_
 refine AT_seq_k fun K2 hK2 => ?_
 refine sr fun Z z => ?_
 simp [encD, h1, hk, s1]
 refine z _ ?_
 clear z Z
 refine AT_block ?_
 refine sr fun Z z => ?_
 simp [encD, h1, hk, s1]
 refine z _ ?_
 clear z Z
 refine cT (by simp [h1, hk, s1]) ?_
 refine AT_draw_mq false [(1, 1), (3, 3), (17, 1), (19, 1), (21, 3), (22, 3)] Pt.mixed (by kernel_rfl) ⟨by simp [Im, okP, AS.get, look, TV.strip], fun h => by cases h⟩ fun Z z => ?_
 simp [encD, h1, hk, s1]
 refine z _ ?_
 clear z Z
 refine hK2 _ ?_
 refine sr fun Z z => ?_
 simp [encD, h1, hk, s1]
 refine RVn_call ((by first | exact (by have h := c_decl_SameDecl g rnd a (⟨1, a.name, a.fms, a.flds, [], [], [], ⟨[], [], [], .mk [] [] 0, 0⟩, (.mk 0 [] (.mk [] [] 0) [] [] 0), 0⟩ : Dc) (by omega); simp only [encD, Ty.name, Ty.args, Ty.pos, Exp.kind, Exp.name, Exp.ty, Exp.ta, Exp.kids, Exp.pos, List.map_nil, hk] at h ⊢; exact h) | exact (by have h := c_decl_SameDecl g rnd a (⟨2, a.name, a.fms, [], a.sigs, [], [], ⟨[], [], [], .mk [] [] 0, 0⟩, (.mk 0 [] (.mk [] [] 0) [] [] 0), 0⟩ : Dc) (by omega); simp only [encD, Ty.name, Ty.args, Ty.pos, Exp.kind, Exp.name, Exp.ty, Exp.ta, Exp.kids, Exp.pos, List.map_nil, hk] at h ⊢; exact h))) ?_
 simp [encD, h1, hk, s1]
 repeat refine sg ?_
 refine z _ ?_
 clear z Z
 refine AT_ret ?_
 simp [encD, Tryz.f9]
 (· simp [rightD, dc0, sg0, ex0, ty0, h1, hk, s1])
 cases h2 : (a.fms.all rightF)
 refine sr fun Z z => ?_
 simp [encD, h1, hk, s1, h2]
 refine RVn_call (c_name_Is g rnd a.name (by omega) hres) ?_
 simp [encD, h1, hk, s1, h2]
 refine z _ ?_
 clear z Z
 refine cF (by simp [h1, hk, s1, h2]) ?_
 refine AT_skip ?_
 refine hK1 _ ?_
 refine AT_seq_k fun K3 hK3 => ?_
 refine sr fun Z z => ?_
 simp [encD, h1, hk, s1, h2]
 refine z _ ?_
 clear z Z
 refine AT_block ?_
 refine sr fun Z z => ?_
 simp [encD, h1, hk, s1, h2]
 refine z _ ?_
 clear z Z
 refine cT (by simp [h1, hk, s1, h2]) ?_
 refine AT_draw_mq false [(1, 1), (3, 3), (17, 1), (19, 1), (21, 3), (22, 3)] Pt.mixed (by kernel_rfl) ⟨by simp [Im, okP, AS.get, look, TV.strip], fun h => by cases h⟩ fun Z z => ?_
 simp [encD, h1, hk, s1, h2]
 refine z _ ?_
 clear z Z
 refine hK3 _ ?_
 refine sr fun Z z => ?_
 simp [encD, h1, hk, s1, h2]
 refine RVn_call ((by first | exact (by have h := c_decl_SameDecl g rnd a (⟨1, a.name, a.fms, a.flds, [], [], [], ⟨[], [], [], .mk [] [] 0, 0⟩, (.mk 0 [] (.mk [] [] 0) [] [] 0), 0⟩ : Dc) (by omega); simp only [encD, Ty.name, Ty.args, Ty.pos, Exp.kind, Exp.name, Exp.ty, Exp.ta, Exp.kids, Exp.pos, List.map_nil, hk] at h ⊢; exact h) | exact (by have h := c_decl_SameDecl g rnd a (⟨2, a.name, a.fms, [], a.sigs, [], [], ⟨[], [], [], .mk [] [] 0, 0⟩, (.mk 0 [] (.mk [] [] 0) [] [] 0), 0⟩ : Dc) (by omega); simp only [encD, Ty.name, Ty.args, Ty.pos, Exp.kind, Exp.name, Exp.ty, Exp.ta, Exp.kids, Exp.pos, List.map_nil, hk] at h ⊢; exact h))) ?_
 simp [encD, h1, hk, s1, h2]
 repeat refine sg ?_
 refine RVn_call (c_decl_every_api_Formal g rnd 33 [] rightF a.fms (by have := wtFs_len a.fms; omega) (fun x hx => c_decl_rightFormal g rnd x (by have := wtFs_mem hx; omega) hres)) ?_
 simp [encD, h1, hk, s1, h2]
 repeat refine sg ?_
 refine z _ ?_
 clear z Z
 refine AT_ret ?_
 simp [encD, Tryz.f9]
 (· simp [rightD, dc0, sg0, ex0, ty0, h1, hk, s1, h2])
 cases h3 : (a.flds.all rightF)
 refine sr fun Z z => ?_
 simp [encD, h1, hk, s1, h2, h3]
 refine RVn_call (c_name_Is g rnd a.name (by omega) hres) ?_
 simp [encD, h1, hk, s1, h2, h3]
 refine z _ ?_
 clear z Z
 refine cF (by simp [h1, hk, s1, h2, h3]) ?_
 refine AT_skip ?_
 refine hK1 _ ?_
 refine AT_seq_k fun K4 hK4 => ?_
 refine sr fun Z z => ?_
 simp [encD, h1, hk, s1, h2, h3]
 refine z _ ?_
 clear z Z
 refine AT_block ?_
 refine sr fun Z z => ?_
 simp [encD, h1, hk, s1, h2, h3]
 refine z _ ?_
 clear z Z
 refine cT (by simp [h1, hk, s1, h2, h3]) ?_
 refine AT_draw_mq false [(1, 1), (3, 3), (17, 1), (19, 1), (21, 3), (22, 3)] Pt.mixed (by kernel_rfl) ⟨by simp [Im, okP, AS.get, look, TV.strip], fun h => by cases h⟩ fun Z z => ?_
 simp [encD, h1, hk, s1, h2, h3]
 refine z _ ?_
 clear z Z
 refine hK4 _ ?_
 refine sr fun Z z => ?_
 simp [encD, h1, hk, s1, h2, h3]
 refine RVn_call ((by first | exact (by have h := c_decl_SameDecl g rnd a (⟨1, a.name, a.fms, a.flds, [], [], [], ⟨[], [], [], .mk [] [] 0, 0⟩, (.mk 0 [] (.mk [] [] 0) [] [] 0), 0⟩ : Dc) (by omega); simp only [encD, Ty.name, Ty.args, Ty.pos, Exp.kind, Exp.name, Exp.ty, Exp.ta, Exp.kids, Exp.pos, List.map_nil, hk] at h ⊢; exact h) | exact (by have h := c_decl_SameDecl g rnd a (⟨2, a.name, a.fms, [], a.sigs, [], [], ⟨[], [], [], .mk [] [] 0, 0⟩, (.mk 0 [] (.mk [] [] 0) [] [] 0), 0⟩ : Dc) (by omega); simp only [encD, Ty.name, Ty.args, Ty.pos, Exp.kind, Exp.name, Exp.ty, Exp.ta, Exp.kids, Exp.pos, List.map_nil, hk] at h ⊢; exact h))) ?_
 simp [encD, h1, hk, s1, h2, h3]
 repeat refine sg ?_
 refine RVn_call (c_decl_every_api_Formal g rnd 33 [] rightF a.fms (by have := wtFs_len a.fms; omega) (fun x hx => c_decl_rightFormal g rnd x (by have := wtFs_mem hx; omega) hres)) ?_
 simp [encD, h1, hk, s1, h2, h3]
 repeat refine sg ?_
 refine RVn_call (c_decl_every_api_Param g rnd 35 [] rightF a.flds (by have := wtFs_len a.flds; omega) (fun x hx => c_decl_rightParam g rnd x (by have := wtFs_mem hx; omega) hres)) ?_
 simp [encD, h1, hk, s1, h2, h3]
 repeat refine sg ?_
 refine z _ ?_
 clear z Z
 refine AT_ret ?_
 simp [encD, Tryz.f9]
 (· simp [rightD, dc0, sg0, ex0, ty0, h1, hk, s1, h2, h3])
 refine sr fun Z z => ?_
 simp [encD, h1, hk, s1, h2, h3]
 refine RVn_call (c_name_Is g rnd a.name (by omega) hres) ?_
 simp [encD, h1, hk, s1, h2, h3]
 refine z _ ?_
 clear z Z
 refine cF (by simp [h1, hk, s1, h2, h3]) ?_
 refine AT_skip ?_
 refine hK1 _ ?_
 refine AT_seq_k fun K5 hK5 => ?_
 refine sr fun Z z => ?_
 simp [encD, h1, hk, s1, h2, h3]
 refine z _ ?_
 clear z Z
 refine AT_block ?_
 refine sr fun Z z => ?_
 simp [encD, h1, hk, s1, h2, h3]
 refine z _ ?_
 clear z Z
 refine cT (by simp [h1, hk, s1, h2, h3]) ?_
 refine AT_draw_mq false [(1, 1), (3, 3), (17, 1), (19, 1), (21, 3), (22, 3)] Pt.mixed (by kernel_rfl) ⟨by simp [Im, okP, AS.get, look, TV.strip], fun h => by cases h⟩ fun Z z => ?_
 simp [encD, h1, hk, s1, h2, h3]
 refine z _ ?_
 clear z Z
 refine hK5 _ ?_
 refine sr fun Z z => ?_
 simp [encD, h1, hk, s1, h2, h3]
 refine RVn_call ((by first | exact (by have h := c_decl_SameDecl g rnd a (⟨1, a.name, a.fms, a.flds, [], [], [], ⟨[], [], [], .mk [] [] 0, 0⟩, (.mk 0 [] (.mk [] [] 0) [] [] 0), 0⟩ : Dc) (by omega); simp only [encD, Ty.name, Ty.args, Ty.pos, Exp.kind, Exp.name, Exp.ty, Exp.ta, Exp.kids, Exp.pos, List.map_nil, hk] at h ⊢; exact h) | exact (by have h := c_decl_SameDecl g rnd a (⟨2, a.name, a.fms, [], a.sigs, [], [], ⟨[], [], [], .mk [] [] 0, 0⟩, (.mk 0 [] (.mk [] [] 0) [] [] 0), 0⟩ : Dc) (by omega); simp only [encD, Ty.name, Ty.args, Ty.pos, Exp.kind, Exp.name, Exp.ty, Exp.ta, Exp.kids, Exp.pos, List.map_nil, hk] at h ⊢; exact h))) ?_
 simp [encD, h1, hk, s1, h2, h3]
 repeat refine sg ?_
 refine RVn_call (c_decl_every_api_Formal g rnd 33 [] rightF a.fms (by have := wtFs_len a.fms; omega) (fun x hx => c_decl_rightFormal g rnd x (by have := wtFs_mem hx; omega) hres)) ?_
 simp [encD, h1, hk, s1, h2, h3]
 repeat refine sg ?_
 refine RVn_call (c_decl_every_api_Param g rnd 35 [] rightF a.flds (by have := wtFs_len a.flds; omega) (fun x hx => c_decl_rightParam g rnd x (by have := wtFs_mem hx; omega) hres)) ?_
 simp [encD, h1, hk, s1, h2, h3]
 repeat refine sg ?_
 refine RVn_call (c_decl_every_api_Sig g rnd 30 [] rightG a.sigs (by have := wtGs_len a.sigs; omega) (fun x hx => c_decl_rightSig g rnd x (by have := wtGs_mem hx; omega) hres)) ?_
 simp [encD, h1, hk, s1, h2, h3]
 repeat refine sg ?_
 refine z _ ?_
 clear z Z
 refine AT_ret ?_
 simp [encD, Tryz.f9]
 (· simp [rightD, dc0, sg0, ex0, ty0, h1, hk, s1, h2, h3])
 cases s1 : (sameD a (⟨2, a.name, a.fms, [], a.sigs, [], [], ⟨[], [], [], .mk [] [] 0, 0⟩, (.mk 0 [] (.mk [] [] 0) [] [] 0), 0⟩ : Dc))
 refine sr fun Z z => ?_
 simp [encD, h1, hk, s1]
 refine RVn_call (c_name_Is g rnd a.name (by omega) hres) ?_
 simp [encD, h1, hk, s1]
 refine z _ ?_
 clear z Z
 refine cF (by simp [h1, hk, s1]) ?_
 refine AT_skip ?_
 refine hK1 _ ?_
 refine AT_seq_k fun K6 hK6 => ?_
 refine sr fun Z z => ?_
 simp [encD, h1, hk, s1]
 refine z _ ?_
 clear z Z
 refine AT_block ?_
 refine sr fun Z z => ?_
 simp [encD, h1, hk, s1]
 refine z _ ?_
 clear z Z
 refine cF (by simp [h1, hk, s1]) ?_
 refine sr fun Z z => ?_
 simp [encD, h1, hk, s1]
 refine z _ ?_
 clear z Z
 refine cT (by simp [h1, hk, s1]) ?_
 refine AT_draw_mq false [(1, 1), (3, 3), (25, 1), (27, 1), (29, 3), (30, 3)] Pt.mixed (by kernel_rfl) ⟨by simp [Im, okP, AS.get, look, TV.strip], fun h => by cases h⟩ fun Z z => ?_
 simp [encD, h1, hk, s1]
 refine z _ ?_
 clear z Z
 refine hK6 _ ?_
 refine sr fun Z z => ?_
 simp [encD, h1, hk, s1]
 refine RVn_call ((by first | exact (by have h := c_decl_SameDecl g rnd a (⟨1, a.name, a.fms, a.flds, [], [], [], ⟨[], [], [], .mk [] [] 0, 0⟩, (.mk 0 [] (.mk [] [] 0) [] [] 0), 0⟩ : Dc) (by omega); simp only [encD, Ty.name, Ty.args, Ty.pos, Exp.kind, Exp.name, Exp.ty, Exp.ta, Exp.kids, Exp.pos, List.map_nil, hk] at h ⊢; exact h) | exact (by have h := c_decl_SameDecl g rnd a (⟨2, a.name, a.fms, [], a.sigs, [], [], ⟨[], [], [], .mk [] [] 0, 0⟩, (.mk 0 [] (.mk [] [] 0) [] [] 0), 0⟩ : Dc) (by omega); simp only [encD, Ty.name, Ty.args, Ty.pos, Exp.kind, Exp.name, Exp.ty, Exp.ta, Exp.kids, Exp.pos, List.map_nil, hk] at h ⊢; exact h))) ?_
 simp [encD, h1, hk, s1]
 repeat refine sg ?_
 refine z _ ?_
 clear z Z
 refine AT_ret ?_
 simp [encD, Tryz.f9]
 (· simp [rightD, dc0, sg0, ex0, ty0, h1, hk, s1])
 cases h2 : (a.fms.all rightF)
 refine sr fun Z z => ?_
 simp [encD, h1, hk, s1, h2]
 refine RVn_call (c_name_Is g rnd a.name (by omega) hres) ?_
 simp [encD, h1, hk, s1, h2]
 refine z _ ?_
 clear z Z
 refine cF (by simp [h1, hk, s1, h2]) ?_
 refine AT_skip ?_
 refine hK1 _ ?_
 refine AT_seq_k fun K7 hK7 => ?_
 refine sr fun Z z => ?_
 simp [encD, h1, hk, s1, h2]
 refine z _ ?_
 clear z Z
 refine AT_block ?_
 refine sr fun Z z => ?_
 simp [encD, h1, hk, s1, h2]
 refine z _ ?_
 clear z Z
 refine cF (by simp [h1, hk, s1, h2]) ?_
 refine sr fun Z z => ?_
 simp [encD, h1, hk, s1, h2]
 refine z _ ?_
 clear z Z
 refine cT (by simp [h1, hk, s1, h2]) ?_
 refine AT_draw_mq false [(1, 1), (3, 3), (25, 1), (27, 1), (29, 3), (30, 3)] Pt.mixed (by kernel_rfl) ⟨by simp [Im, okP, AS.get, look, TV.strip], fun h => by cases h⟩ fun Z z => ?_
 simp [encD, h1, hk, s1, h2]
 refine z _ ?_
 clear z Z
 refine hK7 _ ?_
 refine sr fun Z z => ?_
 simp [encD, h1, hk, s1, h2]
 refine RVn_call ((by first | exact (by have h := c_decl_SameDecl g rnd a (⟨1, a.name, a.fms, a.flds, [], [], [], ⟨[], [], [], .mk [] [] 0, 0⟩, (.mk 0 [] (.mk [] [] 0) [] [] 0), 0⟩ : Dc) (by omega); simp only [encD, Ty.name, Ty.args, Ty.pos, Exp.kind, Exp.name, Exp.ty, Exp.ta, Exp.kids, Exp.pos, List.map_nil, hk] at h ⊢; exact h) | exact (by have h := c_decl_SameDecl g rnd a (⟨2, a.name, a.fms, [], a.sigs, [], [], ⟨[], [], [], .mk [] [] 0, 0⟩, (.mk 0 [] (.mk [] [] 0) [] [] 0), 0⟩ : Dc) (by omega); simp only [encD, Ty.name, Ty.args, Ty.pos, Exp.kind, Exp.name, Exp.ty, Exp.ta, Exp.kids, Exp.pos, List.map_nil, hk] at h ⊢; exact h))) ?_
 simp [encD, h1, hk, s1, h2]
 repeat refine sg ?_
 refine RVn_call (c_decl_every_api_Formal g rnd 33 [] rightF a.fms (by have := wtFs_len a.fms; omega) (fun x hx => c_decl_rightFormal g rnd x (by have := wtFs_mem hx; omega) hres)) ?_
 simp [encD, h1, hk, s1, h2]
 repeat refine sg ?_
 refine z _ ?_
 clear z Z
 refine AT_ret ?_
 simp [encD, Tryz.f9]
 (· simp [rightD, dc0, sg0, ex0, ty0, h1, hk, s1, h2])
 cases h3 : (a.flds.all rightF)
 refine sr fun Z z => ?_
 simp [encD, h1, hk, s1, h2, h3]
 refine RVn_call (c_name_Is g rnd a.name (by omega) hres) ?_
 simp [encD, h1, hk, s1, h2, h3]
 refine z _ ?_
 clear z Z
 refine cF (by simp [h1, hk, s1, h2, h3]) ?_
 refine AT_skip ?_
 refine hK1 _ ?_
 refine AT_seq_k fun K8 hK8 => ?_
 refine sr fun Z z => ?_
 simp [encD, h1, hk, s1, h2, h3]
 refine z _ ?_
 clear z Z
 refine AT_block ?_
 refine sr fun Z z => ?_
 simp [encD, h1, hk, s1, h2, h3]
 refine z _ ?_
 clear z Z
 refine cF (by simp [h1, hk, s1, h2, h3]) ?_
 refine sr fun Z z => ?_
 simp [encD, h1, hk, s1, h2, h3]
 refine z _ ?_
 clear z Z
 refine cT (by simp [h1, hk, s1, h2, h3]) ?_
 refine AT_draw_mq false [(1, 1), (3, 3), (25, 1), (27, 1), (29, 3), (30, 3)] Pt.mixed (by kernel_rfl) ⟨by simp [Im, okP, AS.get, look, TV.strip], fun h => by cases h⟩ fun Z z => ?_
 simp [encD, h1, hk, s1, h2, h3]
 refine z _ ?_
 clear z Z
 refine hK8 _ ?_
 refine sr fun Z z => ?_
 simp [encD, h1, hk, s1, h2, h3]
 refine RVn_call ((by first | exact (by have h := c_decl_SameDecl g rnd a (⟨1, a.name, a.fms, a.flds, [], [], [], ⟨[], [], [], .mk [] [] 0, 0⟩, (.mk 0 [] (.mk [] [] 0) [] [] 0), 0⟩ : Dc) (by omega); simp only [encD, Ty.name, Ty.args, Ty.pos, Exp.kind, Exp.name, Exp.ty, Exp.ta, Exp.kids, Exp.pos, List.map_nil, hk] at h ⊢; exact h) | exact (by have h := c_decl_SameDecl g rnd a (⟨2, a.name, a.fms, [], a.sigs, [], [], ⟨[], [], [], .mk [] [] 0, 0⟩, (.mk 0 [] (.mk [] [] 0) [] [] 0), 0⟩ : Dc) (by omega); simp only [encD, Ty.name, Ty.args, Ty.pos, Exp.kind, Exp.name, Exp.ty, Exp.ta, Exp.kids, Exp.pos, List.map_nil, hk] at h ⊢; exact h))) ?_
 simp [encD, h1, hk, s1, h2, h3]
 repeat refine sg ?_
 refine RVn_call (c_decl_every_api_Formal g rnd 33 [] rightF a.fms (by have := wtFs_len a.fms; omega) (fun x hx => c_decl_rightFormal g rnd x (by have := wtFs_mem hx; omega) hres)) ?_
 simp [encD, h1, hk, s1, h2, h3]
 repeat refine sg ?_
 refine RVn_call (c_decl_every_api_Param g rnd 35 [] rightF a.flds (by have := wtFs_len a.flds; omega) (fun x hx => c_decl_rightParam g rnd x (by have := wtFs_mem hx; omega) hres)) ?_
 simp [encD, h1, hk, s1, h2, h3]
 repeat refine sg ?_
 refine z _ ?_
 clear z Z
 refine AT_ret ?_
 simp [encD, Tryz.f9]
 (· simp [rightD, dc0, sg0, ex0, ty0, h1, hk, s1, h2, h3])
 refine sr fun Z z => ?_
 simp [encD, h1, hk, s1, h2, h3]
 refine RVn_call (c_name_Is g rnd a.name (by omega) hres) ?_
 simp [encD, h1, hk, s1, h2, h3]
 refine z _ ?_
 clear z Z
 refine cF (by simp [h1, hk, s1, h2, h3]) ?_
 refine AT_skip ?_
 refine hK1 _ ?_
 refine AT_seq_k fun K9 hK9 => ?_
 refine sr fun Z z => ?_
 simp [encD, h1, hk, s1, h2, h3]
 refine z _ ?_
 clear z Z
 refine AT_block ?_
 refine sr fun Z z => ?_
 simp [encD, h1, hk, s1, h2, h3]
 refine z _ ?_
 clear z Z
 refine cF (by simp [h1, hk, s1, h2, h3]) ?_
 refine sr fun Z z => ?_
 simp [encD, h1, hk, s1, h2, h3]
 refine z _ ?_
 clear z Z
 refine cT (by simp [h1, hk, s1, h2, h3]) ?_
 refine AT_draw_mq false [(1, 1), (3, 3), (25, 1), (27, 1), (29, 3), (30, 3)] Pt.mixed (by kernel_rfl) ⟨by simp [Im, okP, AS.get, look, TV.strip], fun h => by cases h⟩ fun Z z => ?_
 simp [encD, h1, hk, s1, h2, h3]
 refine z _ ?_
 clear z Z
 refine hK9 _ ?_
 refine sr fun Z z => ?_
 simp [encD, h1, hk, s1, h2, h3]
 refine RVn_call ((by first | exact (by have h := c_decl_SameDecl g rnd a (⟨1, a.name, a.fms, a.flds, [], [], [], ⟨[], [], [], .mk [] [] 0, 0⟩, (.mk 0 [] (.mk [] [] 0) [] [] 0), 0⟩ : Dc) (by omega); simp only [encD, Ty.name, Ty.args, Ty.pos, Exp.kind, Exp.name, Exp.ty, Exp.ta, Exp.kids, Exp.pos, List.map_nil, hk] at h ⊢; exact h) | exact (by have h := c_decl_SameDecl g rnd a (⟨2, a.name, a.fms, [], a.sigs, [], [], ⟨[], [], [], .mk [] [] 0, 0⟩, (.mk 0 [] (.mk [] [] 0) [] [] 0), 0⟩ : Dc) (by omega); simp only [encD, Ty.name, Ty.args, Ty.pos, Exp.kind, Exp.name, Exp.ty, Exp.ta, Exp.kids, Exp.pos, List.map_nil, hk] at h ⊢; exact h))) ?_
 simp [encD, h1, hk, s1, h2, h3]
 repeat refine sg ?_
 refine RVn_call (c_decl_every_api_Formal g rnd 33 [] rightF a.fms (by have := wtFs_len a.fms; omega) (fun x hx => c_decl_rightFormal g rnd x (by have := wtFs_mem hx; omega) hres)) ?_
 simp [encD, h1, hk, s1, h2, h3]
 repeat refine sg ?_
 refine RVn_call (c_decl_every_api_Param g rnd 35 [] rightF a.flds (by have := wtFs_len a.flds; omega) (fun x hx => c_decl_rightParam g rnd x (by have := wtFs_mem hx; omega) hres)) ?_
 simp [encD, h1, hk, s1, h2, h3]
 repeat refine sg ?_
 refine RVn_call (c_decl_every_api_Sig g rnd 30 [] rightG a.sigs (by have := wtGs_len a.sigs; omega) (fun x hx => c_decl_rightSig g rnd x (by have := wtGs_mem hx; omega) hres)) ?_
 simp [encD, h1, hk, s1, h2, h3]
 repeat refine sg ?_
 refine z _ ?_
 clear z Z
 refine AT_ret ?_
 simp [encD, Tryz.f9]
 (· simp [rightD, dc0, sg0, ex0, ty0, h1, hk, s1, h2, h3])
 cases s1 : (sameD a (⟨3, a.name, [], [], [], a.recv, a.vars, a.sig, a.body, 0⟩ : Dc))
 refine sr fun Z z => ?_
 simp [encD, h1, hk, s1]
 refine RVn_call (c_name_Is g rnd a.name (by omega) hres) ?_
 simp [encD, h1, hk, s1]
 refine z _ ?_
 clear z Z
 refine cF (by simp [h1, hk, s1]) ?_
 refine AT_skip ?_
 refine hK1 _ ?_
 refine AT_seq_k fun K10 hK10 => ?_
 refine sr fun Z z => ?_
 simp [encD, h1, hk, s1]
 refine z _ ?_
 clear z Z
 refine AT_block ?_
 refine sr fun Z z => ?_
 simp [encD, h1, hk, s1]
 refine z _ ?_
 clear z Z
 refine cF (by simp [h1, hk, s1]) ?_
 refine sr fun Z z => ?_
 simp [encD, h1, hk, s1]
 refine z _ ?_
 clear z Z
 refine cF (by simp [h1, hk, s1]) ?_
 refine sr fun Z z => ?_
 simp [encD, h1, hk, s1]
 refine z _ ?_
 clear z Z
 refine cT (by simp [h1, hk, s1]) ?_
 refine AT_seq_draw_m false [(1, 1), (3, 3), (33, 1), (35, 1), (37, 1), (39, 1), (41, 3), (42, 3), (43, 3), (44, 3)] Pt.mixed (by kernel_rfl) ⟨by simp [Im, okP, AS.get, look, TV.strip], fun h => by cases h⟩ fun Z z => ?_
 simp [encD, h1, hk, s1]
 refine z _ ?_
 clear z Z
 refine sr fun Z z => ?_
 simp [encD, h1, hk, s1]
 refine RVn_call ((by have h := c_decl_SameDecl g rnd a (⟨3, a.name, [], [], [], a.recv, a.vars, a.sig, a.body, 0⟩ : Dc) (by omega); simp only [encD, Ty.name, Ty.args, Ty.pos, Exp.kind, Exp.name, Exp.ty, Exp.ta, Exp.kids, Exp.pos, List.map_nil, hk] at h ⊢; exact h)) ?_
 simp [encD, h1, hk, s1]
 repeat refine sg ?_
 refine z _ ?_
 clear z Z
 refine AT_ret ?_
 simp [encD, Tryz.f9]
 (· simp [rightD, dc0, sg0, ex0, ty0, h1, hk, s1])
 cases h2 : (isName a.recv)
 refine sr fun Z z => ?_
 simp [encD, h1, hk, s1, h2]
 refine RVn_call (c_name_Is g rnd a.name (by omega) hres) ?_
 simp [encD, h1, hk, s1, h2]
 refine z _ ?_
 clear z Z
 refine cF (by simp [h1, hk, s1, h2]) ?_
 refine AT_skip ?_
 refine hK1 _ ?_
 refine AT_seq_k fun K11 hK11 => ?_
 refine sr fun Z z => ?_
 simp [encD, h1, hk, s1, h2]
 refine z _ ?_
 clear z Z
 refine AT_block ?_
 refine sr fun Z z => ?_
 simp [encD, h1, hk, s1, h2]
 refine z _ ?_
 clear z Z
 refine cF (by simp [h1, hk, s1, h2]) ?_
 refine sr fun Z z => ?_
 simp [encD, h1, hk, s1, h2]
 refine z _ ?_
 clear z Z
 refine cF (by simp [h1, hk, s1, h2]) ?_
 refine sr fun Z z => ?_
 simp [encD, h1, hk, s1, h2]
 refine z _ ?_
 clear z Z
 refine cT (by simp [h1, hk, s1, h2]) ?_
 refine AT_seq_draw_m false [(1, 1), (3, 3), (33, 1), (35, 1), (37, 1), (39, 1), (41, 3), (42, 3), (43, 3), (44, 3)] Pt.mixed (by kernel_rfl) ⟨by simp [Im, okP, AS.get, look, TV.strip], fun h => by cases h⟩ fun Z z => ?_
 simp [encD, h1, hk, s1, h2]
 refine z _ ?_
 clear z Z
 refine sr fun Z z => ?_
 simp [encD, h1, hk, s1, h2]
 refine RVn_call ((by have h := c_decl_SameDecl g rnd a (⟨3, a.name, [], [], [], a.recv, a.vars, a.sig, a.body, 0⟩ : Dc) (by omega); simp only [encD, Ty.name, Ty.args, Ty.pos, Exp.kind, Exp.name, Exp.ty, Exp.ta, Exp.kids, Exp.pos, List.map_nil, hk] at h ⊢; exact h)) ?_
 simp [encD, h1, hk, s1, h2]
 repeat refine sg ?_
 refine RVn_call (c_name_Is g rnd a.recv (by omega) hres) ?_
 simp [encD, h1, hk, s1, h2]
 repeat refine sg ?_
 refine z _ ?_
 clear z Z
 refine AT_ret ?_
 simp [encD, Tryz.f9]
 (· simp [rightD, dc0, sg0, ex0, ty0, h1, hk, s1, h2])
 cases h3 : (a.vars.all isName)
 refine sr fun Z z => ?_
 simp [encD, h1, hk, s1, h2, h3]
 refine RVn_call (c_name_Is g rnd a.name (by omega) hres) ?_
 simp [encD, h1, hk, s1, h2, h3]
 refine z _ ?_
 clear z Z
 refine cF (by simp [h1, hk, s1, h2, h3]) ?_
 refine AT_skip ?_
 refine hK1 _ ?_
 refine AT_seq_k fun K12 hK12 => ?_
 refine sr fun Z z => ?_
 simp [encD, h1, hk, s1, h2, h3]
 refine z _ ?_
 clear z Z
 refine AT_block ?_
 refine sr fun Z z => ?_
 simp [encD, h1, hk, s1, h2, h3]
 refine z _ ?_
 clear z Z
 refine cF (by simp [h1, hk, s1, h2, h3]) ?_
 refine sr fun Z z => ?_
 simp [encD, h1, hk, s1, h2, h3]
 refine z _ ?_
 clear z Z
 refine cF (by simp [h1, hk, s1, h2, h3]) ?_
 refine sr fun Z z => ?_
 simp [encD, h1, hk, s1, h2, h3]
 refine z _ ?_
 clear z Z
 refine cT (by simp [h1, hk, s1, h2, h3]) ?_
 refine AT_seq_draw_m false [(1, 1), (3, 3), (33, 1), (35, 1), (37, 1), (39, 1), (41, 3), (42, 3), (43, 3), (44, 3)] Pt.mixed (by kernel_rfl) ⟨by simp [Im, okP, AS.get, look, TV.strip], fun h => by cases h⟩ fun Z z => ?_
 simp [encD, h1, hk, s1, h2, h3]
 refine z _ ?_
 clear z Z
 refine sr fun Z z => ?_
 simp [encD, h1, hk, s1, h2, h3]
 refine RVn_call ((by have h := c_decl_SameDecl g rnd a (⟨3, a.name, [], [], [], a.recv, a.vars, a.sig, a.body, 0⟩ : Dc) (by omega); simp only [encD, Ty.name, Ty.args, Ty.pos, Exp.kind, Exp.name, Exp.ty, Exp.ta, Exp.kids, Exp.pos, List.map_nil, hk] at h ⊢; exact h)) ?_
 simp [encD, h1, hk, s1, h2, h3]
 repeat refine sg ?_
 refine RVn_call (c_name_Is g rnd a.recv (by omega) hres) ?_
 simp [encD, h1, hk, s1, h2, h3]
 repeat refine sg ?_
 refine RVn_call (c_decl_every_string g rnd 28 [] isName a.vars (by have := wtSs_len a.vars; omega) (fun x hx => c_name_Is g rnd x (by have := wtSs_mem hx; omega) hres)) ?_
 simp [encD, h1, hk, s1, h2, h3]
 repeat refine sg ?_
 refine z _ ?_
 clear z Z
 refine AT_ret ?_
 simp [encD, Tryz.f9]
 (· simp [rightD, dc0, sg0, ex0, ty0, h1, hk, s1, h2, h3])
 cases h4 : (rightG a.sig)
 refine sr fun Z z => ?_
 simp [encD, h1, hk, s1, h2, h3, h4]
 refine RVn_call (c_name_Is g rnd a.name (by omega) hres) ?_
 simp [encD, h1, hk, s1, h2, h3, h4]
 refine z _ ?_
 clear z Z
 refine cF (by simp [h1, hk, s1, h2, h3, h4]) ?_
 refine AT_skip ?_
 refine hK1 _ ?_
 refine AT_seq_k fun K13 hK13 => ?_
 refine sr fun Z z => ?_
 simp [encD, h1, hk, s1, h2, h3, h4]
 refine z _ ?_
 clear z Z
 refine AT_block ?_
 refine sr fun Z z => ?_
 simp [encD, h1, hk, s1, h2, h3, h4]
 refine z _ ?_
 clear z Z
 refine cF (by simp [h1, hk, s1, h2, h3, h4]) ?_
 refine sr fun Z z => ?_
 simp [encD, h1, hk, s1, h2, h3, h4]
 refine z _ ?_
 clear z Z
 refine cF (by simp [h1, hk, s1, h2, h3, h4]) ?_
 refine sr fun Z z => ?_
 simp [encD, h1, hk, s1, h2, h3, h4]
 refine z _ ?_
 clear z Z
 refine cT (by simp [h1, hk, s1, h2, h3, h4]) ?_
 refine AT_seq_draw_m false [(1, 1), (3, 3), (33, 1), (35, 1), (37, 1), (39, 1), (41, 3), (42, 3), (43, 3), (44, 3)] Pt.mixed (by kernel_rfl) ⟨by simp [Im, okP, AS.get, look, TV.strip], fun h => by cases h⟩ fun Z z => ?_
 simp [encD, h1, hk, s1, h2, h3, h4]
 refine z _ ?_
 clear z Z
 refine sr fun Z z => ?_
 simp [encD, h1, hk, s1, h2, h3, h4]
 refine RVn_call ((by have h := c_decl_SameDecl g rnd a (⟨3, a.name, [], [], [], a.recv, a.vars, a.sig, a.body, 0⟩ : Dc) (by omega); simp only [encD, Ty.name, Ty.args, Ty.pos, Exp.kind, Exp.name, Exp.ty, Exp.ta, Exp.kids, Exp.pos, List.map_nil, hk] at h ⊢; exact h)) ?_
 simp [encD, h1, hk, s1, h2, h3, h4]
 repeat refine sg ?_
 refine RVn_call (c_name_Is g rnd a.recv (by omega) hres) ?_
 simp [encD, h1, hk, s1, h2, h3, h4]
 repeat refine sg ?_
 refine RVn_call (c_decl_every_string g rnd 28 [] isName a.vars (by have := wtSs_len a.vars; omega) (fun x hx => c_name_Is g rnd x (by have := wtSs_mem hx; omega) hres)) ?_
 simp [encD, h1, hk, s1, h2, h3, h4]
 repeat refine sg ?_
 refine RVn_call (c_decl_rightSig g rnd a.sig (by omega) hres) ?_
 simp [encD, h1, hk, s1, h2, h3, h4]
 repeat refine sg ?_
 refine z _ ?_
 clear z Z
 refine AT_ret ?_
 simp [encD, Tryz.f9]
 (· simp [rightD, dc0, sg0, ex0, ty0, h1, hk, s1, h2, h3, h4])
 refine sr fun Z z => ?_
 simp [encD, h1, hk, s1, h2, h3, h4]
 refine RVn_call (c_name_Is g rnd a.name (by omega) hres) ?_
 simp [encD, h1, hk, s1, h2, h3, h4]
 refine z _ ?_
 clear z Z
 refine cF (by simp [h1, hk, s1, h2, h3, h4]) ?_
 refine AT_skip ?_
 refine hK1 _ ?_
 refine AT_seq_k fun K14 hK14 => ?_
 refine sr fun Z z => ?_
 simp [encD, h1, hk, s1, h2, h3, h4]
 refine z _ ?_
 clear z Z
 refine AT_block ?_
 refine sr fun Z z => ?_
 simp [encD, h1, hk, s1, h2, h3, h4]
 refine z _ ?_
 clear z Z
 refine cF (by simp [h1, hk, s1, h2, h3, h4]) ?_
 refine sr fun Z z => ?_
 simp [encD, h1, hk, s1, h2, h3, h4]
 refine z _ ?_
 clear z Z
 refine cF (by simp [h1, hk, s1, h2, h3, h4]) ?_
 refine sr fun Z z => ?_
 simp [encD, h1, hk, s1, h2, h3, h4]
 refine z _ ?_
 clear z Z
 refine cT (by simp [h1, hk, s1, h2, h3, h4]) ?_
 refine AT_seq_draw_m false [(1, 1), (3, 3), (33, 1), (35, 1), (37, 1), (39, 1), (41, 3), (42, 3), (43, 3), (44, 3)] Pt.mixed (by kernel_rfl) ⟨by simp [Im, okP, AS.get, look, TV.strip], fun h => by cases h⟩ fun Z z => ?_
 simp [encD, h1, hk, s1, h2, h3, h4]
 refine z _ ?_
 clear z Z
 refine sr fun Z z => ?_
 simp [encD, h1, hk, s1, h2, h3, h4]
 refine RVn_call ((by have h := c_decl_SameDecl g rnd a (⟨3, a.name, [], [], [], a.recv, a.vars, a.sig, a.body, 0⟩ : Dc) (by omega); simp only [encD, Ty.name, Ty.args, Ty.pos, Exp.kind, Exp.name, Exp.ty, Exp.ta, Exp.kids, Exp.pos, List.map_nil, hk] at h ⊢; exact h)) ?_
 simp [encD, h1, hk, s1, h2, h3, h4]
 repeat refine sg ?_
 refine RVn_call (c_name_Is g rnd a.recv (by omega) hres) ?_
 simp [encD, h1, hk, s1, h2, h3, h4]
 repeat refine sg ?_
 refine RVn_call (c_decl_every_string g rnd 28 [] isName a.vars (by have := wtSs_len a.vars; omega) (fun x hx => c_name_Is g rnd x (by have := wtSs_mem hx; omega) hres)) ?_
 simp [encD, h1, hk, s1, h2, h3, h4]
 repeat refine sg ?_
 refine RVn_call (c_decl_rightSig g rnd a.sig (by omega) hres) ?_
 simp [encD, h1, hk, s1, h2, h3, h4]
 repeat refine sg ?_
 refine RVn_call ((by have h := c_expr_Right g rnd a.body (by omega) hres; simp only [encE_def] at h; exact h)) ?_
 simp [encD, h1, hk, s1, h2, h3, h4]
 repeat refine sg ?_
 refine z _ ?_
 clear z Z
 refine AT_ret ?_
 simp [encD, Tryz.f9]
 (· simp [rightD, dc0, sg0, ex0, ty0, h1, hk, s1, h2, h3, h4])
 refine sr fun Z z => ?_
 simp [encD, h1, k1, k2, k3]
 refine RVn_call (c_name_Is g rnd a.name (by omega) hres) ?_
 simp [encD, h1, k1, k2, k3]
 refine z _ ?_
 clear z Z
 refine cF (by simp [h1, k1, k2, k3]) ?_
 refine AT_skip ?_
 refine hK1 _ ?_
 refine AT_seq_k fun K15 hK15 => ?_
 refine sr fun Z z => ?_
 simp [encD, h1, k1, k2, k3]
 refine z _ ?_
 clear z Z
 refine AT_block ?_
 refine sr fun Z z => ?_
 simp [encD, h1, k1, k2, k3]
 refine z _ ?_
 clear z Z
 refine cF (by simp [h1, k1, k2, k3]) ?_
 refine sr fun Z z => ?_
 simp [encD, h1, k1, k2, k3]
 refine z _ ?_
 clear z Z
 refine cF (by simp [h1, k1, k2, k3]) ?_
 refine sr fun Z z => ?_
 simp [encD, h1, k1, k2, k3]
 refine z _ ?_
 clear z Z
 refine cF (by simp [h1, k1, k2, k3]) ?_
 refine sr fun Z z => ?_
 simp [encD, h1, k1, k2, k3]
 refine z _ ?_
 clear z Z
 refine AT_ret ?_
 simp [encD, Tryz.f9]
 (· simp [rightD, h1, k1, k2, k3])

theorem c_decl_Right (a : Pg) (hw : wtPg a ≤ 400000000) (hres : g 0 = some reservedA) : Valid Tryz.prog (G0 g rnd) 25 [.agg (encPg a)] (.bool (rightPg a)) := by
 have hw2 : wtDs a.decls + wtE a.main ≤ 400000000 := hw
 refine valid_of [] Tryz.func25 rfl (by kernel_rfl) ?_
 refine sr fun Z z => ?_
 simp [encPg, Tryz.f25]
 refine z _ ?_
 clear z Z
 cases h1 : (a.decls.all rightD)
 refine sr fun Z z => ?_
 simp [encPg, h1]
 refine RVn_call (c_decl_every_api_Decl g rnd 9 [] rightD a.decls (by have := wtDs_len a.decls; omega) (fun x hx => c_decl_RightDecl g rnd x (by have := wtDs_mem hx; omega) hres)) ?_
 simp [encPg, h1]
 repeat refine sg ?_
 refine z _ ?_
 clear z Z
 refine AT_ret ?_
 simp [encPg, Tryz.f25]
 simp [rightPg, h1]
 refine sr fun Z z => ?_
 simp [encPg, h1]
 refine RVn_call (c_decl_every_api_Decl g rnd 9 [] rightD a.decls (by have := wtDs_len a.decls; omega) (fun x hx => c_decl_RightDecl g rnd x (by have := wtDs_mem hx; omega) hres)) ?_
 simp [encPg, h1]
 repeat refine sg ?_
 refine RVn_call ((by have h := c_expr_Right g rnd a.main (by omega) hres; simp only [encE_def] at h; exact h)) ?_
 simp [encPg, h1]
 repeat refine sg ?_
 refine z _ ?_
 clear z Z
 refine AT_ret ?_
 simp [encPg, Tryz.f25]
 simp [rightPg, h1]

end Go.Proofs.YtdifpfehijnmiaaGreatDoor
end

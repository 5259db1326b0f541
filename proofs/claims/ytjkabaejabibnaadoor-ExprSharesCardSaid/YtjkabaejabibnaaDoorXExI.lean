import Derived.Test.YtjkabaejabibnaaDoorPt
import Derived.Test.YtjkabaejabibnaaDoorPvPb
import Derived.Test.YtjkabaejabibnaaDoorPvY
import Derived.Test.YtjkabaejabibnaaDoorXExE
import Derived.Test.YtjkabaejabibnaaDoorXTyF
import Derived.Test.YtjkabaejabibnaaDoorXRpA
import Derived.Test.YtjkabaejabibnaaDoorXExZ
import Derived.Test.YtjkabaejabibnaaDoorXNaB
section
/- Contracts. -/
set_option linter.all false
set_option maxHeartbeats 1000000
set_option maxRecDepth 10000
namespace Go.Proofs.YtjkabaejabibnaaDoor
open Go Go.Pv
variable (g : Nat → Option (List AV)) (rnd : Bool)

theorem c_types_Right_z (t : Ty) (hw : wt t ≤ 1099511627776) (hres : g 0 = some reservedA) : Valid Tryd.prog (G0 g false) 61 [.agg (encTy t)] (.bool (rightT t)) := by

 refine valid_of [] Tryd.func61 rfl (by kernel_rfl) ?_
 refine sr fun Z z => ?_
 simp [Tryd.f61]
 refine z _ ?_
 clear z Z
 refine AT_seq_k fun K1 hK1 => ?_
 refine sr fun Z z => ?_
 simp
 refine RVn_call (c_types_Names g false t) ?_
 simp
 refine z _ ?_
 clear z Z
 refine AT_block ?_
 refine AT_keep [2,5] [2] (by first | rfl | simp) ?_
 refine AT_rangeFunc rfl rfl (by first | rfl | simp) (by first | decide | simp) [2] (by decide) (elP ((lst t).map AV.str)) (goN) (feedG goN [] ((lst t).map AV.str)) (fun Y hP hgo hel => ⟨_, by have h := c_types_Names_1 g Y hP t hw [] (elOk_P hel _ _ (by simp)); rw [feed_G, hgo] at h; exact h⟩) (fun s => { n := 10, tm := [(2, .lp 2 0), (5, .v (.func 90 [.ro (encTy t)]) none)], bx := [(2, [.bool false])], tb := [], sh := [], hint := [] }) (by first | rfl | simp) ?_ ?_
 intro s x hel
 obtain ⟨n, rfl, hn⟩ := elP_str hel
 refine AT_region_q fun Z z => ?_
 simp
 refine z _ ?_
 clear z Z
 refine AT_block ?_
 refine sr fun Z z => ?_
 simp
 refine RVn_call (c_name_Is g true n (rightT_len hw n hn) hres) ?_
 simp
 refine z _ ?_
 clear z Z
 refine AT_cond (g := none) rfl (fun hb9 => ?_) (fun hb9 => ?_)
 simp at hb9
 refine sr fun Z z => ?_
 simp [hb9]
 refine z _ ?_
 clear z Z
 refine AT_ret ?_
 refine ⟨by simpa [goN] using hb9, by first | rfl | simp [tmOk], [2], by first | rfl | simp, ?_⟩
 refine AT_ret ?_
 simp [Tryd.f61]
 (· have hz : rightT t = false := by rw [rightT, List.all_eq_false]; exact ⟨n, hn, by simp [hb9]⟩
    simp [hz, AS.out])
 simp at hb9
 refine AT_skip ?_
 refine ⟨by simpa [goN] using hb9, by first | rfl | simp [tmOk], [2], by first | rfl | simp, ?_⟩
 simp [AS.out]
 intro hfin
 rw [feedG_goN] at hfin
 refine hK1 _ ?_
 refine sr fun Z z => ?_
 simp
 refine z _ ?_
 clear z Z
 refine AT_ret ?_
 simp [Tryd.f61]
 (· simp [rightT, hfin])

theorem c_types_Right (t : Ty) (hw : wt t ≤ 1099511627776) (hres : g 0 = some reservedA) : Valid Tryd.prog (G0 g rnd) 61 [.agg (encTy t)] (.bool (rightT t)) := (c_types_Right_z g t hw hres).gl rfl

end Go.Proofs.YtjkabaejabibnaaDoor
end

section
/- Contracts: the shape of an expression. -/
set_option linter.all false
set_option maxHeartbeats 1000000
set_option maxRecDepth 10000
namespace Go.Proofs.YtjkabaejabibnaaDoor
open Go Go.Pv
variable (g : Nat → Option (List AV)) (rnd : Bool)

theorem c_expr_shape_1 (t : Ty) (hw : wt t ≤ 1000000000) (hres : g 0 = some reservedA) : Valid Tryd.prog (G0 g rnd) 60 [.agg (encTy t)] (.bool (!rightT t)) := by

 refine valid_of [] Tryd.func60 rfl (by kernel_rfl) ?_
 refine sr fun Z z => ?_
 simp [Tryd.f60]
 refine z _ ?_
 clear z Z
 refine sr fun Z z => ?_
 simp
 refine RVn_call (c_types_Right g rnd t (by omega) hres) ?_
 simp
 refine z _ ?_
 clear z Z
 refine AT_ret ?_
 simp [Tryd.f60]

theorem c_expr_shape (e : Exp) (hw : wtE e ≤ 1000000000) (hres : g 0 = some reservedA) : Valid Tryd.prog (G0 g rnd) 32 [.agg (encE e)] (.bool (shapeE e)) := by
 obtain ⟨kd, n, t, ta, l, p⟩ := e
 obtain ⟨tn, tas, tp⟩ := t
 have hw2 : n.length + 1 + wt (.mk tn tas tp) + wts ta + wtEs l ≤ 1000000000 := by simpa [wtE_mk] using hw
 have hln := wtEs_len l
 have hla := wts_len ta
 obtain ⟨s1, hs1⟩ : ∃ s1, s1 = (tn.isEmpty && tas.isEmpty && ta.isEmpty) := ⟨_, rfl⟩
 obtain ⟨s2, hs2⟩ : ∃ s2, s2 = (tn.isEmpty && tas.isEmpty) := ⟨_, rfl⟩
 obtain ⟨s3, hs3⟩ : ∃ s3, s3 = (n.isEmpty && ta.isEmpty) := ⟨_, rfl⟩
 refine valid_of [] Tryd.func32 rfl (by kernel_rfl) ?_
 refine sr fun Z z => ?_
 simp [row_map, Tryd.f32]
 refine z _ ?_
 clear z Z
 rcases kd_cases kd with hk | hk | hk | hk | hk | ⟨e1, e2, e3, e4, e5⟩
 ·
  have e1 : (kd == 1) = true := by rw [hk]; rfl
  have e2 : (kd == 2) = false := by rw [hk]; rfl
  have e3 : (kd == 3) = false := by rw [hk]; rfl
  have e4 : (kd == 4) = false := by rw [hk]; rfl
  have e5 : (kd == 5) = false := by rw [hk]; rfl
  cases hin : (isName n)
  ·
   refine sr fun Z z => ?_
   simp [row_map, e1, e2, e3, e4, e5, hin]
   refine z _ ?_
   clear z Z
   refine sr fun Z z => ?_
   simp [row_map, e1, e2, e3, e4, e5, hin]
   refine z _ ?_
   clear z Z
   refine AT_seq_k fun K1 hK1 => ?_
   refine sr fun Z z => ?_
   simp [row_map, e1, e2, e3, e4, e5, hin]
   refine z _ ?_
   clear z Z
   refine AT_block ?_
   refine sr fun Z z => ?_
   simp [row_map, e1, e2, e3, e4, e5, hin]
   refine z _ ?_
   clear z Z
   refine cT (by simp [e1, e2, e3, e4, e5, hin]) ?_
   refine sr fun Z z => ?_
   simp [row_map, e1, e2, e3, e4, e5, hin]
   refine z _ ?_
   clear z Z
   refine sr fun Z z => ?_
   simp [row_map, e1, e2, e3, e4, e5, hin]
   refine RVn_call (c_name_Is g rnd n (by omega) hres) ?_
   simp [row_map, e1, e2, e3, e4, e5, hin]
   repeat refine sg ?_
   refine z _ ?_
   clear z Z
   refine AT_ret ?_
   simp [row_map, Tryd.f32]
   all_goals rw [shapeE_ok]
   (· simp only [okT, bodyE, kidsE, typedE, e1, e2, e3, e4, e5, Bool.or_false, Bool.false_or, Bool.false_and, Bool.and_false, Bool.true_and, Bool.and_true, Bool.or_true, Bool.true_or, Bool.not_true, Bool.not_false, if_true, if_false, Bool.false_eq_true, reduceIte, Ty.name, Ty.args, hin])
  ·
   cases hl1 : ((l.length : Int) == 0)
   ·
    have hl2 : l.isEmpty = false := by rw [← len_eq0]; exact hl1
    refine sr fun Z z => ?_
    simp [row_map, e1, e2, e3, e4, e5, hin, hl1]
    refine z _ ?_
    clear z Z
    refine sr fun Z z => ?_
    simp [row_map, e1, e2, e3, e4, e5, hin, hl1]
    refine z _ ?_
    clear z Z
    refine AT_seq_k fun K2 hK2 => ?_
    refine sr fun Z z => ?_
    simp [row_map, e1, e2, e3, e4, e5, hin, hl1]
    refine z _ ?_
    clear z Z
    refine AT_block ?_
    refine sr fun Z z => ?_
    simp [row_map, e1, e2, e3, e4, e5, hin, hl1]
    refine z _ ?_
    clear z Z
    refine cT (by simp [e1, e2, e3, e4, e5, hin, hl1]) ?_
    refine sr fun Z z => ?_
    simp [row_map, e1, e2, e3, e4, e5, hin, hl1]
    refine z _ ?_
    clear z Z
    refine sr fun Z z => ?_
    simp [row_map, e1, e2, e3, e4, e5, hin, hl1]
    refine RVn_call (c_name_Is g rnd n (by omega) hres) ?_
    simp [row_map, e1, e2, e3, e4, e5, hin, hl1]
    repeat refine sg ?_
    refine z _ ?_
    clear z Z
    refine AT_ret ?_
    simp [row_map, Tryd.f32]
    all_goals rw [shapeE_ok]
    (· simp only [okT, bodyE, kidsE, typedE, e1, e2, e3, e4, e5, Bool.or_false, Bool.false_or, Bool.false_and, Bool.and_false, Bool.true_and, Bool.and_true, Bool.or_true, Bool.true_or, Bool.not_true, Bool.not_false, if_true, if_false, Bool.false_eq_true, reduceIte, Ty.name, Ty.args, hin, hl2])
   ·
    have hl2 : l.isEmpty = true := by rw [← len_eq0]; exact hl1
    refine sr fun Z z => ?_
    simp [row_map, e1, e2, e3, e4, e5, hin, hl1]
    refine z _ ?_
    clear z Z
    refine sr fun Z z => ?_
    simp [row_map, e1, e2, e3, e4, e5, hin, hl1]
    refine z _ ?_
    clear z Z
    refine AT_seq_k fun K3 hK3 => ?_
    refine sr fun Z z => ?_
    simp [row_map, e1, e2, e3, e4, e5, hin, hl1]
    refine z _ ?_
    clear z Z
    refine AT_block ?_
    refine sr fun Z z => ?_
    simp [row_map, e1, e2, e3, e4, e5, hin, hl1]
    refine z _ ?_
    clear z Z
    refine cT (by simp [e1, e2, e3, e4, e5, hin, hl1]) ?_
    refine sr fun Z z => ?_
    simp [row_map, e1, e2, e3, e4, e5, hin, hl1]
    refine z _ ?_
    clear z Z
    refine sr fun Z z => ?_
    simp [row_map, e1, e2, e3, e4, e5, hin, hl1]
    refine RVn_call (c_name_Is g rnd n (by omega) hres) ?_
    simp [row_map, e1, e2, e3, e4, e5, hin, hl1]
    repeat refine sg ?_
    refine RVn_call ((by have h := c_expr_Same g rnd (.mk kd n (.mk tn tas tp) ta l p) (.mk kd n ty0 [] l 0) (by omega); rw [same_s1, show ((Ty.mk tn tas tp).name.isEmpty && (Ty.mk tn tas tp).args.isEmpty && ta.isEmpty) = s1 from hs1.symm, enc_s1] at h; exact h)) ?_
    simp [row_map, e1, e2, e3, e4, e5, hin, hl1]
    repeat refine sg ?_
    refine z _ ?_
    clear z Z
    refine AT_ret ?_
    simp [row_map, Tryd.f32]
    all_goals rw [shapeE_ok]
    (rw [hs1]; simp only [okT, bodyE, kidsE, typedE, e1, e2, e3, e4, e5, Bool.or_false, Bool.false_or, Bool.false_and, Bool.and_false, Bool.true_and, Bool.and_true, Bool.or_true, Bool.true_or, Bool.not_true, Bool.not_false, if_true, if_false, Bool.false_eq_true, reduceIte, Ty.name, Ty.args, hin, hl2]; cases tn.isEmpty <;> cases tas.isEmpty <;> cases ta.isEmpty <;> rfl)
 ·
  have e1 : (kd == 1) = false := by rw [hk]; rfl
  have e2 : (kd == 2) = true := by rw [hk]; rfl
  have e3 : (kd == 3) = false := by rw [hk]; rfl
  have e4 : (kd == 4) = false := by rw [hk]; rfl
  have e5 : (kd == 5) = false := by rw [hk]; rfl
  cases hin : (isName n)
  ·
   refine sr fun Z z => ?_
   simp [row_map, e1, e2, e3, e4, e5, hin]
   refine z _ ?_
   clear z Z
   refine sr fun Z z => ?_
   simp [row_map, e1, e2, e3, e4, e5, hin]
   refine z _ ?_
   clear z Z
   refine AT_seq_k fun K4 hK4 => ?_
   refine sr fun Z z => ?_
   simp [row_map, e1, e2, e3, e4, e5, hin]
   refine z _ ?_
   clear z Z
   refine AT_block ?_
   refine sr fun Z z => ?_
   simp [row_map, e1, e2, e3, e4, e5, hin]
   refine z _ ?_
   clear z Z
   refine cF (by simp [e1, e2, e3, e4, e5, hin]) ?_
   refine sr fun Z z => ?_
   simp [row_map, e1, e2, e3, e4, e5, hin]
   refine z _ ?_
   clear z Z
   refine cT (by simp [e1, e2, e3, e4, e5, hin]) ?_
   refine AT_seq_draw_m false [(1, 1), (3, 3), (35, 1), (37, 1), (39, 3), (40, 3)] Pt.mixed (by kernel_rfl) ⟨by simp [Im, okP, AS.get, look, TV.strip], fun h => by cases h⟩ fun Z z => ?_
   simp [row_map, e1, e2, e3, e4, e5, hin]
   refine z _ ?_
   clear z Z
   refine sr fun Z z => ?_
   simp [row_map, e1, e2, e3, e4, e5, hin]
   refine z _ ?_
   clear z Z
   refine sr fun Z z => ?_
   simp [row_map, e1, e2, e3, e4, e5, hin]
   refine RVn_call (c_name_Is g rnd n (by omega) hres) ?_
   simp [row_map, e1, e2, e3, e4, e5, hin]
   repeat refine sg ?_
   refine z _ ?_
   clear z Z
   refine AT_ret ?_
   simp [row_map, Tryd.f32]
   all_goals rw [shapeE_ok]
   (· simp only [okT, bodyE, kidsE, typedE, e1, e2, e3, e4, e5, Bool.or_false, Bool.false_or, Bool.false_and, Bool.and_false, Bool.true_and, Bool.and_true, Bool.or_true, Bool.true_or, Bool.not_true, Bool.not_false, if_true, if_false, Bool.false_eq_true, reduceIte, Ty.name, Ty.args, hin])
  ·
   by_cases hl1 : (1 : Int) ≤ l.length
   ·
    have hl2 : l.isEmpty = false := by rw [← Bool.not_eq_true, List.isEmpty_iff]; intro h; rw [h] at hl1; simp at hl1
    cases hsb : s2
    ·
     refine sr fun Z z => ?_
     simp [row_map, e1, e2, e3, e4, e5, hin, hl1, hsb]
     refine z _ ?_
     clear z Z
     refine sr fun Z z => ?_
     simp [row_map, e1, e2, e3, e4, e5, hin, hl1, hsb]
     refine z _ ?_
     clear z Z
     refine AT_seq_k fun K5 hK5 => ?_
     refine sr fun Z z => ?_
     simp [row_map, e1, e2, e3, e4, e5, hin, hl1, hsb]
     refine z _ ?_
     clear z Z
     refine AT_block ?_
     refine sr fun Z z => ?_
     simp [row_map, e1, e2, e3, e4, e5, hin, hl1, hsb]
     refine z _ ?_
     clear z Z
     refine cF (by simp [e1, e2, e3, e4, e5, hin, hl1, hsb]) ?_
     refine sr fun Z z => ?_
     simp [row_map, e1, e2, e3, e4, e5, hin, hl1, hsb]
     refine z _ ?_
     clear z Z
     refine cT (by simp [e1, e2, e3, e4, e5, hin, hl1, hsb]) ?_
     refine AT_seq_draw_m false [(1, 1), (3, 3), (35, 1), (37, 1), (39, 3), (40, 3)] Pt.mixed (by kernel_rfl) ⟨by simp [Im, okP, AS.get, look, TV.strip], fun h => by cases h⟩ fun Z z => ?_
     simp [row_map, e1, e2, e3, e4, e5, hin, hl1, hsb]
     refine z _ ?_
     clear z Z
     refine sr fun Z z => ?_
     simp [row_map, e1, e2, e3, e4, e5, hin, hl1, hsb]
     refine z _ ?_
     clear z Z
     refine sr fun Z z => ?_
     simp [row_map, e1, e2, e3, e4, e5, hin, hl1, hsb]
     refine RVn_call (c_name_Is g rnd n (by omega) hres) ?_
     simp [row_map, e1, e2, e3, e4, e5, hin, hl1, hsb]
     repeat refine sg ?_
     refine RVn_call ((by have h := c_expr_Same g rnd (.mk kd n (.mk tn tas tp) ta l p) (.mk kd n ty0 ta l 0) (by omega); rw [same_s2, show ((Ty.mk tn tas tp).name.isEmpty && (Ty.mk tn tas tp).args.isEmpty) = s2 from hs2.symm, enc_s1] at h; exact h)) ?_
     simp [row_map, e1, e2, e3, e4, e5, hin, hl1, hsb]
     repeat refine sg ?_
     refine z _ ?_
     clear z Z
     refine AT_ret ?_
     simp [row_map, Tryd.f32]
     all_goals rw [shapeE_ok]
     (· rw [hsb] at hs2; simp only [okT, bodyE, kidsE, typedE, e1, e2, e3, e4, e5, Bool.or_false, Bool.false_or, Bool.false_and, Bool.and_false, Bool.true_and, Bool.and_true, Bool.or_true, Bool.true_or, Bool.not_true, Bool.not_false, if_true, if_false, Bool.false_eq_true, reduceIte, Ty.name, Ty.args, hin, hl2, ← hs2])
    ·
     refine sr fun Z z => ?_
     simp [row_map, e1, e2, e3, e4, e5, hin, hl1, hsb]
     refine z _ ?_
     clear z Z
     refine sr fun Z z => ?_
     simp [row_map, e1, e2, e3, e4, e5, hin, hl1, hsb]
     refine z _ ?_
     clear z Z
     refine AT_seq_k fun K6 hK6 => ?_
     refine sr fun Z z => ?_
     simp [row_map, e1, e2, e3, e4, e5, hin, hl1, hsb]
     refine z _ ?_
     clear z Z
     refine AT_block ?_
     refine sr fun Z z => ?_
     simp [row_map, e1, e2, e3, e4, e5, hin, hl1, hsb]
     refine z _ ?_
     clear z Z
     refine cF (by simp [e1, e2, e3, e4, e5, hin, hl1, hsb]) ?_
     refine sr fun Z z => ?_
     simp [row_map, e1, e2, e3, e4, e5, hin, hl1, hsb]
     refine z _ ?_
     clear z Z
     refine cT (by simp [e1, e2, e3, e4, e5, hin, hl1, hsb]) ?_
     refine AT_seq_draw_m false [(1, 1), (3, 3), (35, 1), (37, 1), (39, 3), (40, 3)] Pt.mixed (by kernel_rfl) ⟨by simp [Im, okP, AS.get, look, TV.strip], fun h => by cases h⟩ fun Z z => ?_
     simp [row_map, e1, e2, e3, e4, e5, hin, hl1, hsb]
     refine z _ ?_
     clear z Z
     refine sr fun Z z => ?_
     simp [row_map, e1, e2, e3, e4, e5, hin, hl1, hsb]
     refine z _ ?_
     clear z Z
     refine sr fun Z z => ?_
     simp [row_map, e1, e2, e3, e4, e5, hin, hl1, hsb]
     refine RVn_call (c_name_Is g rnd n (by omega) hres) ?_
     simp [row_map, e1, e2, e3, e4, e5, hin, hl1, hsb]
     repeat refine sg ?_
     refine RVn_call ((by have h := c_expr_Same g rnd (.mk kd n (.mk tn tas tp) ta l p) (.mk kd n ty0 ta l 0) (by omega); rw [same_s2, show ((Ty.mk tn tas tp).name.isEmpty && (Ty.mk tn tas tp).args.isEmpty) = s2 from hs2.symm, enc_s1] at h; exact h)) ?_
     simp [row_map, e1, e2, e3, e4, e5, hin, hl1, hsb]
     repeat refine sg ?_
     refine RVn_call ((by have h := c_slices_ContainsFunc_api_Type_api_Type_q g rnd 60 [] (fun x => !rightT x) ta (by omega) (fun x hx => c_expr_shape_1 g rnd x (by have := wts_mem hx; omega) hres); rw [any_right] at h; exact h)) ?_
     simp [row_map, e1, e2, e3, e4, e5, hin, hl1, hsb]
     repeat refine sg ?_
     refine z _ ?_
     clear z Z
     refine AT_ret ?_
     simp [row_map, Tryd.f32]
     all_goals rw [shapeE_ok]
     (rw [hsb] at hs2; simp only [okT, bodyE, kidsE, typedE, e1, e2, e3, e4, e5, Bool.or_false, Bool.false_or, Bool.false_and, Bool.and_false, Bool.true_and, Bool.and_true, Bool.or_true, Bool.true_or, Bool.not_true, Bool.not_false, if_true, if_false, Bool.false_eq_true, reduceIte, Ty.name, Ty.args, hin, hl2, ← hs2]; cases ta with | nil => rfl | cons x r => simp)
   ·
    have hl2 : l.isEmpty = true := by cases l with | nil => rfl | cons x r => exact absurd (by simp; omega) hl1
    refine sr fun Z z => ?_
    simp [row_map, e1, e2, e3, e4, e5, hin, hl1]
    refine z _ ?_
    clear z Z
    refine sr fun Z z => ?_
    simp [row_map, e1, e2, e3, e4, e5, hin, hl1]
    refine z _ ?_
    clear z Z
    refine AT_seq_k fun K7 hK7 => ?_
    refine sr fun Z z => ?_
    simp [row_map, e1, e2, e3, e4, e5, hin, hl1]
    refine z _ ?_
    clear z Z
    refine AT_block ?_
    refine sr fun Z z => ?_
    simp [row_map, e1, e2, e3, e4, e5, hin, hl1]
    refine z _ ?_
    clear z Z
    refine cF (by simp [e1, e2, e3, e4, e5, hin, hl1]) ?_
    refine sr fun Z z => ?_
    simp [row_map, e1, e2, e3, e4, e5, hin, hl1]
    refine z _ ?_
    clear z Z
    refine cT (by simp [e1, e2, e3, e4, e5, hin, hl1]) ?_
    refine AT_seq_draw_m false [(1, 1), (3, 3), (35, 1), (37, 1), (39, 3), (40, 3)] Pt.mixed (by kernel_rfl) ⟨by simp [Im, okP, AS.get, look, TV.strip], fun h => by cases h⟩ fun Z z => ?_
    simp [row_map, e1, e2, e3, e4, e5, hin, hl1]
    refine z _ ?_
    clear z Z
    refine sr fun Z z => ?_
    simp [row_map, e1, e2, e3, e4, e5, hin, hl1]
    refine z _ ?_
    clear z Z
    refine sr fun Z z => ?_
    simp [row_map, e1, e2, e3, e4, e5, hin, hl1]
    refine RVn_call (c_name_Is g rnd n (by omega) hres) ?_
    simp [row_map, e1, e2, e3, e4, e5, hin, hl1]
    repeat refine sg ?_
    refine z _ ?_
    clear z Z
    refine AT_ret ?_
    simp [row_map, Tryd.f32]
    all_goals rw [shapeE_ok]
    (· simp only [okT, bodyE, kidsE, typedE, e1, e2, e3, e4, e5, Bool.or_false, Bool.false_or, Bool.false_and, Bool.and_false, Bool.true_and, Bool.and_true, Bool.or_true, Bool.true_or, Bool.not_true, Bool.not_false, if_true, if_false, Bool.false_eq_true, reduceIte, Ty.name, Ty.args, hin, hl2])
 ·
  have e1 : (kd == 1) = false := by rw [hk]; rfl
  have e2 : (kd == 2) = false := by rw [hk]; rfl
  have e3 : (kd == 3) = true := by rw [hk]; rfl
  have e4 : (kd == 4) = false := by rw [hk]; rfl
  have e5 : (kd == 5) = false := by rw [hk]; rfl
  cases hr : (rightT (.mk tn tas tp))
  ·
   refine sr fun Z z => ?_
   simp [row_map, e1, e2, e3, e4, e5, hr]
   refine z _ ?_
   clear z Z
   refine sr fun Z z => ?_
   simp [row_map, e1, e2, e3, e4, e5, hr]
   refine z _ ?_
   clear z Z
   refine AT_seq_k fun K8 hK8 => ?_
   refine sr fun Z z => ?_
   simp [row_map, e1, e2, e3, e4, e5, hr]
   refine z _ ?_
   clear z Z
   refine AT_block ?_
   refine sr fun Z z => ?_
   simp [row_map, e1, e2, e3, e4, e5, hr]
   refine z _ ?_
   clear z Z
   refine cF (by simp [e1, e2, e3, e4, e5, hr]) ?_
   refine sr fun Z z => ?_
   simp [row_map, e1, e2, e3, e4, e5, hr]
   refine z _ ?_
   clear z Z
   refine cF (by simp [e1, e2, e3, e4, e5, hr]) ?_
   refine sr fun Z z => ?_
   simp [row_map, e1, e2, e3, e4, e5, hr]
   refine z _ ?_
   clear z Z
   refine cT (by simp [e1, e2, e3, e4, e5, hr]) ?_
   refine sr fun Z z => ?_
   simp [row_map, encTy_mk, e1, e2, e3, e4, e5, hr]
   refine z _ ?_
   clear z Z
   refine sr fun Z z => ?_
   simp [row_map, e1, e2, e3, e4, e5, hr]
   refine RVn_call (c_types_Right g rnd (.mk tn tas tp) (by omega) hres) ?_
   simp [row_map, e1, e2, e3, e4, e5, hr]
   repeat refine sg ?_
   refine z _ ?_
   clear z Z
   refine AT_ret ?_
   simp [row_map, Tryd.f32]
   all_goals rw [shapeE_ok]
   (· simp only [okT, bodyE, kidsE, typedE, e1, e2, e3, e4, e5, Bool.or_false, Bool.false_or, Bool.false_and, Bool.and_false, Bool.true_and, Bool.and_true, Bool.or_true, Bool.true_or, Bool.not_true, Bool.not_false, if_true, if_false, Bool.false_eq_true, reduceIte, Ty.name, Ty.args, hr])
  ·
   refine sr fun Z z => ?_
   simp [row_map, e1, e2, e3, e4, e5, hr]
   refine z _ ?_
   clear z Z
   refine sr fun Z z => ?_
   simp [row_map, e1, e2, e3, e4, e5, hr]
   refine z _ ?_
   clear z Z
   refine AT_seq_k fun K9 hK9 => ?_
   refine sr fun Z z => ?_
   simp [row_map, e1, e2, e3, e4, e5, hr]
   refine z _ ?_
   clear z Z
   refine AT_block ?_
   refine sr fun Z z => ?_
   simp [row_map, e1, e2, e3, e4, e5, hr]
   refine z _ ?_
   clear z Z
   refine cF (by simp [e1, e2, e3, e4, e5, hr]) ?_
   refine sr fun Z z => ?_
   simp [row_map, e1, e2, e3, e4, e5, hr]
   refine z _ ?_
   clear z Z
   refine cF (by simp [e1, e2, e3, e4, e5, hr]) ?_
   refine sr fun Z z => ?_
   simp [row_map, e1, e2, e3, e4, e5, hr]
   refine z _ ?_
   clear z Z
   refine cT (by simp [e1, e2, e3, e4, e5, hr]) ?_
   refine sr fun Z z => ?_
   simp [row_map, encTy_mk, e1, e2, e3, e4, e5, hr]
   refine z _ ?_
   clear z Z
   refine sr fun Z z => ?_
   simp [row_map, e1, e2, e3, e4, e5, hr]
   refine RVn_call (c_types_Right g rnd (.mk tn tas tp) (by omega) hres) ?_
   simp [row_map, e1, e2, e3, e4, e5, hr]
   repeat refine sg ?_
   refine RVn_call ((by have h := c_expr_Same g rnd (.mk kd n (.mk tn tas tp) ta l p) (.mk kd [] (.mk tn tas tp) [] l 0) (by omega); rw [same_s3, ← hs3, encE_mk kd [] (.mk tn tas tp) [] l 0] at h; exact h)) ?_
   simp [row_map, e1, e2, e3, e4, e5, hr]
   repeat refine sg ?_
   refine z _ ?_
   clear z Z
   refine AT_ret ?_
   simp [row_map, Tryd.f32]
   all_goals rw [shapeE_ok]
   (rw [hs3]; simp only [okT, bodyE, kidsE, typedE, e1, e2, e3, e4, e5, Bool.or_false, Bool.false_or, Bool.false_and, Bool.and_false, Bool.true_and, Bool.and_true, Bool.or_true, Bool.true_or, Bool.not_true, Bool.not_false, if_true, if_false, Bool.false_eq_true, reduceIte, Ty.name, Ty.args, hr]; cases n.isEmpty <;> cases ta.isEmpty <;> rfl)
 ·
  have e1 : (kd == 1) = false := by rw [hk]; rfl
  have e2 : (kd == 2) = false := by rw [hk]; rfl
  have e3 : (kd == 3) = false := by rw [hk]; rfl
  have e4 : (kd == 4) = true := by rw [hk]; rfl
  have e5 : (kd == 5) = false := by rw [hk]; rfl
  cases hin : (isName n)
  ·
   refine sr fun Z z => ?_
   simp [row_map, e1, e2, e3, e4, e5, hin]
   refine z _ ?_
   clear z Z
   refine sr fun Z z => ?_
   simp [row_map, e1, e2, e3, e4, e5, hin]
   refine z _ ?_
   clear z Z
   refine AT_seq_k fun K10 hK10 => ?_
   refine sr fun Z z => ?_
   simp [row_map, e1, e2, e3, e4, e5, hin]
   refine z _ ?_
   clear z Z
   refine AT_block ?_
   refine sr fun Z z => ?_
   simp [row_map, e1, e2, e3, e4, e5, hin]
   refine z _ ?_
   clear z Z
   refine cF (by simp [e1, e2, e3, e4, e5, hin]) ?_
   refine sr fun Z z => ?_
   simp [row_map, e1, e2, e3, e4, e5, hin]
   refine z _ ?_
   clear z Z
   refine cF (by simp [e1, e2, e3, e4, e5, hin]) ?_
   refine sr fun Z z => ?_
   simp [row_map, e1, e2, e3, e4, e5, hin]
   refine z _ ?_
   clear z Z
   refine cF (by simp [e1, e2, e3, e4, e5, hin]) ?_
   refine sr fun Z z => ?_
   simp [row_map, e1, e2, e3, e4, e5, hin]
   refine z _ ?_
   clear z Z
   refine cT (by simp [e1, e2, e3, e4, e5, hin]) ?_
   refine sr fun Z z => ?_
   simp [row_map, e1, e2, e3, e4, e5, hin]
   refine z _ ?_
   clear z Z
   refine sr fun Z z => ?_
   simp [row_map, e1, e2, e3, e4, e5, hin]
   refine RVn_call (c_name_Is g rnd n (by omega) hres) ?_
   simp [row_map, e1, e2, e3, e4, e5, hin]
   repeat refine sg ?_
   refine z _ ?_
   clear z Z
   refine AT_ret ?_
   simp [row_map, Tryd.f32]
   all_goals rw [shapeE_ok]
   (· simp only [okT, bodyE, kidsE, typedE, e1, e2, e3, e4, e5, Bool.or_false, Bool.false_or, Bool.false_and, Bool.and_false, Bool.true_and, Bool.and_true, Bool.or_true, Bool.true_or, Bool.not_true, Bool.not_false, if_true, if_false, Bool.false_eq_true, reduceIte, Ty.name, Ty.args, hin])
  ·
   cases hl1 : ((l.length : Int) == 1)
   ·
    have hl2 : (l.length == 1) = false := by rw [← len_eq1]; exact hl1
    refine sr fun Z z => ?_
    simp [row_map, e1, e2, e3, e4, e5, hin, hl1]
    refine z _ ?_
    clear z Z
    refine sr fun Z z => ?_
    simp [row_map, e1, e2, e3, e4, e5, hin, hl1]
    refine z _ ?_
    clear z Z
    refine AT_seq_k fun K11 hK11 => ?_
    refine sr fun Z z => ?_
    simp [row_map, e1, e2, e3, e4, e5, hin, hl1]
    refine z _ ?_
    clear z Z
    refine AT_block ?_
    refine sr fun Z z => ?_
    simp [row_map, e1, e2, e3, e4, e5, hin, hl1]
    refine z _ ?_
    clear z Z
    refine cF (by simp [e1, e2, e3, e4, e5, hin, hl1]) ?_
    refine sr fun Z z => ?_
    simp [row_map, e1, e2, e3, e4, e5, hin, hl1]
    refine z _ ?_
    clear z Z
    refine cF (by simp [e1, e2, e3, e4, e5, hin, hl1]) ?_
    refine sr fun Z z => ?_
    simp [row_map, e1, e2, e3, e4, e5, hin, hl1]
    refine z _ ?_
    clear z Z
    refine cF (by simp [e1, e2, e3, e4, e5, hin, hl1]) ?_
    refine sr fun Z z => ?_
    simp [row_map, e1, e2, e3, e4, e5, hin, hl1]
    refine z _ ?_
    clear z Z
    refine cT (by simp [e1, e2, e3, e4, e5, hin, hl1]) ?_
    refine sr fun Z z => ?_
    simp [row_map, e1, e2, e3, e4, e5, hin, hl1]
    refine z _ ?_
    clear z Z
    refine sr fun Z z => ?_
    simp [row_map, e1, e2, e3, e4, e5, hin, hl1]
    refine RVn_call (c_name_Is g rnd n (by omega) hres) ?_
    simp [row_map, e1, e2, e3, e4, e5, hin, hl1]
    repeat refine sg ?_
    refine z _ ?_
    clear z Z
    refine AT_ret ?_
    simp [row_map, Tryd.f32]
    all_goals rw [shapeE_ok]
    (· simp only [okT, bodyE, kidsE, typedE, e1, e2, e3, e4, e5, Bool.or_false, Bool.false_or, Bool.false_and, Bool.and_false, Bool.true_and, Bool.and_true, Bool.or_true, Bool.true_or, Bool.not_true, Bool.not_false, if_true, if_false, Bool.false_eq_true, reduceIte, Ty.name, Ty.args, hin, hl2])
   ·
    have hl2 : (l.length == 1) = true := by rw [← len_eq1]; exact hl1
    refine sr fun Z z => ?_
    simp [row_map, e1, e2, e3, e4, e5, hin, hl1]
    refine z _ ?_
    clear z Z
    refine sr fun Z z => ?_
    simp [row_map, e1, e2, e3, e4, e5, hin, hl1]
    refine z _ ?_
    clear z Z
    refine AT_seq_k fun K12 hK12 => ?_
    refine sr fun Z z => ?_
    simp [row_map, e1, e2, e3, e4, e5, hin, hl1]
    refine z _ ?_
    clear z Z
    refine AT_block ?_
    refine sr fun Z z => ?_
    simp [row_map, e1, e2, e3, e4, e5, hin, hl1]
    refine z _ ?_
    clear z Z
    refine cF (by simp [e1, e2, e3, e4, e5, hin, hl1]) ?_
    refine sr fun Z z => ?_
    simp [row_map, e1, e2, e3, e4, e5, hin, hl1]
    refine z _ ?_
    clear z Z
    refine cF (by simp [e1, e2, e3, e4, e5, hin, hl1]) ?_
    refine sr fun Z z => ?_
    simp [row_map, e1, e2, e3, e4, e5, hin, hl1]
    refine z _ ?_
    clear z Z
    refine cF (by simp [e1, e2, e3, e4, e5, hin, hl1]) ?_
    refine sr fun Z z => ?_
    simp [row_map, e1, e2, e3, e4, e5, hin, hl1]
    refine z _ ?_
    clear z Z
    refine cT (by simp [e1, e2, e3, e4, e5, hin, hl1]) ?_
    refine sr fun Z z => ?_
    simp [row_map, e1, e2, e3, e4, e5, hin, hl1]
    refine z _ ?_
    clear z Z
    refine sr fun Z z => ?_
    simp [row_map, e1, e2, e3, e4, e5, hin, hl1]
    refine RVn_call (c_name_Is g rnd n (by omega) hres) ?_
    simp [row_map, e1, e2, e3, e4, e5, hin, hl1]
    repeat refine sg ?_
    refine RVn_call ((by have h := c_expr_Same g rnd (.mk kd n (.mk tn tas tp) ta l p) (.mk kd n ty0 [] l 0) (by omega); rw [same_s1, show ((Ty.mk tn tas tp).name.isEmpty && (Ty.mk tn tas tp).args.isEmpty && ta.isEmpty) = s1 from hs1.symm, enc_s1] at h; exact h)) ?_
    simp [row_map, e1, e2, e3, e4, e5, hin, hl1]
    repeat refine sg ?_
    refine z _ ?_
    clear z Z
    refine AT_ret ?_
    simp [row_map, Tryd.f32]
    all_goals rw [shapeE_ok]
    (rw [hs1]; simp only [okT, bodyE, kidsE, typedE, e1, e2, e3, e4, e5, Bool.or_false, Bool.false_or, Bool.false_and, Bool.and_false, Bool.true_and, Bool.and_true, Bool.or_true, Bool.true_or, Bool.not_true, Bool.not_false, if_true, if_false, Bool.false_eq_true, reduceIte, Ty.name, Ty.args, hin, hl2]; cases tn.isEmpty <;> cases tas.isEmpty <;> cases ta.isEmpty <;> rfl)
 ·
  have e1 : (kd == 1) = false := by rw [hk]; rfl
  have e2 : (kd == 2) = false := by rw [hk]; rfl
  have e3 : (kd == 3) = false := by rw [hk]; rfl
  have e4 : (kd == 4) = false := by rw [hk]; rfl
  have e5 : (kd == 5) = true := by rw [hk]; rfl
  cases hr : (rightT (.mk tn tas tp))
  ·
   refine sr fun Z z => ?_
   simp [row_map, e1, e2, e3, e4, e5, hr]
   refine z _ ?_
   clear z Z
   refine sr fun Z z => ?_
   simp [row_map, e1, e2, e3, e4, e5, hr]
   refine z _ ?_
   clear z Z
   refine AT_seq_k fun K13 hK13 => ?_
   refine sr fun Z z => ?_
   simp [row_map, e1, e2, e3, e4, e5, hr]
   refine z _ ?_
   clear z Z
   refine AT_block ?_
   refine sr fun Z z => ?_
   simp [row_map, e1, e2, e3, e4, e5, hr]
   refine z _ ?_
   clear z Z
   refine cF (by simp [e1, e2, e3, e4, e5, hr]) ?_
   refine sr fun Z z => ?_
   simp [row_map, e1, e2, e3, e4, e5, hr]
   refine z _ ?_
   clear z Z
   refine cF (by simp [e1, e2, e3, e4, e5, hr]) ?_
   refine sr fun Z z => ?_
   simp [row_map, e1, e2, e3, e4, e5, hr]
   refine z _ ?_
   clear z Z
   refine cF (by simp [e1, e2, e3, e4, e5, hr]) ?_
   refine sr fun Z z => ?_
   simp [row_map, e1, e2, e3, e4, e5, hr]
   refine z _ ?_
   clear z Z
   refine cF (by simp [e1, e2, e3, e4, e5, hr]) ?_
   refine AT_skip ?_
   refine hK13 _ ?_
   refine sr fun Z z => ?_
   simp [row_map, encTy_mk, e1, e2, e3, e4, e5, hr]
   refine z _ ?_
   clear z Z
   refine sr fun Z z => ?_
   simp [row_map, e1, e2, e3, e4, e5, hr]
   refine RVn_call (c_types_Right g rnd (.mk tn tas tp) (by omega) hres) ?_
   simp [row_map, e1, e2, e3, e4, e5, hr]
   repeat refine sg ?_
   refine z _ ?_
   clear z Z
   refine AT_ret ?_
   simp [row_map, Tryd.f32]
   all_goals rw [shapeE_ok]
   (· simp only [okT, bodyE, kidsE, typedE, e1, e2, e3, e4, e5, Bool.or_false, Bool.false_or, Bool.false_and, Bool.and_false, Bool.true_and, Bool.and_true, Bool.or_true, Bool.true_or, Bool.not_true, Bool.not_false, if_true, if_false, Bool.false_eq_true, reduceIte, Ty.name, Ty.args, hr])
  ·
   cases hl1 : ((l.length : Int) == 1)
   ·
    have hl2 : (l.length == 1) = false := by rw [← len_eq1]; exact hl1
    refine sr fun Z z => ?_
    simp [row_map, e1, e2, e3, e4, e5, hr, hl1]
    refine z _ ?_
    clear z Z
    refine sr fun Z z => ?_
    simp [row_map, e1, e2, e3, e4, e5, hr, hl1]
    refine z _ ?_
    clear z Z
    refine AT_seq_k fun K14 hK14 => ?_
    refine sr fun Z z => ?_
    simp [row_map, e1, e2, e3, e4, e5, hr, hl1]
    refine z _ ?_
    clear z Z
    refine AT_block ?_
    refine sr fun Z z => ?_
    simp [row_map, e1, e2, e3, e4, e5, hr, hl1]
    refine z _ ?_
    clear z Z
    refine cF (by simp [e1, e2, e3, e4, e5, hr, hl1]) ?_
    refine sr fun Z z => ?_
    simp [row_map, e1, e2, e3, e4, e5, hr, hl1]
    refine z _ ?_
    clear z Z
    refine cF (by simp [e1, e2, e3, e4, e5, hr, hl1]) ?_
    refine sr fun Z z => ?_
    simp [row_map, e1, e2, e3, e4, e5, hr, hl1]
    refine z _ ?_
    clear z Z
    refine cF (by simp [e1, e2, e3, e4, e5, hr, hl1]) ?_
    refine sr fun Z z => ?_
    simp [row_map, e1, e2, e3, e4, e5, hr, hl1]
    refine z _ ?_
    clear z Z
    refine cF (by simp [e1, e2, e3, e4, e5, hr, hl1]) ?_
    refine AT_skip ?_
    refine hK14 _ ?_
    refine sr fun Z z => ?_
    simp [row_map, encTy_mk, e1, e2, e3, e4, e5, hr, hl1]
    refine z _ ?_
    clear z Z
    refine sr fun Z z => ?_
    simp [row_map, e1, e2, e3, e4, e5, hr, hl1]
    refine RVn_call (c_types_Right g rnd (.mk tn tas tp) (by omega) hres) ?_
    simp [row_map, e1, e2, e3, e4, e5, hr, hl1]
    repeat refine sg ?_
    refine z _ ?_
    clear z Z
    refine AT_ret ?_
    simp [row_map, Tryd.f32]
    all_goals rw [shapeE_ok]
    (· simp only [okT, bodyE, kidsE, typedE, e1, e2, e3, e4, e5, Bool.or_false, Bool.false_or, Bool.false_and, Bool.and_false, Bool.true_and, Bool.and_true, Bool.or_true, Bool.true_or, Bool.not_true, Bool.not_false, if_true, if_false, Bool.false_eq_true, reduceIte, Ty.name, Ty.args, hr, hl2])
   ·
    have hl2 : (l.length == 1) = true := by rw [← len_eq1]; exact hl1
    refine sr fun Z z => ?_
    simp [row_map, e1, e2, e3, e4, e5, hr, hl1]
    refine z _ ?_
    clear z Z
    refine sr fun Z z => ?_
    simp [row_map, e1, e2, e3, e4, e5, hr, hl1]
    refine z _ ?_
    clear z Z
    refine AT_seq_k fun K15 hK15 => ?_
    refine sr fun Z z => ?_
    simp [row_map, e1, e2, e3, e4, e5, hr, hl1]
    refine z _ ?_
    clear z Z
    refine AT_block ?_
    refine sr fun Z z => ?_
    simp [row_map, e1, e2, e3, e4, e5, hr, hl1]
    refine z _ ?_
    clear z Z
    refine cF (by simp [e1, e2, e3, e4, e5, hr, hl1]) ?_
    refine sr fun Z z => ?_
    simp [row_map, e1, e2, e3, e4, e5, hr, hl1]
    refine z _ ?_
    clear z Z
    refine cF (by simp [e1, e2, e3, e4, e5, hr, hl1]) ?_
    refine sr fun Z z => ?_
    simp [row_map, e1, e2, e3, e4, e5, hr, hl1]
    refine z _ ?_
    clear z Z
    refine cF (by simp [e1, e2, e3, e4, e5, hr, hl1]) ?_
    refine sr fun Z z => ?_
    simp [row_map, e1, e2, e3, e4, e5, hr, hl1]
    refine z _ ?_
    clear z Z
    refine cF (by simp [e1, e2, e3, e4, e5, hr, hl1]) ?_
    refine AT_skip ?_
    refine hK15 _ ?_
    refine sr fun Z z => ?_
    simp [row_map, encTy_mk, e1, e2, e3, e4, e5, hr, hl1]
    refine z _ ?_
    clear z Z
    refine sr fun Z z => ?_
    simp [row_map, e1, e2, e3, e4, e5, hr, hl1]
    refine RVn_call (c_types_Right g rnd (.mk tn tas tp) (by omega) hres) ?_
    simp [row_map, e1, e2, e3, e4, e5, hr, hl1]
    repeat refine sg ?_
    refine RVn_call ((by have h := c_expr_Same g rnd (.mk kd n (.mk tn tas tp) ta l p) (.mk kd [] (.mk tn tas tp) [] l 0) (by omega); rw [same_s3, ← hs3, encE_mk kd [] (.mk tn tas tp) [] l 0] at h; exact h)) ?_
    simp [row_map, e1, e2, e3, e4, e5, hr, hl1]
    repeat refine sg ?_
    refine z _ ?_
    clear z Z
    refine AT_ret ?_
    simp [row_map, Tryd.f32]
    all_goals rw [shapeE_ok]
    (rw [hs3]; simp only [okT, bodyE, kidsE, typedE, e1, e2, e3, e4, e5, Bool.or_false, Bool.false_or, Bool.false_and, Bool.and_false, Bool.true_and, Bool.and_true, Bool.or_true, Bool.true_or, Bool.not_true, Bool.not_false, if_true, if_false, Bool.false_eq_true, reduceIte, Ty.name, Ty.args, hr, hl2]; cases n.isEmpty <;> cases ta.isEmpty <;> rfl)
 ·
  refine sr fun Z z => ?_
  simp [row_map, e1, e2, e3, e4, e5]
  refine z _ ?_
  clear z Z
  refine sr fun Z z => ?_
  simp [row_map, e1, e2, e3, e4, e5]
  refine z _ ?_
  clear z Z
  refine AT_seq_k fun K16 hK16 => ?_
  refine sr fun Z z => ?_
  simp [row_map, e1, e2, e3, e4, e5]
  refine z _ ?_
  clear z Z
  refine AT_block ?_
  refine sr fun Z z => ?_
  simp [row_map, e1, e2, e3, e4, e5]
  refine z _ ?_
  clear z Z
  refine cF (by simp [e1, e2, e3, e4, e5]) ?_
  refine sr fun Z z => ?_
  simp [row_map, e1, e2, e3, e4, e5]
  refine z _ ?_
  clear z Z
  refine cF (by simp [e1, e2, e3, e4, e5]) ?_
  refine sr fun Z z => ?_
  simp [row_map, e1, e2, e3, e4, e5]
  refine z _ ?_
  clear z Z
  refine cF (by simp [e1, e2, e3, e4, e5]) ?_
  refine sr fun Z z => ?_
  simp [row_map, e1, e2, e3, e4, e5]
  refine z _ ?_
  clear z Z
  refine cF (by simp [e1, e2, e3, e4, e5]) ?_
  refine AT_skip ?_
  refine hK16 _ ?_
  refine sr fun Z z => ?_
  simp [row_map, encTy_mk, e1, e2, e3, e4, e5]
  refine z _ ?_
  clear z Z
  refine sr fun Z z => ?_
  simp [row_map, e1, e2, e3, e4, e5]
  refine z _ ?_
  clear z Z
  refine AT_ret ?_
  simp [row_map, Tryd.f32]
  all_goals rw [shapeE_ok]
  (· simp only [okT, bodyE, kidsE, typedE, e1, e2, e3, e4, e5, Bool.or_false, Bool.false_or, Bool.false_and, Bool.and_false, Bool.true_and, Bool.and_true, Bool.or_true, Bool.true_or, Bool.not_true, Bool.not_false, if_true, if_false, Bool.false_eq_true, reduceIte, Ty.name, Ty.args])

end Go.Proofs.YtjkabaejabibnaaDoor
end

section
/- Contracts: right expressions, by the iterator. -/
set_option linter.all false
set_option maxHeartbeats 1000000
set_option maxRecDepth 10000
namespace Go.Proofs.YtjkabaejabibnaaDoor
open Go Go.Pv
variable (g : Nat → Option (List AV)) (rnd : Bool)

theorem c_expr_Right_z (e : Exp) (hw : wtE e ≤ 400000000) (hres : g 0 = some reservedA) : Valid Tryd.prog (G0 g false) 10 [.agg (encE e)] (.bool (rightE e)) := by

 refine valid_of [] Tryd.func10 rfl (by kernel_rfl) ?_
 refine sr fun Z z => ?_
 simp [encE_mk, encTy_def, Tryd.f10]
 refine z _ ?_
 clear z Z
 refine AT_seq_k fun K1 hK1 => ?_
 refine sr fun Z z => ?_
 simp [encE_mk, encTy_def, encE_mk, encTy_def]
 refine RVn_call (c_expr_All g false e) ?_
 simp [encE_mk, encTy_def, encE_mk, encTy_def]
 refine z _ ?_
 clear z Z
 refine AT_block ?_
 refine AT_keep [2,5] [2] (by first | rfl | simp) ?_
 refine AT_rangeFunc rfl rfl (by first | rfl | simp) (by first | decide | simp) [2] (by decide) (elP ((lstE e).map avE)) (goE shapeE) (feedG (goE shapeE) [] ((lstE e).map avE)) (fun Y hP hgo hel => ⟨_, by have h := c_expr_All_1 g Y hP e (by omega) [] (elOk_P hel _ _ (by simp)); rw [feed_G, hgo] at h; exact h⟩) (fun s => { n := 17, tm := [(2, .lp 2 0), (5, .v (.func 56 [.ro (encE e)]) none)], bx := [(2, [.bool false])], tb := [], sh := [], hint := [] }) (by first | rfl | simp) ?_ ?_
 intro s x hel
 obtain ⟨x, rfl, hn⟩ := elP_exp hel
 obtain ⟨kx, nx, tx, ax, lx, px⟩ := x
 refine AT_region_q fun Z z => ?_
 simp [encE_mk, encTy_def]
 refine z _ ?_
 clear z Z
 refine AT_block ?_
 refine sr fun Z z => ?_
 simp [encE_mk, encTy_def]
 refine RVn_call (repeat_zero g true lx.length (by have h2 := lstE_mem_wt e _ hn; have h3 := wtEs_len lx; simp [wtE_mk] at h2; omega)) ?_
 simp [encE_mk, encTy_def]
 refine z _ ?_
 clear z Z
 refine sr fun Z z => ?_
 simp [encE_mk, encTy_def]
 refine RVn_call ((by have h := c_expr_shape g true (.mk kx nx tx ax (List.replicate lx.length ex0) px) (by have h1 := wt_bareK (.mk kx nx tx ax lx px); have h2 := lstE_mem_wt e _ hn; simp only [bareK] at h1; omega) hres; have hs := shape_bareK (.mk kx nx tx ax lx px); simp only [bareK] at hs; rw [hs] at h; simp only [encE_mk, encTy_def, List.map_replicate, enc_ex0] at h; exact h)) ?_
 simp [encE_mk, encTy_def]
 refine z _ ?_
 clear z Z
 refine AT_cond (g := none) rfl (fun hb16 => ?_) (fun hb16 => ?_)
 simp [encE_mk, encTy_def] at hb16
 refine sr fun Z z => ?_
 simp [encE_mk, encTy_def, hb16]
 refine z _ ?_
 clear z Z
 refine AT_ret ?_
 refine ⟨by rw [goE_at]; simpa using hb16, by first | rfl | simp [tmOk], [2], by first | rfl | simp, ?_⟩
 refine AT_ret ?_
 simp [encE_mk, encTy_def, Tryd.f10]
 (· have hz : rightE e = false := by rw [rightE_all, List.all_eq_false]; exact ⟨_, hn, by simpa using hb16⟩
    simp [hz, AS.out])
 simp [encE_mk, encTy_def] at hb16
 refine AT_skip ?_
 refine ⟨by rw [goE_at]; simpa using hb16, by first | rfl | simp [tmOk], [2], by first | rfl | simp, ?_⟩
 simp [AS.out]
 intro hfin
 rw [feedG_goE, ← rightE_all] at hfin
 refine hK1 _ ?_
 refine sr fun Z z => ?_
 simp [encE_mk, encTy_def]
 refine z _ ?_
 clear z Z
 refine AT_ret ?_
 simp [encE_mk, encTy_def, Tryd.f10]
 (· simp [hfin])

theorem c_expr_Right (e : Exp) (hw : wtE e ≤ 400000000) (hres : g 0 = some reservedA) : Valid Tryd.prog (G0 g rnd) 10 [.agg (encE e)] (.bool (rightE e)) := (c_expr_Right_z g e hw hres).gl rfl

end Go.Proofs.YtjkabaejabibnaaDoor
end

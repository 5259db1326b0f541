import Derived.Test.YtfgafcjebfjepaaGreatDoorPt
import Derived.Test.YtfgafcjebfjepaaGreatDoorPvPb
import Derived.Test.YtfgafcjebfjepaaGreatDoorPvLa
import Derived.Test.YtfgafcjebfjepaaGreatDoorXQaC
import Derived.Test.YtfgafcjebfjepaaGreatDoorXRdH
import Derived.Test.YtfgafcjebfjepaaGreatDoorPvHe
import Derived.Test.YtfgafcjebfjepaaGreatDoorPvMc
import Derived.Test.YtfgafcjebfjepaaGreatDoorXExA
import Derived.Test.YtfgafcjebfjepaaGreatDoorPvDc
import Derived.Test.YtfgafcjebfjepaaGreatDoorXTyD
section
/- Contracts: castingsref08: whole texts. -/
set_option linter.all false
set_option maxHeartbeats 1000000
set_option maxRecDepth 10000
namespace Go.Proofs.YtfgafcjebfjepaaGreatDoor
open Go Go.Pv
variable (g : Nat → Option (List AV)) (rnd : Bool)

theorem c_ref08x_Program (s : Str) (hs : s.length ≤ 1000000) : Valid Tryz.prog (G0 g false) 10 [.str s] (.tup [.agg (encPg (wholeR pg0 rpR s).1), .int .i64 (wholeR pg0 rpR s).2.1, .int .i64 (wholeR pg0 rpR s).2.2]) := by

 refine valid_of [(108000, 45)] Tryz.func10 rfl (by kernel_rfl) ?_
 refine sr fun Z z => ?_
 simp [encP, encPg, pg0, ex0, ty0, Tryz.f10]
 refine z _ ?_
 clear z Z
 rcases hx : lexT s with ⟨_ | l, m⟩
 refine sr fun Z z => ?_
 simp [encP, encPg, pg0, ex0, ty0]
 refine RVn_call ((by have h := c_ref07x_Begin g s hs; rw [hx] at h; simp only [encP] at h; exact h)) ?_
 simp [encP, encPg, pg0, ex0, ty0]
 refine z _ ?_
 clear z Z
 refine AT_seq_k fun K1 hK1 => ?_
 refine sr fun Z z => ?_
 simp [encP, encPg, pg0, ex0, ty0]
 refine z _ ?_
 clear z Z
 refine cT (by simp) ?_
 refine sr fun Z z => ?_
 simp [encP, encPg, pg0, ex0, ty0]
 refine z _ ?_
 clear z Z
 refine AT_ret ?_
 simp [encP, encPg, pg0, ex0, ty0, Tryz.f10]
 (· simp [wholeR, hx, encPg, pg0, ex0, ty0, encTy_def, encE_mk, encE_def, encD, encG, encP])
 obtain ⟨hsl, hll, hlt⟩ := lexT_bounds hx
 have hE := lexT_ends hx
 have hn : l.length ≤ 1000000 := by omega
 have hk0 : (⟨0, false⟩ : Pl).k < l.length := hE.1
 have h0 := g_words hE [wPackage, wMain, [59]] _ hk0
 refine sr fun Z z => ?_
 simp [encP, encPg, pg0, ex0, ty0]
 refine RVn_call ((by have h := c_ref07x_Begin g s hs; rw [hx] at h; simp only [encP] at h; exact h)) ?_
 simp [encP, encPg, pg0, ex0, ty0]
 refine z _ ?_
 clear z Z
 refine AT_seq_k fun K2 hK2 => ?_
 refine sr fun Z z => ?_
 simp [encP, encPg, pg0, ex0, ty0]
 refine z _ ?_
 clear z Z
 refine cF (by simp) ?_
 refine AT_skip ?_
 refine hK2 _ ?_
 refine sr fun Z z => ?_
 simp [encP, encPg, pg0, ex0, ty0]
 refine z _ ?_
 clear z Z
 refine sr fun Z z => ?_
 simp [encP, encPg, pg0, ex0, ty0]
 refine RVn_call ((by have h := c_ref08x_words g l hE hn ⟨0, false⟩ hk0 [wPackage, wMain, [59]] (by decide); simp only [encP] at h; first | exact h | (simp only [hub] at h; exact h) | (simp only [hnb] at h; exact h) | (rw [hb] at h; exact h))) ?_
 simp [encP, encPg, pg0, ex0, ty0]
 refine z _ ?_
 clear z Z
 refine AT_seq_k fun K3 hK3 => ?_
 refine AT_block ?_
 refine AT_loop_q [2,5,8] [2,5,8] (fun j s9 => ∃ u acc m, (declsR l (typeR l (l.length + 1)) (exprR l (l.length + 1)) (wordsR l [wPackage, wMain, [59]] ⟨0, false⟩)) = (acc ++ (declsL l (typeR l (l.length + 1)) (exprR l (l.length + 1)) m u).1, (declsL l (typeR l (l.length + 1)) (exprR l (l.length + 1)) m u).2) ∧ (u.k < l.length ∧ (u.bad = false → l.length - u.k ≤ m) ∧ acc.length + m ≤ l.length) ∧ j = m ∧ s9 = { n := 85, tm := [(2, .lp 2 0), (5, .lp 5 0), (8, .lp 8 0)], bx := [(2, encPg pg0), (5, encP l u), (8, encPg ⟨acc, ex0⟩)], tb := [(8, 0, 108000, 45)], sh := [], hint := [(108000, 45)] }) (l.length - (wordsR l [wPackage, wMain, [59]] ⟨0, false⟩).k) (by first | rfl | simp) ?_ ?_
 exact ⟨(wordsR l [wPackage, wMain, [59]] ⟨0, false⟩), [], l.length - (wordsR l [wPackage, wMain, [59]] ⟨0, false⟩).k, by simp [declsR], ⟨h0.2, fun _ => Nat.le_refl _, by simp⟩, rfl, by simp [encPg, pg0, ex0, ty0, encTy_def, encE_mk, encE_def, encD, encG, encP]⟩
 rintro j s9 ⟨u, acc, m, hq, ⟨hu1, hu2, hu3⟩, hjm, rfl⟩ K4 hK4
 subst hjm
 have hgt := g_typed hE u hu1
 have hgm := g_method hE u hu1
 refine AT_seq_k fun K5 hK5 => ?_
 cases hub : u.bad
 have hu4 := hu2 hub
 obtain ⟨m, rfl⟩ : ∃ i, j = i + 1 := ⟨j - 1, by omega⟩
 refine sr fun Z z => ?_
 simp [encP, encPg, pg0, ex0, ty0, hub]
 refine z _ ?_
 clear z Z
 refine cT (by simp [hub]) ?_
 refine AT_skip ?_
 refine hK5 _ ?_
 refine AT_block ?_
 refine sr fun Z z => ?_
 simp [encP, encPg, pg0, ex0, ty0, hub]
 refine z _ ?_
 clear z Z
 refine AT_seq_k fun K6 hK6 => ?_
 cases hty : u.is l wType
 refine sr fun Z z => ?_
 simp [encP, encPg, pg0, ex0, ty0, hub, hty]
 refine RVn_call ((by have h := c_ref07x_Is g l hn u hu1 wType; simp only [encP] at h; first | exact h | (simp only [hub] at h; exact h) | (simp only [hnb] at h; exact h) | (rw [hb] at h; exact h))) ?_
 simp [encP, encPg, pg0, ex0, ty0, hub, hty]
 refine z _ ?_
 clear z Z
 refine cF (by simp [hub, hty]) ?_
 refine sr fun Z z => ?_
 simp [encP, encPg, pg0, ex0, ty0, hub, hty]
 refine z _ ?_
 clear z Z
 refine sr fun Z z => ?_
 simp [encP, encPg, pg0, ex0, ty0, hub, hty]
 repeat refine sg ?_
 refine z _ ?_
 clear z Z
 refine AT_seq_k fun K7 hK7 => ?_
 cases hfn : u.is l wFunc
 have hz : (declsR l (typeR l (l.length + 1)) (exprR l (l.length + 1)) (wordsR l [wPackage, wMain, [59]] ⟨0, false⟩)) = (acc, u) := by rw [hq, declsL_end _ hty (by rw [hfn]; rfl)]; simp
 have hpr : rpR l = (⟨acc, (exR (exprR l (l.length + 1)) (wordsR l [wFunc, wMain, [40], [41], [123], [95], [61]] u)).1⟩, ((exR (exprR l (l.length + 1)) (wordsR l [wFunc, wMain, [40], [41], [123], [95], [61]] u)).2.must l [125])) := by
   unfold rpR programR
   simp only [hz]
 have h15 := g_words hE [wFunc, wMain, [40], [41], [123], [95], [61]] u hu1
 have h17 := g_ex hE _ h15.2
 have h18 := Pl.must_lt hE [125] h17.2
 refine sr fun Z z => ?_
 simp [encP, encPg, pg0, ex0, ty0, hub, hty, hfn]
 refine RVn_call ((by have h := c_ref07x_Is g l hn u hu1 wFunc; simp only [encP] at h; first | exact h | (simp only [hub] at h; exact h) | (simp only [hnb] at h; exact h) | (rw [hb] at h; exact h))) ?_
 simp [encP, encPg, pg0, ex0, ty0, hub, hty, hfn]
 repeat refine sg ?_
 refine z _ ?_
 clear z Z
 refine cT (by simp [hub, hty, hfn]) ?_
 refine AT_exit ?_
 refine hK3 _ ?_
 refine sr fun Z z => ?_
 simp [encP, encPg, pg0, ex0, ty0, hub, hty, hfn]
 refine RVn_call ((by have h := c_ref08x_words g l hE hn u hu1 [wFunc, wMain, [40], [41], [123], [95], [61]] (by decide); simp only [encP] at h; first | exact h | (simp only [hub] at h; exact h) | (simp only [hnb] at h; exact h) | (rw [hb] at h; exact h))) ?_
 simp [encP, encPg, pg0, ex0, ty0, hub, hty, hfn]
 refine z _ ?_
 clear z Z
 refine AT_seq_k fun K8 hK8 => ?_
 cases hb : (wordsR l [wFunc, wMain, [40], [41], [123], [95], [61]] u).bad
 have hex := exR_ok (rE := (exprR l (l.length + 1))) hb
 refine sr fun Z z => ?_
 simp [encP, encPg, pg0, ex0, ty0, hub, hty, hfn, hb]
 refine z _ ?_
 clear z Z
 refine cT (by simp [hub, hty, hfn, hb]) ?_
 refine AT_region_q fun Z z => ?_
 simp [encP, encPg, pg0, ex0, ty0, encE_def, hub, hty, hfn, hb]
 refine RVn_call ((by have h := c_ref07x_Expr g l hE hn (fun t ht => by have := hlt t ht; omega) (l.length + 1) (wordsR l [wFunc, wMain, [40], [41], [123], [95], [61]] u) (by omega) h15.2; simp only [encP] at h; first | exact h | (simp only [hub] at h; exact h) | (simp only [hnb] at h; exact h) | (rw [hb] at h; exact h))) ?_
 simp [encP, encPg, pg0, ex0, ty0, encE_def, hub, hty, hfn, hb]
 refine z _ ?_
 clear z Z
 refine hK8 _ ?_
 refine sr fun Z z => ?_
 simp [encP, encPg, pg0, ex0, ty0, hub, hty, hfn, hb]
 refine RVn_call ((by have h := c_ref07x_Must g l hn (exR (exprR l (l.length + 1)) (wordsR l [wFunc, wMain, [40], [41], [123], [95], [61]] u)).2 h17.2 [125]; rw [hex] at h; simp only [encP] at h; first | exact h | (simp only [hub] at h; exact h) | (simp only [hnb] at h; exact h) | (rw [hb] at h; exact h))) ?_
 simp [encP, encPg, pg0, ex0, ty0, hub, hty, hfn, hb]
 refine z _ ?_
 clear z Z
 refine sr fun Z z => ?_
 obtain ⟨f9, hf9⟩ : ∃ f9, f9 = finR l ((exR (exprR l (l.length + 1)) (wordsR l [wFunc, wMain, [40], [41], [123], [95], [61]] u)).2.must l [125]) := ⟨_, rfl⟩
 simp [encP, encPg, pg0, ex0, ty0, hub, hty, hfn, hb]
 refine RVn_call ((by have h := c_ref07x_Finish g l hn ((exR (exprR l (l.length + 1)) (wordsR l [wFunc, wMain, [40], [41], [123], [95], [61]] u)).2.must l [125]) h18.2; rw [← hf9] at h; rw [hex] at h; simp only [encP] at h; first | exact h | (simp only [hub] at h; exact h) | (simp only [hnb] at h; exact h) | (rw [hb] at h; exact h))) ?_
 simp [encP, encPg, pg0, ex0, ty0, hub, hty, hfn, hb]
 refine z _ ?_
 clear z Z
 refine AT_seq_k fun K9 hK9 => ?_
 by_cases h0 : f9.1 = 0
 refine sr fun Z z => ?_
 simp [encP, encPg, pg0, ex0, ty0, hub, hty, hfn, hb, h0]
 refine z _ ?_
 clear z Z
 refine cF (by simp [hub, hty, hfn, hb, h0]) ?_
 refine AT_skip ?_
 refine hK9 _ ?_
 refine sr fun Z z => ?_
 simp [encP, encPg, pg0, ex0, ty0, hub, hty, hfn, hb, h0]
 refine z _ ?_
 clear z Z
 refine AT_ret ?_
 simp [encP, encPg, pg0, ex0, ty0, Tryz.f10]
 (· have hw : wholeR pg0 rpR s = (⟨acc, (exR (exprR l (l.length + 1)) (wordsR l [wFunc, wMain, [40], [41], [123], [95], [61]] u)).1⟩, 0, 0) := (by unfold wholeR; rw [hx]; simp only [hpr, ← hf9, h0, if_true]); rw [hex] at hw; simp only [pg0, ex0, ty0] at hw; simp [hw, encPg, pg0, ex0, ty0, encTy_def, encE_mk, encE_def, encD, encG, encP])
 refine sr fun Z z => ?_
 simp [encP, encPg, pg0, ex0, ty0, hub, hty, hfn, hb, h0]
 refine z _ ?_
 clear z Z
 refine cT (by simp [hub, hty, hfn, hb, h0]) ?_
 refine sr fun Z z => ?_
 simp [encP, encPg, pg0, ex0, ty0, hub, hty, hfn, hb, h0]
 refine z _ ?_
 clear z Z
 refine AT_ret ?_
 simp [encP, encPg, pg0, ex0, ty0, Tryz.f10]
 (· have hw : wholeR pg0 rpR s = (pg0, f9.1, f9.2) := (by unfold wholeR; rw [hx]; simp only [hpr, ← hf9, if_neg h0]); simp only [pg0, ex0, ty0] at hw; simp [hw, encPg, pg0, ex0, ty0, encTy_def, encE_mk, encE_def, encD, encG, encP])
 have hex := exR_no (rE := (exprR l (l.length + 1))) hb
 refine sr fun Z z => ?_
 simp [encP, encPg, pg0, ex0, ty0, hub, hty, hfn, hb]
 refine z _ ?_
 clear z Z
 refine cF (by simp [hub, hty, hfn, hb]) ?_
 refine AT_skip ?_
 refine hK8 _ ?_
 refine sr fun Z z => ?_
 simp [encP, encPg, pg0, ex0, ty0, hub, hty, hfn, hb]
 refine RVn_call ((by have h := c_ref07x_Must g l hn (exR (exprR l (l.length + 1)) (wordsR l [wFunc, wMain, [40], [41], [123], [95], [61]] u)).2 h17.2 [125]; rw [hex] at h; simp only [encP] at h; first | exact h | (simp only [hub] at h; exact h) | (simp only [hnb] at h; exact h) | (rw [hb] at h; exact h))) ?_
 simp [encP, encPg, pg0, ex0, ty0, hub, hty, hfn, hb]
 refine z _ ?_
 clear z Z
 refine sr fun Z z => ?_
 obtain ⟨f9, hf9⟩ : ∃ f9, f9 = finR l ((exR (exprR l (l.length + 1)) (wordsR l [wFunc, wMain, [40], [41], [123], [95], [61]] u)).2.must l [125]) := ⟨_, rfl⟩
 simp [encP, encPg, pg0, ex0, ty0, hub, hty, hfn, hb]
 refine RVn_call ((by have h := c_ref07x_Finish g l hn ((exR (exprR l (l.length + 1)) (wordsR l [wFunc, wMain, [40], [41], [123], [95], [61]] u)).2.must l [125]) h18.2; rw [← hf9] at h; rw [hex] at h; simp only [encP] at h; first | exact h | (simp only [hub] at h; exact h) | (simp only [hnb] at h; exact h) | (rw [hb] at h; exact h))) ?_
 simp [encP, encPg, pg0, ex0, ty0, hub, hty, hfn, hb]
 refine z _ ?_
 clear z Z
 refine AT_seq_k fun K10 hK10 => ?_
 by_cases h0 : f9.1 = 0
 refine sr fun Z z => ?_
 simp [encP, encPg, pg0, ex0, ty0, hub, hty, hfn, hb, h0]
 refine z _ ?_
 clear z Z
 refine cF (by simp [hub, hty, hfn, hb, h0]) ?_
 refine AT_skip ?_
 refine hK10 _ ?_
 refine sr fun Z z => ?_
 simp [encP, encPg, pg0, ex0, ty0, hub, hty, hfn, hb, h0]
 refine z _ ?_
 clear z Z
 refine AT_ret ?_
 simp [encP, encPg, pg0, ex0, ty0, Tryz.f10]
 (· have hw : wholeR pg0 rpR s = (⟨acc, (exR (exprR l (l.length + 1)) (wordsR l [wFunc, wMain, [40], [41], [123], [95], [61]] u)).1⟩, 0, 0) := (by unfold wholeR; rw [hx]; simp only [hpr, ← hf9, h0, if_true]); rw [hex] at hw; simp only [pg0, ex0, ty0] at hw; simp [hw, encPg, pg0, ex0, ty0, encTy_def, encE_mk, encE_def, encD, encG, encP])
 refine sr fun Z z => ?_
 simp [encP, encPg, pg0, ex0, ty0, hub, hty, hfn, hb, h0]
 refine z _ ?_
 clear z Z
 refine cT (by simp [hub, hty, hfn, hb, h0]) ?_
 refine sr fun Z z => ?_
 simp [encP, encPg, pg0, ex0, ty0, hub, hty, hfn, hb, h0]
 refine z _ ?_
 clear z Z
 refine AT_ret ?_
 simp [encP, encPg, pg0, ex0, ty0, Tryz.f10]
 (· have hw : wholeR pg0 rpR s = (pg0, f9.1, f9.2) := (by unfold wholeR; rw [hx]; simp only [hpr, ← hf9, if_neg h0]); simp only [pg0, ex0, ty0] at hw; simp [hw, encPg, pg0, ex0, ty0, encTy_def, encE_mk, encE_def, encD, encG, encP])
 have hua : u.adv.k < l.length := Pl.adv_lt hE hu1 hfn
 cases hmn : u.adv.is l wMain
 refine sr fun Z z => ?_
 simp [encP, encPg, pg0, ex0, ty0, hub, hty, hfn, hmn]
 refine RVn_call ((by have h := c_ref07x_Is g l hn u hu1 wFunc; simp only [encP] at h; first | exact h | (simp only [hub] at h; exact h) | (simp only [hnb] at h; exact h) | (rw [hb] at h; exact h))) ?_
 simp [encP, encPg, pg0, ex0, ty0, hub, hty, hfn, hmn]
 repeat refine sg ?_
 refine RVn_call ((by have h := c_ref07x_Is g l hn u.adv hua wMain; rw [hmn] at h; simp only [encP, Pl.adv] at h; first | exact h | (simp only [hub] at h; exact h) | (simp only [hnb] at h; exact h) | (rw [hb] at h; exact h))) ?_
 simp [encP, encPg, pg0, ex0, ty0, hub, hty, hfn, hmn]
 repeat refine sg ?_
 refine z _ ?_
 clear z Z
 refine cF (by simp [hub, hty, hfn, hmn]) ?_
 refine AT_skip ?_
 refine hK7 _ ?_
 refine AT_region_q fun Z z => ?_
 simp [encP, encPg, pg0, ex0, ty0, hub, hty, hfn, hmn]
 refine RVn_call ((by have h := c_ref08x_method g l hE hn (fun t ht => by have := hlt t ht; omega) u hu1; simp only [encP] at h; first | exact h | (simp only [hub] at h; exact h) | (simp only [hnb] at h; exact h) | (rw [hb] at h; exact h))) ?_
 simp [encP, encPg, pg0, ex0, ty0, hub, hty, hfn, hmn]
 refine z _ ?_
 clear z Z
 refine hK6 _ ?_
 refine AT_region_q fun Z z => ?_
 simp [encP, encPg, pg0, ex0, ty0, hub, hty, hfn, hmn]
 repeat refine sg ?_
 refine z _ ?_
 clear z Z
 refine hK4 _ (by first | rfl | simp) (m) (by omega) ?_
 (· have hk9 := congrArg Pl.k (must_yes hfn)
    have hk8 : u.adv.k = u.k + 1 := rfl
    refine ⟨(methodR l (typeR l (l.length + 1)) (exprR l (l.length + 1)) u).2, acc ++ [(methodR l (typeR l (l.length + 1)) (exprR l (l.length + 1)) u).1], m, by rw [hq, declsL_func _ hty hfn hmn]; simp, ⟨hgm.2, fun _ => by omega, by simp; omega⟩, rfl, by simp [encPg, pg0, ex0, ty0, encTy_def, encE_mk, encE_def, encD, encG, encP]⟩)
 have hz : (declsR l (typeR l (l.length + 1)) (exprR l (l.length + 1)) (wordsR l [wPackage, wMain, [59]] ⟨0, false⟩)) = (acc, u) := by rw [hq, declsL_end _ hty (by rw [hfn, hmn]; rfl)]; simp
 have hpr : rpR l = (⟨acc, (exR (exprR l (l.length + 1)) (wordsR l [wFunc, wMain, [40], [41], [123], [95], [61]] u)).1⟩, ((exR (exprR l (l.length + 1)) (wordsR l [wFunc, wMain, [40], [41], [123], [95], [61]] u)).2.must l [125])) := by
   unfold rpR programR
   simp only [hz]
 have h15 := g_words hE [wFunc, wMain, [40], [41], [123], [95], [61]] u hu1
 have h17 := g_ex hE _ h15.2
 have h18 := Pl.must_lt hE [125] h17.2
 refine sr fun Z z => ?_
 simp [encP, encPg, pg0, ex0, ty0, hub, hty, hfn, hmn]
 refine RVn_call ((by have h := c_ref07x_Is g l hn u hu1 wFunc; simp only [encP] at h; first | exact h | (simp only [hub] at h; exact h) | (simp only [hnb] at h; exact h) | (rw [hb] at h; exact h))) ?_
 simp [encP, encPg, pg0, ex0, ty0, hub, hty, hfn, hmn]
 repeat refine sg ?_
 refine RVn_call ((by have h := c_ref07x_Is g l hn u.adv hua wMain; rw [hmn] at h; simp only [encP, Pl.adv] at h; first | exact h | (simp only [hub] at h; exact h) | (simp only [hnb] at h; exact h) | (rw [hb] at h; exact h))) ?_
 simp [encP, encPg, pg0, ex0, ty0, hub, hty, hfn, hmn]
 repeat refine sg ?_
 refine z _ ?_
 clear z Z
 refine cT (by simp [hub, hty, hfn, hmn]) ?_
 refine AT_exit ?_
 refine hK3 _ ?_
 refine sr fun Z z => ?_
 simp [encP, encPg, pg0, ex0, ty0, hub, hty, hfn, hmn]
 refine RVn_call ((by have h := c_ref08x_words g l hE hn u hu1 [wFunc, wMain, [40], [41], [123], [95], [61]] (by decide); simp only [encP] at h; first | exact h | (simp only [hub] at h; exact h) | (simp only [hnb] at h; exact h) | (rw [hb] at h; exact h))) ?_
 simp [encP, encPg, pg0, ex0, ty0, hub, hty, hfn, hmn]
 refine z _ ?_
 clear z Z
 refine AT_seq_k fun K11 hK11 => ?_
 cases hb : (wordsR l [wFunc, wMain, [40], [41], [123], [95], [61]] u).bad
 have hex := exR_ok (rE := (exprR l (l.length + 1))) hb
 refine sr fun Z z => ?_
 simp [encP, encPg, pg0, ex0, ty0, hub, hty, hfn, hmn, hb]
 refine z _ ?_
 clear z Z
 refine cT (by simp [hub, hty, hfn, hmn, hb]) ?_
 refine AT_region_q fun Z z => ?_
 simp [encP, encPg, pg0, ex0, ty0, encE_def, hub, hty, hfn, hmn, hb]
 refine RVn_call ((by have h := c_ref07x_Expr g l hE hn (fun t ht => by have := hlt t ht; omega) (l.length + 1) (wordsR l [wFunc, wMain, [40], [41], [123], [95], [61]] u) (by omega) h15.2; simp only [encP] at h; first | exact h | (simp only [hub] at h; exact h) | (simp only [hnb] at h; exact h) | (rw [hb] at h; exact h))) ?_
 simp [encP, encPg, pg0, ex0, ty0, encE_def, hub, hty, hfn, hmn, hb]
 refine z _ ?_
 clear z Z
 refine hK11 _ ?_
 refine sr fun Z z => ?_
 simp [encP, encPg, pg0, ex0, ty0, hub, hty, hfn, hmn, hb]
 refine RVn_call ((by have h := c_ref07x_Must g l hn (exR (exprR l (l.length + 1)) (wordsR l [wFunc, wMain, [40], [41], [123], [95], [61]] u)).2 h17.2 [125]; rw [hex] at h; simp only [encP] at h; first | exact h | (simp only [hub] at h; exact h) | (simp only [hnb] at h; exact h) | (rw [hb] at h; exact h))) ?_
 simp [encP, encPg, pg0, ex0, ty0, hub, hty, hfn, hmn, hb]
 refine z _ ?_
 clear z Z
 refine sr fun Z z => ?_
 obtain ⟨f9, hf9⟩ : ∃ f9, f9 = finR l ((exR (exprR l (l.length + 1)) (wordsR l [wFunc, wMain, [40], [41], [123], [95], [61]] u)).2.must l [125]) := ⟨_, rfl⟩
 simp [encP, encPg, pg0, ex0, ty0, hub, hty, hfn, hmn, hb]
 refine RVn_call ((by have h := c_ref07x_Finish g l hn ((exR (exprR l (l.length + 1)) (wordsR l [wFunc, wMain, [40], [41], [123], [95], [61]] u)).2.must l [125]) h18.2; rw [← hf9] at h; rw [hex] at h; simp only [encP] at h; first | exact h | (simp only [hub] at h; exact h) | (simp only [hnb] at h; exact h) | (rw [hb] at h; exact h))) ?_
 simp [encP, encPg, pg0, ex0, ty0, hub, hty, hfn, hmn, hb]
 refine z _ ?_
 clear z Z
 refine AT_seq_k fun K12 hK12 => ?_
 by_cases h0 : f9.1 = 0
 refine sr fun Z z => ?_
 simp [encP, encPg, pg0, ex0, ty0, hub, hty, hfn, hmn, hb, h0]
 refine z _ ?_
 clear z Z
 refine cF (by simp [hub, hty, hfn, hmn, hb, h0]) ?_
 refine AT_skip ?_
 refine hK12 _ ?_
 refine sr fun Z z => ?_
 simp [encP, encPg, pg0, ex0, ty0, hub, hty, hfn, hmn, hb, h0]
 refine z _ ?_
 clear z Z
 refine AT_ret ?_
 simp [encP, encPg, pg0, ex0, ty0, Tryz.f10]
 (· have hw : wholeR pg0 rpR s = (⟨acc, (exR (exprR l (l.length + 1)) (wordsR l [wFunc, wMain, [40], [41], [123], [95], [61]] u)).1⟩, 0, 0) := (by unfold wholeR; rw [hx]; simp only [hpr, ← hf9, h0, if_true]); rw [hex] at hw; simp only [pg0, ex0, ty0] at hw; simp [hw, encPg, pg0, ex0, ty0, encTy_def, encE_mk, encE_def, encD, encG, encP])
 refine sr fun Z z => ?_
 simp [encP, encPg, pg0, ex0, ty0, hub, hty, hfn, hmn, hb, h0]
 refine z _ ?_
 clear z Z
 refine cT (by simp [hub, hty, hfn, hmn, hb, h0]) ?_
 refine sr fun Z z => ?_
 simp [encP, encPg, pg0, ex0, ty0, hub, hty, hfn, hmn, hb, h0]
 refine z _ ?_
 clear z Z
 refine AT_ret ?_
 simp [encP, encPg, pg0, ex0, ty0, Tryz.f10]
 (· have hw : wholeR pg0 rpR s = (pg0, f9.1, f9.2) := (by unfold wholeR; rw [hx]; simp only [hpr, ← hf9, if_neg h0]); simp only [pg0, ex0, ty0] at hw; simp [hw, encPg, pg0, ex0, ty0, encTy_def, encE_mk, encE_def, encD, encG, encP])
 have hex := exR_no (rE := (exprR l (l.length + 1))) hb
 refine sr fun Z z => ?_
 simp [encP, encPg, pg0, ex0, ty0, hub, hty, hfn, hmn, hb]
 refine z _ ?_
 clear z Z
 refine cF (by simp [hub, hty, hfn, hmn, hb]) ?_
 refine AT_skip ?_
 refine hK11 _ ?_
 refine sr fun Z z => ?_
 simp [encP, encPg, pg0, ex0, ty0, hub, hty, hfn, hmn, hb]
 refine RVn_call ((by have h := c_ref07x_Must g l hn (exR (exprR l (l.length + 1)) (wordsR l [wFunc, wMain, [40], [41], [123], [95], [61]] u)).2 h17.2 [125]; rw [hex] at h; simp only [encP] at h; first | exact h | (simp only [hub] at h; exact h) | (simp only [hnb] at h; exact h) | (rw [hb] at h; exact h))) ?_
 simp [encP, encPg, pg0, ex0, ty0, hub, hty, hfn, hmn, hb]
 refine z _ ?_
 clear z Z
 refine sr fun Z z => ?_
 obtain ⟨f9, hf9⟩ : ∃ f9, f9 = finR l ((exR (exprR l (l.length + 1)) (wordsR l [wFunc, wMain, [40], [41], [123], [95], [61]] u)).2.must l [125]) := ⟨_, rfl⟩
 simp [encP, encPg, pg0, ex0, ty0, hub, hty, hfn, hmn, hb]
 refine RVn_call ((by have h := c_ref07x_Finish g l hn ((exR (exprR l (l.length + 1)) (wordsR l [wFunc, wMain, [40], [41], [123], [95], [61]] u)).2.must l [125]) h18.2; rw [← hf9] at h; rw [hex] at h; simp only [encP] at h; first | exact h | (simp only [hub] at h; exact h) | (simp only [hnb] at h; exact h) | (rw [hb] at h; exact h))) ?_
 simp [encP, encPg, pg0, ex0, ty0, hub, hty, hfn, hmn, hb]
 refine z _ ?_
 clear z Z
 refine AT_seq_k fun K13 hK13 => ?_
 by_cases h0 : f9.1 = 0
 refine sr fun Z z => ?_
 simp [encP, encPg, pg0, ex0, ty0, hub, hty, hfn, hmn, hb, h0]
 refine z _ ?_
 clear z Z
 refine cF (by simp [hub, hty, hfn, hmn, hb, h0]) ?_
 refine AT_skip ?_
 refine hK13 _ ?_
 refine sr fun Z z => ?_
 simp [encP, encPg, pg0, ex0, ty0, hub, hty, hfn, hmn, hb, h0]
 refine z _ ?_
 clear z Z
 refine AT_ret ?_
 simp [encP, encPg, pg0, ex0, ty0, Tryz.f10]
 (· have hw : wholeR pg0 rpR s = (⟨acc, (exR (exprR l (l.length + 1)) (wordsR l [wFunc, wMain, [40], [41], [123], [95], [61]] u)).1⟩, 0, 0) := (by unfold wholeR; rw [hx]; simp only [hpr, ← hf9, h0, if_true]); rw [hex] at hw; simp only [pg0, ex0, ty0] at hw; simp [hw, encPg, pg0, ex0, ty0, encTy_def, encE_mk, encE_def, encD, encG, encP])
 refine sr fun Z z => ?_
 simp [encP, encPg, pg0, ex0, ty0, hub, hty, hfn, hmn, hb, h0]
 refine z _ ?_
 clear z Z
 refine cT (by simp [hub, hty, hfn, hmn, hb, h0]) ?_
 refine sr fun Z z => ?_
 simp [encP, encPg, pg0, ex0, ty0, hub, hty, hfn, hmn, hb, h0]
 refine z _ ?_
 clear z Z
 refine AT_ret ?_
 simp [encP, encPg, pg0, ex0, ty0, Tryz.f10]
 (· have hw : wholeR pg0 rpR s = (pg0, f9.1, f9.2) := (by unfold wholeR; rw [hx]; simp only [hpr, ← hf9, if_neg h0]); simp only [pg0, ex0, ty0] at hw; simp [hw, encPg, pg0, ex0, ty0, encTy_def, encE_mk, encE_def, encD, encG, encP])
 refine sr fun Z z => ?_
 simp [encP, encPg, pg0, ex0, ty0, hub, hty]
 refine RVn_call ((by have h := c_ref07x_Is g l hn u hu1 wType; simp only [encP] at h; first | exact h | (simp only [hub] at h; exact h) | (simp only [hnb] at h; exact h) | (rw [hb] at h; exact h))) ?_
 simp [encP, encPg, pg0, ex0, ty0, hub, hty]
 refine z _ ?_
 clear z Z
 refine cT (by simp [hub, hty]) ?_
 refine AT_region_q fun Z z => ?_
 simp [encP, encPg, pg0, ex0, ty0, hub, hty]
 refine RVn_call ((by have h := c_ref08x_typed g l hE hn (fun t ht => by have := hlt t ht; omega) u hu1; simp only [encP] at h; first | exact h | (simp only [hub] at h; exact h) | (simp only [hnb] at h; exact h) | (rw [hb] at h; exact h))) ?_
 simp [encP, encPg, pg0, ex0, ty0, hub, hty]
 refine z _ ?_
 clear z Z
 refine hK6 _ ?_
 refine AT_region_q fun Z z => ?_
 simp [encP, encPg, pg0, ex0, ty0, hub, hty]
 repeat refine sg ?_
 refine z _ ?_
 clear z Z
 refine hK4 _ (by first | rfl | simp) (m) (by omega) ?_
 (· have hk9 := congrArg Pl.k (must_yes hty)
    have hk8 : u.adv.k = u.k + 1 := rfl
    refine ⟨(typedR l (typeR l (l.length + 1)) u).2, acc ++ [(typedR l (typeR l (l.length + 1)) u).1], m, by rw [hq, declsL_type _ hty]; simp, ⟨hgt.2, fun _ => by omega, by simp; omega⟩, rfl, by simp [encPg, pg0, ex0, ty0, encTy_def, encE_mk, encE_def, encD, encG, encP]⟩)
 have hz : (declsR l (typeR l (l.length + 1)) (exprR l (l.length + 1)) (wordsR l [wPackage, wMain, [59]] ⟨0, false⟩)) = (acc, u) := by rw [hq, declsL_bad _ hub]; simp
 have hpr : rpR l = (⟨acc, (exR (exprR l (l.length + 1)) (wordsR l [wFunc, wMain, [40], [41], [123], [95], [61]] u)).1⟩, ((exR (exprR l (l.length + 1)) (wordsR l [wFunc, wMain, [40], [41], [123], [95], [61]] u)).2.must l [125])) := by
   unfold rpR programR
   simp only [hz]
 have h15 := g_words hE [wFunc, wMain, [40], [41], [123], [95], [61]] u hu1
 have h17 := g_ex hE _ h15.2
 have h18 := Pl.must_lt hE [125] h17.2
 refine sr fun Z z => ?_
 simp [encP, encPg, pg0, ex0, ty0, hub]
 refine z _ ?_
 clear z Z
 refine cF (by simp [hub]) ?_
 refine AT_exit ?_
 refine hK3 _ ?_
 refine sr fun Z z => ?_
 simp [encP, encPg, pg0, ex0, ty0, hub]
 refine RVn_call ((by have h := c_ref08x_words g l hE hn u hu1 [wFunc, wMain, [40], [41], [123], [95], [61]] (by decide); simp only [encP] at h; first | exact h | (simp only [hub] at h; exact h) | (simp only [hnb] at h; exact h) | (rw [hb] at h; exact h))) ?_
 simp [encP, encPg, pg0, ex0, ty0, hub]
 refine z _ ?_
 clear z Z
 refine AT_seq_k fun K14 hK14 => ?_
 cases hb : (wordsR l [wFunc, wMain, [40], [41], [123], [95], [61]] u).bad
 have hex := exR_ok (rE := (exprR l (l.length + 1))) hb
 refine sr fun Z z => ?_
 simp [encP, encPg, pg0, ex0, ty0, hub, hb]
 refine z _ ?_
 clear z Z
 refine cT (by simp [hub, hb]) ?_
 refine AT_region_q fun Z z => ?_
 simp [encP, encPg, pg0, ex0, ty0, encE_def, hub, hb]
 refine RVn_call ((by have h := c_ref07x_Expr g l hE hn (fun t ht => by have := hlt t ht; omega) (l.length + 1) (wordsR l [wFunc, wMain, [40], [41], [123], [95], [61]] u) (by omega) h15.2; simp only [encP] at h; first | exact h | (simp only [hub] at h; exact h) | (simp only [hnb] at h; exact h) | (rw [hb] at h; exact h))) ?_
 simp [encP, encPg, pg0, ex0, ty0, encE_def, hub, hb]
 refine z _ ?_
 clear z Z
 refine hK14 _ ?_
 refine sr fun Z z => ?_
 simp [encP, encPg, pg0, ex0, ty0, hub, hb]
 refine RVn_call ((by have h := c_ref07x_Must g l hn (exR (exprR l (l.length + 1)) (wordsR l [wFunc, wMain, [40], [41], [123], [95], [61]] u)).2 h17.2 [125]; rw [hex] at h; simp only [encP] at h; first | exact h | (simp only [hub] at h; exact h) | (simp only [hnb] at h; exact h) | (rw [hb] at h; exact h))) ?_
 simp [encP, encPg, pg0, ex0, ty0, hub, hb]
 refine z _ ?_
 clear z Z
 refine sr fun Z z => ?_
 obtain ⟨f9, hf9⟩ : ∃ f9, f9 = finR l ((exR (exprR l (l.length + 1)) (wordsR l [wFunc, wMain, [40], [41], [123], [95], [61]] u)).2.must l [125]) := ⟨_, rfl⟩
 simp [encP, encPg, pg0, ex0, ty0, hub, hb]
 refine RVn_call ((by have h := c_ref07x_Finish g l hn ((exR (exprR l (l.length + 1)) (wordsR l [wFunc, wMain, [40], [41], [123], [95], [61]] u)).2.must l [125]) h18.2; rw [← hf9] at h; rw [hex] at h; simp only [encP] at h; first | exact h | (simp only [hub] at h; exact h) | (simp only [hnb] at h; exact h) | (rw [hb] at h; exact h))) ?_
 simp [encP, encPg, pg0, ex0, ty0, hub, hb]
 refine z _ ?_
 clear z Z
 refine AT_seq_k fun K15 hK15 => ?_
 by_cases h0 : f9.1 = 0
 refine sr fun Z z => ?_
 simp [encP, encPg, pg0, ex0, ty0, hub, hb, h0]
 refine z _ ?_
 clear z Z
 refine cF (by simp [hub, hb, h0]) ?_
 refine AT_skip ?_
 refine hK15 _ ?_
 refine sr fun Z z => ?_
 simp [encP, encPg, pg0, ex0, ty0, hub, hb, h0]
 refine z _ ?_
 clear z Z
 refine AT_ret ?_
 simp [encP, encPg, pg0, ex0, ty0, Tryz.f10]
 (· have hw : wholeR pg0 rpR s = (⟨acc, (exR (exprR l (l.length + 1)) (wordsR l [wFunc, wMain, [40], [41], [123], [95], [61]] u)).1⟩, 0, 0) := (by unfold wholeR; rw [hx]; simp only [hpr, ← hf9, h0, if_true]); rw [hex] at hw; simp only [pg0, ex0, ty0] at hw; simp [hw, encPg, pg0, ex0, ty0, encTy_def, encE_mk, encE_def, encD, encG, encP])
 refine sr fun Z z => ?_
 simp [encP, encPg, pg0, ex0, ty0, hub, hb, h0]
 refine z _ ?_
 clear z Z
 refine cT (by simp [hub, hb, h0]) ?_
 refine sr fun Z z => ?_
 simp [encP, encPg, pg0, ex0, ty0, hub, hb, h0]
 refine z _ ?_
 clear z Z
 refine AT_ret ?_
 simp [encP, encPg, pg0, ex0, ty0, Tryz.f10]
 (· have hw : wholeR pg0 rpR s = (pg0, f9.1, f9.2) := (by unfold wholeR; rw [hx]; simp only [hpr, ← hf9, if_neg h0]); simp only [pg0, ex0, ty0] at hw; simp [hw, encPg, pg0, ex0, ty0, encTy_def, encE_mk, encE_def, encD, encG, encP])
 have hex := exR_no (rE := (exprR l (l.length + 1))) hb
 refine sr fun Z z => ?_
 simp [encP, encPg, pg0, ex0, ty0, hub, hb]
 refine z _ ?_
 clear z Z
 refine cF (by simp [hub, hb]) ?_
 refine AT_skip ?_
 refine hK14 _ ?_
 refine sr fun Z z => ?_
 simp [encP, encPg, pg0, ex0, ty0, hub, hb]
 refine RVn_call ((by have h := c_ref07x_Must g l hn (exR (exprR l (l.length + 1)) (wordsR l [wFunc, wMain, [40], [41], [123], [95], [61]] u)).2 h17.2 [125]; rw [hex] at h; simp only [encP] at h; first | exact h | (simp only [hub] at h; exact h) | (simp only [hnb] at h; exact h) | (rw [hb] at h; exact h))) ?_
 simp [encP, encPg, pg0, ex0, ty0, hub, hb]
 refine z _ ?_
 clear z Z
 refine sr fun Z z => ?_
 obtain ⟨f9, hf9⟩ : ∃ f9, f9 = finR l ((exR (exprR l (l.length + 1)) (wordsR l [wFunc, wMain, [40], [41], [123], [95], [61]] u)).2.must l [125]) := ⟨_, rfl⟩
 simp [encP, encPg, pg0, ex0, ty0, hub, hb]
 refine RVn_call ((by have h := c_ref07x_Finish g l hn ((exR (exprR l (l.length + 1)) (wordsR l [wFunc, wMain, [40], [41], [123], [95], [61]] u)).2.must l [125]) h18.2; rw [← hf9] at h; rw [hex] at h; simp only [encP] at h; first | exact h | (simp only [hub] at h; exact h) | (simp only [hnb] at h; exact h) | (rw [hb] at h; exact h))) ?_
 simp [encP, encPg, pg0, ex0, ty0, hub, hb]
 refine z _ ?_
 clear z Z
 refine AT_seq_k fun K16 hK16 => ?_
 by_cases h0 : f9.1 = 0
 refine sr fun Z z => ?_
 simp [encP, encPg, pg0, ex0, ty0, hub, hb, h0]
 refine z _ ?_
 clear z Z
 refine cF (by simp [hub, hb, h0]) ?_
 refine AT_skip ?_
 refine hK16 _ ?_
 refine sr fun Z z => ?_
 simp [encP, encPg, pg0, ex0, ty0, hub, hb, h0]
 refine z _ ?_
 clear z Z
 refine AT_ret ?_
 simp [encP, encPg, pg0, ex0, ty0, Tryz.f10]
 (· have hw : wholeR pg0 rpR s = (⟨acc, (exR (exprR l (l.length + 1)) (wordsR l [wFunc, wMain, [40], [41], [123], [95], [61]] u)).1⟩, 0, 0) := (by unfold wholeR; rw [hx]; simp only [hpr, ← hf9, h0, if_true]); rw [hex] at hw; simp only [pg0, ex0, ty0] at hw; simp [hw, encPg, pg0, ex0, ty0, encTy_def, encE_mk, encE_def, encD, encG, encP])
 refine sr fun Z z => ?_
 simp [encP, encPg, pg0, ex0, ty0, hub, hb, h0]
 refine z _ ?_
 clear z Z
 refine cT (by simp [hub, hb, h0]) ?_
 refine sr fun Z z => ?_
 simp [encP, encPg, pg0, ex0, ty0, hub, hb, h0]
 refine z _ ?_
 clear z Z
 refine AT_ret ?_
 simp [encP, encPg, pg0, ex0, ty0, Tryz.f10]
 (· have hw : wholeR pg0 rpR s = (pg0, f9.1, f9.2) := (by unfold wholeR; rw [hx]; simp only [hpr, ← hf9, if_neg h0]); simp only [pg0, ex0, ty0] at hw; simp [hw, encPg, pg0, ex0, ty0, encTy_def, encE_mk, encE_def, encD, encG, encP])

end Go.Proofs.YtfgafcjebfjepaaGreatDoor
end

section
/- Contracts: expressions handed out. -/
set_option linter.all false
set_option maxHeartbeats 1000000
set_option maxRecDepth 10000
namespace Go.Proofs.YtfgafcjebfjepaaGreatDoor
open Go Go.Pv
variable (g : Nat → Option (List AV)) (rnd : Bool)

end Go.Proofs.YtfgafcjebfjepaaGreatDoor
end

section
/- Contracts: declarations, compared. -/
set_option linter.all false
set_option maxHeartbeats 1000000
set_option maxRecDepth 10000
namespace Go.Proofs.YtfgafcjebfjepaaGreatDoor
open Go Go.Pv
variable (g : Nat → Option (List AV)) (rnd : Bool)

end Go.Proofs.YtfgafcjebfjepaaGreatDoor
end

section
/- Contracts: every. -/
set_option linter.all false
set_option maxHeartbeats 1000000
set_option maxRecDepth 10000
namespace Go.Proofs.YtfgafcjebfjepaaGreatDoor
open Go Go.Pv
variable (g : Nat → Option (List AV)) (rnd : Bool)

end Go.Proofs.YtfgafcjebfjepaaGreatDoor
end

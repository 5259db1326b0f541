/- The law: what is made of expressions shares no memory. -/
import Derived.Test.YtjkabaejabibnaaDoorPt
import Derived.Test.YtjkabaejabibnaaDoorPvPb
import Derived.Test.YtjkabaejabibnaaDoorPvY
import Derived.Test.YtjkabaejabibnaaDoorXNaB
import Derived.Test.YtjkabaejabibnaaDoorXExM
import Derived.Test.YtjkabaejabibnaaDoorXExZ
import Derived.Test.YtjkabaejabibnaaDoorXRpA
import Derived.Test.YtjkabaejabibnaaDoorXExM
set_option linter.all false
set_option maxHeartbeats 1000000
set_option maxRecDepth 10000
namespace Go.Proofs.YtjkabaejabibnaaDoor
open Go Go.Pv
variable (g : Nat → Option (List AV)) (rnd : Bool)

theorem c_law05x_ExprShares (e v : Exp) (hfe : fitE e) (hfv : fitE v) (hres : g 0 = some reservedA) (hp : GlPlain (GT g)) : ValidT Tryd.prog (GT g) 7 [.agg (encEZ e), .agg (encEZ v)] (.bool true) := by

 refine validT_of [] Tryd.func7 rfl (by kernel_rfl) ?_
 refine sr fun Z z => ?_
 simp [Tryd.f7]
 refine z _ ?_
 clear z Z
 refine AT_seq_k fun K1 hK1 => ?_
 by_cases hce : cntE e 0 ≤ 250
 have hwe := fewE_wt hce
 by_cases hcv : cntE v 0 ≤ 250
 have hwv := fewE_wt hcv
 refine sr fun Z z => ?_
 simp [hce, hcv]
 refine RVn_call ((c_law05x_awake g hres).gl rfl) ?_
 simp [hce, hcv]
 repeat refine sg ?_
 refine RVn_call ((Valid.atM rfl (c_ref05x_Few g false e hfe) (by simp [AV.rgL, AV.rgLL, AV.rg, encEZ_plain, encER_plain, encE_plain, encZ_plain, encR_plain, encTy_plain, encS]))) ?_
 simp [hce, hcv]
 repeat refine sg ?_
 refine RVn_call ((Valid.atM rfl (c_ref05x_Few g false v hfv) (by simp [AV.rgL, AV.rgLL, AV.rg, encEZ_plain, encER_plain, encE_plain, encZ_plain, encR_plain, encTy_plain, encS]))) ?_
 simp [hce, hcv]
 repeat refine sg ?_
 refine z _ ?_
 clear z Z
 refine cF (by simp [hce, hcv]) ?_
 refine AT_skip ?_
 refine hK1 _ ?_
 refine sr fun Z z => ?_
 simp [hce, hcv]
 refine RVn_call ((Valid.newE hp rfl 1 ((by have h := c_ref05x_Subst_m g false [] [] (by simp) (by simp) (by simp) (by simp) e (by omega); rw [subE_nil] at h; exact h : Valid Tryd.prog (G0 g false) 23 [.agg (encE e), .slice [], .slice []] (.agg ((encER 24 27 0) e)))) (by simp [AV.rgL, AV.rgLL, AV.rg, encEZ_plain, encER_plain, encE_plain, encZ_plain, encR_plain, encTy_plain, encS]))) ?_
 simp [hce, hcv]
 refine z _ ?_
 clear z Z
 refine sr fun Z z => ?_
 simp [hce, hcv]
 refine RVn_call ((Valid.newE hp rfl 2 ((by have h := c_ref05x_Subst_m g false [] [] (by simp) (by simp) (by simp) (by simp) v (by omega); rw [subE_nil] at h; exact h : Valid Tryd.prog (G0 g false) 23 [.agg (encE v), .slice [], .slice []] (.agg ((encER 24 27 0) v)))) (by simp [AV.rgL, AV.rgLL, AV.rg, encEZ_plain, encER_plain, encE_plain, encZ_plain, encR_plain, encTy_plain, encS]))) ?_
 simp [hce, hcv]
 refine z _ ?_
 clear z Z
 refine sr fun Z z => ?_
 simp [hce, hcv]
 refine RVn_call ((Valid.newE hp rfl 3 (c_expr_Clone_m g false e (by omega)) (by simp [AV.rgL, AV.rgLL, AV.rg, encEZ_plain, encER_plain, encE_plain, encZ_plain, encR_plain, encTy_plain, encS]))) ?_
 simp [hce, hcv]
 refine z _ ?_
 clear z Z
 refine sr fun Z z => ?_
 have hB : ∀ x ∈ [v, v], wtE x ≤ 1000000000 := fun x hx => by simp at hx; subst hx; omega
 simp [hce, hcv]
 refine RVn_call ((Valid.newE hp rfl 4 (c_expr_Replace_m g false [[120], [121]] [v, v] (by simp) hB (by simp) e (by omega)) (by simp [AV.rgL, AV.rgLL, AV.rg, encEZ_plain, encER_plain, encE_plain, encZ_plain, encR_plain, encTy_plain, encS]))) ?_
 simp [hce, hcv]
 refine z _ ?_
 clear z Z
 refine sr fun Z z => ?_
 simp [hce, hcv]
 refine RVn_call ((Valid.newE hp rfl 5 (c_ref05x_Replace_m g false [[120], [121]] [v, v] (by simp) hB (by simp) e (by omega)) (by simp [AV.rgL, AV.rgLL, AV.rg, encEZ_plain, encER_plain, encE_plain, encZ_plain, encR_plain, encTy_plain, encS]))) ?_
 simp [hce, hcv]
 refine z _ ?_
 clear z Z
 refine AT_keep [2,3,5,6,7,8,9] [2,3,5,6,7,8,9] (by first | rfl | simp) ?_
 simp
 refine AT_esc 5 rfl (by simp) (noClP_of (by simp)) fun b5 => ?_
 simp
 refine AT_seq_regionX ?_
 refine RVx_spec (spec_callW (b0 := b5) (ρ := 1) rfl rfl (by kernel_rfl) (che_validW 1 b5 e (by omega)) (by simp [look]) (by decide) (by simp only [AS.killOk, List.all_cons, List.all_nil, encER_oo, encEZ_oo, Bool.and_true, Bool.true_and] <;> rfl) rfl rfl rfl) ?_
 rintro _ rfl
 simp [AS.kill, TV.kill, AV.kill, AV.off, encER_kill, encEZ_kill]
 refine AT_keep [2,3,6,7,8,9] [2,3,6,7,8,9] (by first | rfl | simp) ?_
 simp
 refine AT_esc 6 rfl (by simp) (noClP_of (by simp)) fun b6 => ?_
 simp
 refine AT_seq_regionX ?_
 refine RVx_spec (spec_callW (b0 := b6) (ρ := 2) rfl rfl (by kernel_rfl) (che_validW 2 b6 v (by omega)) (by simp [look]) (by decide) (by simp only [AS.killOk, List.all_cons, List.all_nil, encER_oo, encEZ_oo, Bool.and_true, Bool.true_and] <;> rfl) rfl rfl rfl) ?_
 rintro _ rfl
 simp [AS.kill, TV.kill, AV.kill, AV.off, encER_kill, encEZ_kill]
 refine sr fun Z z => ?_
 have hsz := wtE_rep [[120], [121]] [v, v] 25000 (by omega) (fun x hx => by simp at hx; subst hx; omega) e
 simp [hce, hcv]
 refine RVn_call ((Valid.atM rfl (eqE_refl e ▸ c_ref05x_Equal g false e e (by omega)) (by simp [AV.rgL, AV.rgLL, AV.rg, encEZ_plain, encER_plain, encE_plain, encZ_plain, encR_plain, encTy_plain, encS]))) ?_
 simp [hce, hcv]
 refine RVn_call ((Valid.atM rfl (eqE_refl (repE [[120], [121]] [v, v] e) ▸ c_ref05x_Equal g false (repE [[120], [121]] [v, v] e) (repE [[120], [121]] [v, v] e) (by omega)) (by simp [AV.rgL, AV.rgLL, AV.rg, encEZ_plain, encER_plain, encE_plain, encZ_plain, encR_plain, encTy_plain, encS]))) ?_
 simp [hce, hcv]
 refine z _ ?_
 clear z Z
 refine AT_ret ?_
 simp [Tryd.f7]
 refine sr fun Z z => ?_
 simp [hce, hcv]
 refine RVn_call ((c_law05x_awake g hres).gl rfl) ?_
 simp [hce, hcv]
 repeat refine sg ?_
 refine RVn_call ((Valid.atM rfl (c_ref05x_Few g false e hfe) (by simp [AV.rgL, AV.rgLL, AV.rg, encEZ_plain, encER_plain, encE_plain, encZ_plain, encR_plain, encTy_plain, encS]))) ?_
 simp [hce, hcv]
 repeat refine sg ?_
 refine RVn_call ((Valid.atM rfl (c_ref05x_Few g false v hfv) (by simp [AV.rgL, AV.rgLL, AV.rg, encEZ_plain, encER_plain, encE_plain, encZ_plain, encR_plain, encTy_plain, encS]))) ?_
 simp [hce, hcv]
 repeat refine sg ?_
 refine z _ ?_
 clear z Z
 refine cT (by simp [hce, hcv]) ?_
 refine sr fun Z z => ?_
 simp [hce, hcv]
 refine RVn_call ((c_law05x_awake g hres).gl rfl) ?_
 simp [hce, hcv]
 refine z _ ?_
 clear z Z
 refine AT_ret ?_
 simp [Tryd.f7]
 refine sr fun Z z => ?_
 simp [hce]
 refine RVn_call ((c_law05x_awake g hres).gl rfl) ?_
 simp [hce]
 repeat refine sg ?_
 refine RVn_call ((Valid.atM rfl (c_ref05x_Few g false e hfe) (by simp [AV.rgL, AV.rgLL, AV.rg, encEZ_plain, encER_plain, encE_plain, encZ_plain, encR_plain, encTy_plain, encS]))) ?_
 simp [hce]
 repeat refine sg ?_
 refine z _ ?_
 clear z Z
 refine cT (by simp [hce]) ?_
 refine sr fun Z z => ?_
 simp [hce]
 refine RVn_call ((c_law05x_awake g hres).gl rfl) ?_
 simp [hce]
 refine z _ ?_
 clear z Z
 refine AT_ret ?_
 simp [Tryd.f7]

end Go.Proofs.YtjkabaejabibnaaDoor

/- The law: clones and substituted types share no memory. -/
import Derived.Test.YtghmdnfdocdgfaaDoorPt
import Derived.Test.YtghmdnfdocdgfaaDoorPvPb
import Derived.Test.YtghmdnfdocdgfaaDoorPvY
import Derived.Test.YtghmdnfdocdgfaaDoorXNaC
import Derived.Test.YtghmdnfdocdgfaaDoorXTyR
import Derived.Test.YtghmdnfdocdgfaaDoorXTyS
import Derived.Test.YtghmdnfdocdgfaaDoorXTyD
import Derived.Test.YtghmdnfdocdgfaaDoorXTyS
set_option linter.all false
set_option maxHeartbeats 1000000
set_option maxRecDepth 10000
namespace Go.Proofs.YtghmdnfdocdgfaaDoor
open Go Go.Pv
variable (g : Nat → Option (List AV)) (rnd : Bool)

theorem c_law04x_TypesShare (t a : Ty) (hft : fit t) (hfa : fit a) (hres : g 0 = some reservedA) (hp : GlPlain (GT g)) : ValidT Tryd.prog (GT g) 6 [.agg (encZ t), .agg (encZ a)] (.bool true) := by

 refine validT_of [] Tryd.func6 rfl (by kernel_rfl) ?_
 refine sr fun Z z => ?_
 simp [Tryd.f6]
 refine z _ ?_
 clear z Z
 refine AT_seq_k fun K1 hK1 => ?_
 by_cases hct : cnt t 0 ≤ 200
 have hwt := few_wt hct
 by_cases hca : cnt a 0 ≤ 200
 have hwa := few_wt hca
 refine sr fun Z z => ?_
 simp [hct, hca]
 refine RVn_call ((c_law04x_awake g false hres).gl rfl) ?_
 simp [hct, hca]
 repeat refine sg ?_
 refine RVn_call ((Valid.atM rfl (c_ref04x_Few g false t hft) (by simp [AV.rgL, AV.rgLL, AV.rg, encZ_plain, encR_plain, encTy_plain, encS]))) ?_
 simp [hct, hca]
 repeat refine sg ?_
 refine RVn_call ((Valid.atM rfl (c_ref04x_Few g false a hfa) (by simp [AV.rgL, AV.rgLL, AV.rg, encZ_plain, encR_plain, encTy_plain, encS]))) ?_
 simp [hct, hca]
 repeat refine sg ?_
 refine z _ ?_
 clear z Z
 refine cF (by simp [hct, hca]) ?_
 refine AT_skip ?_
 refine hK1 _ ?_
 refine sr fun Z z => ?_
 simp [hct, hca]
 refine RVn_call ((Valid.newR hp rfl 1 (c_ref04x_Subst_nm g false t (by omega)) (by simp [AV.rgL, AV.rgLL, AV.rg, encZ_plain, encR_plain, encTy_plain, encS]))) ?_
 simp [hct, hca]
 refine z _ ?_
 clear z Z
 refine sr fun Z z => ?_
 simp [hct, hca]
 refine RVn_call ((Valid.newR hp rfl 2 (c_ref04x_Subst_nm g false a (by omega)) (by simp [AV.rgL, AV.rgLL, AV.rg, encZ_plain, encR_plain, encTy_plain, encS]))) ?_
 simp [hct, hca]
 refine z _ ?_
 clear z Z
 refine sr fun Z z => ?_
 simp [hct, hca]
 refine RVn_call ((Valid.newR hp rfl 3 (c_types_Clone_m g false t (by omega)) (by simp [AV.rgL, AV.rgLL, AV.rg, encZ_plain, encR_plain, encTy_plain, encS]))) ?_
 simp [hct, hca]
 refine z _ ?_
 clear z Z
 refine sr fun Z z => ?_
 have hB : ∀ x ∈ [a], wt x ≤ 1099511627776 := fun x hx => by simp at hx; subst hx; omega
 simp [hct, hca]
 refine RVn_call ((Valid.newR hp rfl 4 (c_types_Subst_m g false [[97]] [a] (by simp) hB (by simp) t (by omega)) (by simp [AV.rgL, AV.rgLL, AV.rg, encZ_plain, encR_plain, encTy_plain, encS]))) ?_
 simp [hct, hca]
 refine z _ ?_
 clear z Z
 refine sr fun Z z => ?_
 simp [hct, hca]
 refine RVn_call ((Valid.newR hp rfl 5 (c_ref04x_Subst_m g false [[97]] [a] (by simp) hB (by simp) (by simp) t (by omega)) (by simp [AV.rgL, AV.rgLL, AV.rg, encZ_plain, encR_plain, encTy_plain, encS]))) ?_
 simp [hct, hca]
 refine z _ ?_
 clear z Z
 refine AT_keep [2,3,5,6,7,8,9] [2,3,5,6,7,8,9] (by first | rfl | simp) ?_
 simp
 refine AT_esc 5 rfl (by simp) (noClP_of (by simp)) fun b5 => ?_
 simp
 refine AT_seq_regionX ?_
 refine RVx_spec (spec_callW (b0 := b5) (ρ := 1) rfl rfl (by kernel_rfl) (chg_validW 1 b5 t (by omega)) (by simp [look]) (by decide) (by simp only [AS.killOk, List.all_cons, List.all_nil, encR_oo, encZ_oo, Bool.and_true, Bool.true_and] <;> rfl) rfl rfl rfl) ?_
 rintro _ rfl
 simp [AS.kill, TV.kill, AV.kill, AV.off, encR_kill, encZ_kill]
 refine AT_keep [2,3,6,7,8,9] [2,3,6,7,8,9] (by first | rfl | simp) ?_
 simp
 refine AT_esc 6 rfl (by simp) (noClP_of (by simp)) fun b6 => ?_
 simp
 refine AT_seq_regionX ?_
 refine RVx_spec (spec_callW (b0 := b6) (ρ := 2) rfl rfl (by kernel_rfl) (chg_validW 2 b6 a (by omega)) (by simp [look]) (by decide) (by simp only [AS.killOk, List.all_cons, List.all_nil, encR_oo, encZ_oo, Bool.and_true, Bool.true_and] <;> rfl) rfl rfl rfl) ?_
 rintro _ rfl
 simp [AS.kill, TV.kill, AV.kill, AV.off, encR_kill, encZ_kill]
 refine sr fun Z z => ?_
 have hsz := wt_sub [[97]] [a] 10000 (by omega) (fun x hx => by simp at hx; subst hx; omega) t
 simp [hct, hca]
 refine RVn_call ((Valid.atM rfl (eqT_refl t ▸ c_ref04x_Equal g false t t (by omega)) (by simp [AV.rgL, AV.rgLL, AV.rg, encZ_plain, encR_plain, encTy_plain, encS]))) ?_
 simp [hct, hca]
 refine RVn_call ((Valid.atM rfl (eqT_refl (sub [[97]] [a] t) ▸ c_ref04x_Equal g false (sub [[97]] [a] t) (sub [[97]] [a] t) (by omega)) (by simp [AV.rgL, AV.rgLL, AV.rg, encZ_plain, encR_plain, encTy_plain, encS]))) ?_
 simp [hct, hca]
 refine z _ ?_
 clear z Z
 refine AT_ret ?_
 simp [Tryd.f6]
 refine sr fun Z z => ?_
 simp [hct, hca]
 refine RVn_call ((c_law04x_awake g false hres).gl rfl) ?_
 simp [hct, hca]
 repeat refine sg ?_
 refine RVn_call ((Valid.atM rfl (c_ref04x_Few g false t hft) (by simp [AV.rgL, AV.rgLL, AV.rg, encZ_plain, encR_plain, encTy_plain, encS]))) ?_
 simp [hct, hca]
 repeat refine sg ?_
 refine RVn_call ((Valid.atM rfl (c_ref04x_Few g false a hfa) (by simp [AV.rgL, AV.rgLL, AV.rg, encZ_plain, encR_plain, encTy_plain, encS]))) ?_
 simp [hct, hca]
 repeat refine sg ?_
 refine z _ ?_
 clear z Z
 refine cT (by simp [hct, hca]) ?_
 refine sr fun Z z => ?_
 simp [hct, hca]
 refine RVn_call ((c_law04x_awake g false hres).gl rfl) ?_
 simp [hct, hca]
 refine z _ ?_
 clear z Z
 refine AT_ret ?_
 simp [Tryd.f6]
 refine sr fun Z z => ?_
 simp [hct]
 refine RVn_call ((c_law04x_awake g false hres).gl rfl) ?_
 simp [hct]
 repeat refine sg ?_
 refine RVn_call ((Valid.atM rfl (c_ref04x_Few g false t hft) (by simp [AV.rgL, AV.rgLL, AV.rg, encZ_plain, encR_plain, encTy_plain, encS]))) ?_
 simp [hct]
 repeat refine sg ?_
 refine z _ ?_
 clear z Z
 refine cT (by simp [hct]) ?_
 refine sr fun Z z => ?_
 simp [hct]
 refine RVn_call ((c_law04x_awake g false hres).gl rfl) ?_
 simp [hct]
 refine z _ ?_
 clear z Z
 refine AT_ret ?_
 simp [Tryd.f6]

end Go.Proofs.YtghmdnfdocdgfaaDoor

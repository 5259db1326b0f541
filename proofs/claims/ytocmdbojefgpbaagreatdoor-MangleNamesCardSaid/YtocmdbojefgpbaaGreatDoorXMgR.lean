import Derived.Test.YtocmdbojefgpbaaGreatDoorPt
import Derived.Test.YtocmdbojefgpbaaGreatDoorPvPb
import Derived.Test.YtocmdbojefgpbaaGreatDoorPvY
import Derived.Test.YtocmdbojefgpbaaGreatDoorXMgG
section
/- The laws: names of types, and of methods with type arguments. -/
set_option linter.all false
set_option maxHeartbeats 1000000
set_option maxRecDepth 10000
namespace Go.Proofs.YtocmdbojefgpbaaGreatDoor
open Go Go.Pv
variable (g : Nat → Option (List AV)) (rnd : Bool)

end Go.Proofs.YtocmdbojefgpbaaGreatDoor
end

section
/- The laws: names of methods and dummy names. -/
set_option linter.all false
set_option maxHeartbeats 1000000
set_option maxRecDepth 10000
namespace Go.Proofs.YtocmdbojefgpbaaGreatDoor
open Go Go.Pv
variable (g : Nat → Option (List AV)) (rnd : Bool)

theorem c_law20x_MangleNames (t : Ty) (s : Sg) (hft : fit t) (hfs : fitG s) (hml : ∃ m, g 4 = some [.int .i64 m]) (htab : g 3 = some pow10A) (hers : ∃ x, g 1 = some [.iface 159 x]) (herr : ∃ x, g 2 = some [.iface 159 x]) (hres : g 0 = some reservedA) (hp : GlPlain (GT g)) : Valid Tryz.prog (G0 g false) 5 [.agg (encTy t), .agg (encG s)] (.bool true) := by

 refine valid_of [] Tryz.func5 rfl (by kernel_rfl) ?_
 refine sr fun Z z => ?_
 simp [row_map, Tryz.f5]
 refine z _ ?_
 clear z Z
 refine AT_seq_k fun K1 hK1 => ?_
 by_cases hct : cnt t 0 ≤ 200
 have hwt := few_wt hct
 obtain ⟨o8, hr⟩ : ∃ o, rightT t = o := ⟨_, rfl⟩
 cases o8
 refine sr fun Z z => ?_
 simp [row_map, hct, hr]
 repeat refine sg ?_
 try (
  refine RVn_call (c_law20x_awake g hml htab hers herr hres) ?_
  simp [row_map, hct, hr]
  repeat refine sg ?_)
 try (
  refine RVn_call (c_ref04x_Few g false t hft) ?_
  simp [row_map, hct, hr]
  repeat refine sg ?_)
 try (
  refine RVn_call (c_ref04x_Right g false t (by omega)) ?_
  simp [row_map, hct, hr]
  repeat refine sg ?_)
 try (
  refine RVn_call (c_ref10x_Few g false s hfs) ?_
  simp [row_map, hct, hr]
  repeat refine sg ?_)
 try (
  refine RVn_call (c_ref20x_RightSig g false s hws.1 hws.2 hp) ?_
  simp [row_map, hct, hr]
  repeat refine sg ?_)
 refine z _ ?_
 clear z Z
 refine cT (by simp [hct, hr]) ?_
 refine sr fun Z z => ?_
 simp [row_map, hct, hr]
 repeat refine sg ?_
 refine RVn_call (c_law20x_awake g hml htab hers herr hres) ?_
 simp [row_map, hct, hr]
 repeat refine sg ?_
 refine z _ ?_
 clear z Z
 refine AT_ret ?_
 simp [row_map, Tryz.f5]
 have hr20 := right_r20 t hr
 have hi1 := mgT_isName hr
 have hi2 := beq_false_of_ne (mgT_ne_top hr)
 have hml9 := mgT_len t
 by_cases hcs : cntPg ⟨[dcS s], ex0⟩ ≤ 600
 have hws := few_wtG hcs
 have hws2 : wtG s = s.name.length + 1 + wtFs s.fms + wtFs s.pms + wt s.res := rfl
 obtain ⟨o9s, hrs⟩ : ∃ o, r20G (canonG s) = o := ⟨_, rfl⟩
 cases o9s
 refine sr fun Z z => ?_
 simp [row_map, hct, hr, hcs, hrs]
 repeat refine sg ?_
 try (
  refine RVn_call (c_law20x_awake g hml htab hers herr hres) ?_
  simp [row_map, hct, hr, hcs, hrs]
  repeat refine sg ?_)
 try (
  refine RVn_call (c_ref04x_Few g false t hft) ?_
  simp [row_map, hct, hr, hcs, hrs]
  repeat refine sg ?_)
 try (
  refine RVn_call (c_ref04x_Right g false t (by omega)) ?_
  simp [row_map, hct, hr, hcs, hrs]
  repeat refine sg ?_)
 try (
  refine RVn_call (c_ref10x_Few g false s hfs) ?_
  simp [row_map, hct, hr, hcs, hrs]
  repeat refine sg ?_)
 try (
  refine RVn_call (c_ref20x_RightSig g false s hws.1 hws.2 hp) ?_
  simp [row_map, hct, hr, hcs, hrs]
  repeat refine sg ?_)
 refine z _ ?_
 clear z Z
 refine cT (by simp [hct, hr, hcs, hrs]) ?_
 refine sr fun Z z => ?_
 simp [row_map, hct, hr, hcs, hrs]
 repeat refine sg ?_
 refine RVn_call (c_law20x_awake g hml htab hers herr hres) ?_
 simp [row_map, hct, hr, hcs, hrs]
 repeat refine sg ?_
 refine z _ ?_
 clear z Z
 refine AT_ret ?_
 simp [row_map, Tryz.f5]
 refine sr fun Z z => ?_
 simp [row_map, hct, hr, hcs, hrs]
 repeat refine sg ?_
 try (
  refine RVn_call (c_law20x_awake g hml htab hers herr hres) ?_
  simp [row_map, hct, hr, hcs, hrs]
  repeat refine sg ?_)
 try (
  refine RVn_call (c_ref04x_Few g false t hft) ?_
  simp [row_map, hct, hr, hcs, hrs]
  repeat refine sg ?_)
 try (
  refine RVn_call (c_ref04x_Right g false t (by omega)) ?_
  simp [row_map, hct, hr, hcs, hrs]
  repeat refine sg ?_)
 try (
  refine RVn_call (c_ref10x_Few g false s hfs) ?_
  simp [row_map, hct, hr, hcs, hrs]
  repeat refine sg ?_)
 try (
  refine RVn_call (c_ref20x_RightSig g false s hws.1 hws.2 hp) ?_
  simp [row_map, hct, hr, hcs, hrs]
  repeat refine sg ?_)
 refine z _ ?_
 clear z Z
 refine cF (by simp [hct, hr, hcs, hrs]) ?_
 refine AT_skip ?_
 try simp only [nrm, reduceIte, Nat.reduceEqDiff]
 refine hK1 _ ?_
 refine sr fun Z z => ?_
 have hns : isName s.name = true := by simp only [r20G, Bool.and_eq_true] at hrs; exact hrs.2
 have hi3 := mgM_name hns (l := [t]) (by simpa using hr20)
 have hi4 := dumT_isName hrs
 have hi5 : isName [84, 111, 112, 95, 84] = true := by decide
 have hml8 := mgM_len s.name [t]
 simp [row_map, hi1, hi2, hi3, hi4, hi5, encG, hct, hr, hcs, hrs]
 repeat refine sg ?_
 refine RVn_call (c_mangle_Type g false hml htab hers herr t (by omega)) ?_
 simp [row_map, hi1, hi2, hi3, hi4, hi5, encG, hct, hr, hcs, hrs]
 repeat refine sg ?_
 refine RVn_call (c_ref01x_Is g false (mgT t) (by omega)) ?_
 simp [row_map, hi1, hi2, hi3, hi4, hi5, encG, hct, hr, hcs, hrs]
 repeat refine sg ?_
 refine RVn_call ((by have h := c_mangle_Method g false s.name [t] (by omega) (by simp only [wts]; omega) hml htab hers herr; exact h)) ?_
 simp [row_map, hi1, hi2, hi3, hi4, hi5, encG, hct, hr, hcs, hrs]
 repeat refine sg ?_
 refine RVn_call (c_ref01x_Is g false (mgM s.name [t]) (by simp only [wts] at hml8; omega)) ?_
 simp [row_map, hi1, hi2, hi3, hi4, hi5, encG, hct, hr, hcs, hrs]
 repeat refine sg ?_
 refine RVn_call ((by have h := c_mangle_Dummy g false s hws.1 hws.2 hml htab hers herr hp; exact h)) ?_
 simp [row_map, hi1, hi2, hi3, hi4, hi5, encG, hct, hr, hcs, hrs]
 repeat refine sg ?_
 refine RVn_call (c_ref01x_Is g false (dumT (canonG s)) (by have := dumT_len (canonG s); omega)) ?_
 simp [row_map, hi1, hi2, hi3, hi4, hi5, encG, hct, hr, hcs, hrs]
 repeat refine sg ?_
 refine RVn_call (c_mangle_Top g false) ?_
 simp [row_map, hi1, hi2, hi3, hi4, hi5, encG, hct, hr, hcs, hrs]
 repeat refine sg ?_
 refine RVn_call (c_ref01x_Is g false [84, 111, 112, 95, 84] (by decide)) ?_
 simp [row_map, hi1, hi2, hi3, hi4, hi5, encG, hct, hr, hcs, hrs]
 repeat refine sg ?_
 refine RVn_call (c_mangle_Type g false hml htab hers herr t (by omega)) ?_
 simp [row_map, hi1, hi2, hi3, hi4, hi5, encG, hct, hr, hcs, hrs]
 repeat refine sg ?_
 refine RVn_call (c_mangle_Top g false) ?_
 simp [row_map, hi1, hi2, hi3, hi4, hi5, encG, hct, hr, hcs, hrs]
 repeat refine sg ?_
 refine z _ ?_
 clear z Z
 refine AT_ret ?_
 simp [row_map, Tryz.f5]
 refine sr fun Z z => ?_
 simp [row_map, hct, hr, hcs]
 repeat refine sg ?_
 try (
  refine RVn_call (c_law20x_awake g hml htab hers herr hres) ?_
  simp [row_map, hct, hr, hcs]
  repeat refine sg ?_)
 try (
  refine RVn_call (c_ref04x_Few g false t hft) ?_
  simp [row_map, hct, hr, hcs]
  repeat refine sg ?_)
 try (
  refine RVn_call (c_ref04x_Right g false t (by omega)) ?_
  simp [row_map, hct, hr, hcs]
  repeat refine sg ?_)
 try (
  refine RVn_call (c_ref10x_Few g false s hfs) ?_
  simp [row_map, hct, hr, hcs]
  repeat refine sg ?_)
 try (
  refine RVn_call (c_ref20x_RightSig g false s hws.1 hws.2 hp) ?_
  simp [row_map, hct, hr, hcs]
  repeat refine sg ?_)
 refine z _ ?_
 clear z Z
 refine cT (by simp [hct, hr, hcs]) ?_
 refine sr fun Z z => ?_
 simp [row_map, hct, hr, hcs]
 repeat refine sg ?_
 refine RVn_call (c_law20x_awake g hml htab hers herr hres) ?_
 simp [row_map, hct, hr, hcs]
 repeat refine sg ?_
 refine z _ ?_
 clear z Z
 refine AT_ret ?_
 simp [row_map, Tryz.f5]
 refine sr fun Z z => ?_
 simp [row_map, hct]
 repeat refine sg ?_
 try (
  refine RVn_call (c_law20x_awake g hml htab hers herr hres) ?_
  simp [row_map, hct]
  repeat refine sg ?_)
 try (
  refine RVn_call (c_ref04x_Few g false t hft) ?_
  simp [row_map, hct]
  repeat refine sg ?_)
 try (
  refine RVn_call (c_ref04x_Right g false t (by omega)) ?_
  simp [row_map, hct]
  repeat refine sg ?_)
 try (
  refine RVn_call (c_ref10x_Few g false s hfs) ?_
  simp [row_map, hct]
  repeat refine sg ?_)
 try (
  refine RVn_call (c_ref20x_RightSig g false s hws.1 hws.2 hp) ?_
  simp [row_map, hct]
  repeat refine sg ?_)
 refine z _ ?_
 clear z Z
 refine cT (by simp [hct]) ?_
 refine sr fun Z z => ?_
 simp [row_map, hct]
 repeat refine sg ?_
 refine RVn_call (c_law20x_awake g hml htab hers herr hres) ?_
 simp [row_map, hct]
 repeat refine sg ?_
 refine z _ ?_
 clear z Z
 refine AT_ret ?_
 simp [row_map, Tryz.f5]

end Go.Proofs.YtocmdbojefgpbaaGreatDoor
end

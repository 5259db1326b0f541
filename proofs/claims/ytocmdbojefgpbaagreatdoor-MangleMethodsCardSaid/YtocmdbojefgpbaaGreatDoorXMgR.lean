import Derived.Test.YtocmdbojefgpbaaGreatDoorPt
import Derived.Test.YtocmdbojefgpbaaGreatDoorPvPb
import Derived.Test.YtocmdbojefgpbaaGreatDoorPvY
import Derived.Test.YtocmdbojefgpbaaGreatDoorXMgG
section
/- The laws: names of types, and of methods with type arguments. -/
set_option linter.all false
set_option maxHeartbeats 1000000
set_option maxRecDepth 10000
namespace Go.Proofs.YtocmdbojefgpbaaGreatDoor
open Go Go.Pv
variable (g : Nat → Option (List AV)) (rnd : Bool)

theorem fewAll_wts {l : List Ty} (h : cnts l 0 ≤ 200) : wts l ≤ 10050 := by
  have h1 := (cnts_sum l 0).2 (by omega)
  have h2 := wt_sum (.mk [] l 0)
  simp only [wt, csum, List.length_nil] at h2
  omega
end Go.Proofs.YtocmdbojefgpbaaGreatDoor
end

section
/- The laws: names of methods and dummy names. -/
set_option linter.all false
set_option maxHeartbeats 1000000
set_option maxRecDepth 10000
namespace Go.Proofs.YtocmdbojefgpbaaGreatDoor
open Go Go.Pv
variable (g : Nat → Option (List AV)) (rnd : Bool)

theorem c_law20x_MangleMethods (a b : Sg) (l : List Ty) (hfa : fitG a) (hfb : fitG b) (hll : l.length ≤ 140737488355328) (hfl : fits l) (hml : ∃ m, g 4 = some [.int .i64 m]) (htab : g 3 = some pow10A) (hers : ∃ x, g 1 = some [.iface 159 x]) (herr : ∃ x, g 2 = some [.iface 159 x]) (hres : g 0 = some reservedA) (hp : GlPlain (GT g)) : Valid Tryz.prog (G0 g false) 4 [.agg (encG a), .agg (encG b), .slice (l.map encTy)] (.bool true) := by

 refine valid_of [] Tryz.func4 rfl (by kernel_rfl) ?_
 refine sr fun Z z => ?_
 simp [row_map, Tryz.f4]
 refine z _ ?_
 clear z Z
 refine AT_seq_k fun K1 hK1 => ?_
 by_cases hca : cntPg ⟨[dcS a], ex0⟩ ≤ 600
 have hwa := few_wtG hca
 have hwa2 : wtG a = a.name.length + 1 + wtFs a.fms + wtFs a.pms + wt a.res := rfl
 by_cases hcb : cntPg ⟨[dcS b], ex0⟩ ≤ 600
 have hwb := few_wtG hcb
 have hwb2 : wtG b = b.name.length + 1 + wtFs b.fms + wtFs b.pms + wt b.res := rfl
 by_cases hcl : cnts l 0 ≤ 200
 have hwl := fewAll_wts hcl
 have hln := wts_len l
 obtain ⟨o9a, hra⟩ : ∃ o, r20G (canonG a) = o := ⟨_, rfl⟩
 cases o9a
 refine sr fun Z z => ?_
 simp [row_map, hca, hcb, hcl, hra]
 repeat refine sg ?_
 try (
  refine RVn_call (c_law20x_awake g hml htab hers herr hres) ?_
  simp [row_map, hca, hcb, hcl, hra]
  repeat refine sg ?_)
 try (
  refine RVn_call (c_ref10x_Few g false a hfa) ?_
  simp [row_map, hca, hcb, hcl, hra]
  repeat refine sg ?_)
 try (
  refine RVn_call (c_ref10x_Few g false b hfb) ?_
  simp [row_map, hca, hcb, hcl, hra]
  repeat refine sg ?_)
 try (
  refine RVn_call (c_ref04x_FewAll g false l hll hfl) ?_
  simp [row_map, hca, hcb, hcl, hra]
  repeat refine sg ?_)
 try (
  refine RVn_call (c_ref20x_RightSig g false a hwa.1 hwa.2 hp) ?_
  simp [row_map, hca, hcb, hcl, hra]
  repeat refine sg ?_)
 try (
  refine RVn_call (c_ref20x_RightSig g false b hwb.1 hwb.2 hp) ?_
  simp [row_map, hca, hcb, hcl, hra]
  repeat refine sg ?_)
 refine z _ ?_
 clear z Z
 refine cT (by simp [hca, hcb, hcl, hra]) ?_
 refine sr fun Z z => ?_
 simp [row_map, hca, hcb, hcl, hra]
 repeat refine sg ?_
 refine RVn_call (c_law20x_awake g hml htab hers herr hres) ?_
 simp [row_map, hca, hcb, hcl, hra]
 repeat refine sg ?_
 refine z _ ?_
 clear z Z
 refine AT_ret ?_
 simp [row_map, Tryz.f4]
 obtain ⟨o9b, hrb⟩ : ∃ o, r20G (canonG b) = o := ⟨_, rfl⟩
 cases o9b
 refine sr fun Z z => ?_
 simp [row_map, hca, hcb, hcl, hra, hrb]
 repeat refine sg ?_
 try (
  refine RVn_call (c_law20x_awake g hml htab hers herr hres) ?_
  simp [row_map, hca, hcb, hcl, hra, hrb]
  repeat refine sg ?_)
 try (
  refine RVn_call (c_ref10x_Few g false a hfa) ?_
  simp [row_map, hca, hcb, hcl, hra, hrb]
  repeat refine sg ?_)
 try (
  refine RVn_call (c_ref10x_Few g false b hfb) ?_
  simp [row_map, hca, hcb, hcl, hra, hrb]
  repeat refine sg ?_)
 try (
  refine RVn_call (c_ref04x_FewAll g false l hll hfl) ?_
  simp [row_map, hca, hcb, hcl, hra, hrb]
  repeat refine sg ?_)
 try (
  refine RVn_call (c_ref20x_RightSig g false a hwa.1 hwa.2 hp) ?_
  simp [row_map, hca, hcb, hcl, hra, hrb]
  repeat refine sg ?_)
 try (
  refine RVn_call (c_ref20x_RightSig g false b hwb.1 hwb.2 hp) ?_
  simp [row_map, hca, hcb, hcl, hra, hrb]
  repeat refine sg ?_)
 refine z _ ?_
 clear z Z
 refine cT (by simp [hca, hcb, hcl, hra, hrb]) ?_
 refine sr fun Z z => ?_
 simp [row_map, hca, hcb, hcl, hra, hrb]
 repeat refine sg ?_
 refine RVn_call (c_law20x_awake g hml htab hers herr hres) ?_
 simp [row_map, hca, hcb, hcl, hra, hrb]
 repeat refine sg ?_
 refine z _ ?_
 clear z Z
 refine AT_ret ?_
 simp [row_map, Tryz.f4]
 refine sr fun Z z => ?_
 simp [row_map, hca, hcb, hcl, hra, hrb]
 repeat refine sg ?_
 try (
  refine RVn_call (c_law20x_awake g hml htab hers herr hres) ?_
  simp [row_map, hca, hcb, hcl, hra, hrb]
  repeat refine sg ?_)
 try (
  refine RVn_call (c_ref10x_Few g false a hfa) ?_
  simp [row_map, hca, hcb, hcl, hra, hrb]
  repeat refine sg ?_)
 try (
  refine RVn_call (c_ref10x_Few g false b hfb) ?_
  simp [row_map, hca, hcb, hcl, hra, hrb]
  repeat refine sg ?_)
 try (
  refine RVn_call (c_ref04x_FewAll g false l hll hfl) ?_
  simp [row_map, hca, hcb, hcl, hra, hrb]
  repeat refine sg ?_)
 try (
  refine RVn_call (c_ref20x_RightSig g false a hwa.1 hwa.2 hp) ?_
  simp [row_map, hca, hcb, hcl, hra, hrb]
  repeat refine sg ?_)
 try (
  refine RVn_call (c_ref20x_RightSig g false b hwb.1 hwb.2 hp) ?_
  simp [row_map, hca, hcb, hcl, hra, hrb]
  repeat refine sg ?_)
 refine z _ ?_
 clear z Z
 refine cF (by simp [hca, hcb, hcl, hra, hrb]) ?_
 refine AT_skip ?_
 try simp only [nrm, reduceIte, Nat.reduceEqDiff]
 refine hK1 _ ?_
 refine AT_seq_k fun K2 hK2 => ?_
 refine sr fun Z z => ?_
 simp [row_map, hca, hcb, hcl, hra, hrb]
 refine z _ ?_
 clear z Z
 refine AT_block ?_
 refine AT_loop_q [2,3,4,7] [3,4] (fun j st => ∃ k, k ≤ l.length ∧ l.all r20 = (l.drop k).all r20 ∧ j = l.length - k ∧ st = { n := 95, tm := [(2, .v (.slice (l.map encTy)) none), (3, .lp 3 0), (4, .lp 4 0), (7, .v (.int .i64 k) none)], bx := [(3, encG a), (4, encG b)], tb := [], sh := [], hint := [] }) (l.length) (by first | rfl | simp) ?_ ?_
 exact ⟨0, by simp⟩
 rintro j st ⟨k, hk, hc, rfl, rfl⟩ K3 hK3
 refine AT_seq_k fun K4 hK4 => ?_
 refine sr fun Z z => ?_
 simp [row_map, hca, hcb, hcl, hra, hrb]
 repeat refine sg ?_
 refine z _ ?_
 clear z Z
 refine AT_cond (g := none) rfl (fun hb41 => ?_) (fun hb41 => ?_)
 try simp [row_map, hca, hcb, hcl, hra, hrb] at hb41
 refine AT_skip ?_
 try simp only [nrm, reduceIte, Nat.reduceEqDiff]
 refine hK4 _ ?_
 refine AT_seq_k fun K5 hK5 => ?_
 refine AT_block ?_
 have hkq : k < l.length := by omega
 have hda := List.drop_eq_getElem_cons hkq
 have hm9 := wts_mem (l := l) (t := l[k]) (by simp)
 obtain ⟨b9, hr9⟩ : ∃ b, r20 l[k] = b := ⟨_, rfl⟩
 cases b9
 refine sr fun Z z => ?_
 simp [row_map, hca, hcb, hcl, hra, hrb, hb41, hr9]
 repeat refine sg ?_
 refine RVn_call (c_ref20x_Right g false l[k] (by omega)) ?_
 simp [row_map, hca, hcb, hcl, hra, hrb, hb41, hr9]
 repeat refine sg ?_
 refine z _ ?_
 clear z Z
 refine cT (by simp [hca, hcb, hcl, hra, hrb, hb41, hr9]) ?_
 refine sr fun Z z => ?_
 simp [row_map, hca, hcb, hcl, hra, hrb, hb41, hr9]
 refine z _ ?_
 clear z Z
 refine AT_ret ?_
 simp [row_map, Tryz.f4]
 refine sr fun Z z => ?_
 simp [row_map, hca, hcb, hcl, hra, hrb, hb41, hr9]
 repeat refine sg ?_
 refine RVn_call (c_ref20x_Right g false l[k] (by omega)) ?_
 simp [row_map, hca, hcb, hcl, hra, hrb, hb41, hr9]
 repeat refine sg ?_
 refine z _ ?_
 clear z Z
 refine cF (by simp [hca, hcb, hcl, hra, hrb, hb41, hr9]) ?_
 refine AT_skip ?_
 try simp only [nrm, reduceIte, Nat.reduceEqDiff]
 refine hK5 _ ?_
 refine AT_region_q fun Z z => ?_
 simp [row_map, hca, hcb, hcl, hra, hrb, hb41, hr9]
 repeat refine sg ?_
 refine z _ ?_
 clear z Z
 try simp only [nrm, reduceIte, Nat.reduceEqDiff]
 refine hK3 _ (by first | rfl | simp) (l.length - (k+1)) (by omega) ?_
 refine ⟨k+1, by omega, ?_, by omega, by simp⟩
 rw [hc, hda, List.all_cons, hr9, Bool.true_and]
 try simp [row_map, hca, hcb, hcl, hra, hrb] at hb41
 refine AT_exit ?_
 try simp only [nrm, reduceIte, Nat.reduceEqDiff]
 refine hK2 _ ?_
 refine sr fun Z z => ?_
 simp [row_map, hca, hcb, hcl, hra, hrb, hb41]
 repeat refine sg ?_
 refine RVn_call (c_mangle_Dummy g false a hwa.1 hwa.2 hml htab hers herr hp) ?_
 simp [row_map, hca, hcb, hcl, hra, hrb, hb41]
 repeat refine sg ?_
 refine z _ ?_
 clear z Z
 refine sr fun Z z => ?_
 simp [row_map, encG, hca, hcb, hcl, hra, hrb, hb41]
 repeat refine sg ?_
 refine RVn_call ((by have h := c_mangle_Method g false a.name l (by omega) (by omega) hml htab hers herr; exact h)) ?_
 simp [row_map, encG, hca, hcb, hcl, hra, hrb, hb41]
 repeat refine sg ?_
 refine z _ ?_
 clear z Z
 refine AT_seq_draw Pt.mixed (by kernel_rfl) fun Z z => ?_
 have hds := dum_same (can_canon a) (can_canon b) hra hrb
 have hd1 := beq_false_of_ne (dumT_ne_mgM (canonG a) a.name l)
 have hd2 := beq_false_of_ne (dumT_ne_top (canonG a))
 have hd3 := beq_false_of_ne (mgM_ne_top a.name l)
 simp [row_map, hds, hd1, hd2, hd3, encG, hca, hcb, hcl, hra, hrb, hb41]
 repeat refine sg ?_
 refine RVdn_call ((by have h := c_ref20x_Dummy g false a hwa.1 hwa.2 hp; exact h)) ?_
 simp [row_map, hds, hd1, hd2, hd3, encG, hca, hcb, hcl, hra, hrb, hb41]
 repeat refine sg ?_
 refine RVdn_call (c_ref20x_Method g false a.name l (by omega) (by omega)) ?_
 simp [row_map, hds, hd1, hd2, hd3, encG, hca, hcb, hcl, hra, hrb, hb41]
 repeat refine sg ?_
 refine RVdn_call ((by have h := c_mangle_Dummy g false b hwb.1 hwb.2 hml htab hers herr hp; exact h)) ?_
 simp [row_map, hds, hd1, hd2, hd3, encG, hca, hcb, hcl, hra, hrb, hb41]
 repeat refine sg ?_
 refine RVdn_call ((by have h := c_law20x_ref10 g false a hwa.1 hp; exact h)) ?_
 simp [row_map, hds, hd1, hd2, hd3, encG, hca, hcb, hcl, hra, hrb, hb41]
 repeat refine sg ?_
 refine RVdn_call ((by have h := c_law20x_ref10 g false b hwb.1 hp; exact h)) ?_
 simp [row_map, hds, hd1, hd2, hd3, encG, hca, hcb, hcl, hra, hrb, hb41]
 repeat refine sg ?_
 refine RVdn_call ((by have h := c_ref06x_Sig g false (canonG a) (canonG b) (by omega); exact h)) ?_
 simp [row_map, hds, hd1, hd2, hd3, encG, hca, hcb, hcl, hra, hrb, hb41]
 repeat refine sg ?_
 refine RVdn_call (c_mangle_Top g false) ?_
 simp [row_map, hds, hd1, hd2, hd3, encG, hca, hcb, hcl, hra, hrb, hb41]
 repeat refine sg ?_
 refine RVdn_call (c_mangle_Top g false) ?_
 simp [row_map, hds, hd1, hd2, hd3, encG, hca, hcb, hcl, hra, hrb, hb41]
 repeat refine sg ?_
 refine z _ ?_
 clear z Z
 refine AT_ret ?_
 simp [row_map, Tryz.f4]
 refine sr fun Z z => ?_
 simp [row_map, hca, hcb, hcl]
 repeat refine sg ?_
 try (
  refine RVn_call (c_law20x_awake g hml htab hers herr hres) ?_
  simp [row_map, hca, hcb, hcl]
  repeat refine sg ?_)
 try (
  refine RVn_call (c_ref10x_Few g false a hfa) ?_
  simp [row_map, hca, hcb, hcl]
  repeat refine sg ?_)
 try (
  refine RVn_call (c_ref10x_Few g false b hfb) ?_
  simp [row_map, hca, hcb, hcl]
  repeat refine sg ?_)
 try (
  refine RVn_call (c_ref04x_FewAll g false l hll hfl) ?_
  simp [row_map, hca, hcb, hcl]
  repeat refine sg ?_)
 try (
  refine RVn_call (c_ref20x_RightSig g false a hwa.1 hwa.2 hp) ?_
  simp [row_map, hca, hcb, hcl]
  repeat refine sg ?_)
 try (
  refine RVn_call (c_ref20x_RightSig g false b hwb.1 hwb.2 hp) ?_
  simp [row_map, hca, hcb, hcl]
  repeat refine sg ?_)
 refine z _ ?_
 clear z Z
 refine cT (by simp [hca, hcb, hcl]) ?_
 refine sr fun Z z => ?_
 simp [row_map, hca, hcb, hcl]
 repeat refine sg ?_
 refine RVn_call (c_law20x_awake g hml htab hers herr hres) ?_
 simp [row_map, hca, hcb, hcl]
 repeat refine sg ?_
 refine z _ ?_
 clear z Z
 refine AT_ret ?_
 simp [row_map, Tryz.f4]
 refine sr fun Z z => ?_
 simp [row_map, hca, hcb]
 repeat refine sg ?_
 try (
  refine RVn_call (c_law20x_awake g hml htab hers herr hres) ?_
  simp [row_map, hca, hcb]
  repeat refine sg ?_)
 try (
  refine RVn_call (c_ref10x_Few g false a hfa) ?_
  simp [row_map, hca, hcb]
  repeat refine sg ?_)
 try (
  refine RVn_call (c_ref10x_Few g false b hfb) ?_
  simp [row_map, hca, hcb]
  repeat refine sg ?_)
 try (
  refine RVn_call (c_ref04x_FewAll g false l hll hfl) ?_
  simp [row_map, hca, hcb]
  repeat refine sg ?_)
 try (
  refine RVn_call (c_ref20x_RightSig g false a hwa.1 hwa.2 hp) ?_
  simp [row_map, hca, hcb]
  repeat refine sg ?_)
 try (
  refine RVn_call (c_ref20x_RightSig g false b hwb.1 hwb.2 hp) ?_
  simp [row_map, hca, hcb]
  repeat refine sg ?_)
 refine z _ ?_
 clear z Z
 refine cT (by simp [hca, hcb]) ?_
 refine sr fun Z z => ?_
 simp [row_map, hca, hcb]
 repeat refine sg ?_
 refine RVn_call (c_law20x_awake g hml htab hers herr hres) ?_
 simp [row_map, hca, hcb]
 repeat refine sg ?_
 refine z _ ?_
 clear z Z
 refine AT_ret ?_
 simp [row_map, Tryz.f4]
 refine sr fun Z z => ?_
 simp [row_map, hca]
 repeat refine sg ?_
 try (
  refine RVn_call (c_law20x_awake g hml htab hers herr hres) ?_
  simp [row_map, hca]
  repeat refine sg ?_)
 try (
  refine RVn_call (c_ref10x_Few g false a hfa) ?_
  simp [row_map, hca]
  repeat refine sg ?_)
 try (
  refine RVn_call (c_ref10x_Few g false b hfb) ?_
  simp [row_map, hca]
  repeat refine sg ?_)
 try (
  refine RVn_call (c_ref04x_FewAll g false l hll hfl) ?_
  simp [row_map, hca]
  repeat refine sg ?_)
 try (
  refine RVn_call (c_ref20x_RightSig g false a hwa.1 hwa.2 hp) ?_
  simp [row_map, hca]
  repeat refine sg ?_)
 try (
  refine RVn_call (c_ref20x_RightSig g false b hwb.1 hwb.2 hp) ?_
  simp [row_map, hca]
  repeat refine sg ?_)
 refine z _ ?_
 clear z Z
 refine cT (by simp [hca]) ?_
 refine sr fun Z z => ?_
 simp [row_map, hca]
 repeat refine sg ?_
 refine RVn_call (c_law20x_awake g hml htab hers herr hres) ?_
 simp [row_map, hca]
 repeat refine sg ?_
 refine z _ ?_
 clear z Z
 refine AT_ret ?_
 simp [row_map, Tryz.f4]

end Go.Proofs.YtocmdbojefgpbaaGreatDoor
end

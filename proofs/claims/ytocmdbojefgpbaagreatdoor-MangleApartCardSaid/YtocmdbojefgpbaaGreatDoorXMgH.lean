import Derived.Test.YtocmdbojefgpbaaGreatDoorPt
import Derived.Test.YtocmdbojefgpbaaGreatDoorPvPa
import Derived.Test.YtocmdbojefgpbaaGreatDoorPvY
import Derived.Test.YtocmdbojefgpbaaGreatDoorXMgF
import Derived.Test.YtocmdbojefgpbaaGreatDoorXNaB
section
/- Names of instances: what every law of this package asks first. -/
set_option linter.all false
set_option maxHeartbeats 1000000
set_option maxRecDepth 10000
namespace Go.Proofs.YtocmdbojefgpbaaGreatDoor
open Go Go.Pv
variable (g : Nat → Option (List AV)) (rnd : Bool)

def aw9 : Ty := .mk [77, 97, 112] [.mk [97, 95, 98] [] 0, .mk [76, 105, 115, 116] [.mk [73, 110, 116] [] 0] 0] 0
def ae9 : Exp := .mk 2 [109] ty0 [.mk [84] [] 0] [.mk 3 [] aw9 [] [] 0] 0
theorem c_law20x_awake (hml : ∃ m, g 4 = some [.int .i64 m]) (htab : g 3 = some pow10A) (hers : ∃ x, g 1 = some [.iface 159 x]) (herr : ∃ x, g 2 = some [.iface 159 x]) (hres : g 0 = some reservedA) : Valid Tryz.prog (G0 g false) 7 [] (.bool true) := by

 refine valid_of [] Tryz.func7 rfl (by kernel_rfl) ?_
 refine sr fun Z z => ?_
 simp [Tryz.f7]
 apply z
 refine sr fun Z z => ?_
 simp
 apply z
 refine sr fun Z z => ?_
 simp
 refine RVn_call ((by have h := (by have h := c_mangle_Parse g (mgT aw9) (by decide) htab hers herr hres; rw [parse_back (by decide)] at h; exact h : Valid Tryz.prog (G0 g false) 11 [.str (mgT aw9)] (.tup [.agg (encTy (z0 aw9)), .bool true])); exact h : Valid Tryz.prog (G0 g false) 11 [.str [77, 97, 112, 95, 76, 97, 95, 95, 98, 95, 67, 76, 105, 115, 116, 95, 76, 73, 110, 116, 95, 82, 95, 82]] (.tup [.agg [.str [77, 97, 112], .slice [[.str [97, 95, 98], .slice [], .int .i64 0], [.str [76, 105, 115, 116], .slice [[.str [73, 110, 116], .slice [], .int .i64 0]], .int .i64 0]], .int .i64 0], .bool true]))) ?_
 simp
 apply z
 refine sr fun Z z => ?_
 simp
 refine RVn_call ((by have h := c_mangle_Expr g false hml htab hers herr ae9 (by decide); exact h : Valid Tryz.prog (G0 g false) 28 [.agg [.int .i64 2, .str [109], .str [], .slice [], .int .i64 0, .slice [[.str [84], .slice [], .int .i64 0]], .slice [[.int .i64 3, .str [], .str [77, 97, 112], .slice [[.str [97, 95, 98], .slice [], .int .i64 0], [.str [76, 105, 115, 116], .slice [[.str [73, 110, 116], .slice [], .int .i64 0]], .int .i64 0]], .int .i64 0, .slice [], .slice [], .int .i64 0]], .int .i64 0]] (.agg [.int .i64 2, .str [109, 95, 76, 84, 95, 82], .str [], .slice [], .int .i64 0, .slice [], .slice [[.int .i64 3, .str [], .str [77, 97, 112, 95, 76, 97, 95, 95, 98, 95, 67, 76, 105, 115, 116, 95, 76, 73, 110, 116, 95, 82, 95, 82], .slice [], .int .i64 0, .slice [], .slice [], .int .i64 0]], .int .i64 0]))) ?_
 simp
 apply z
 refine sr fun Z z => ?_
 simp
 refine RVn_call ((by have h := c_mangle_Type g false hml htab hers herr aw9 (by decide); exact h : Valid Tryz.prog (G0 g false) 10 [.agg [.str [77, 97, 112], .slice [[.str [97, 95, 98], .slice [], .int .i64 0], [.str [76, 105, 115, 116], .slice [[.str [73, 110, 116], .slice [], .int .i64 0]], .int .i64 0]], .int .i64 0]] (.str [77, 97, 112, 95, 76, 97, 95, 95, 98, 95, 67, 76, 105, 115, 116, 95, 76, 73, 110, 116, 95, 82, 95, 82]))) ?_
 simp
 refine RVn_call ((by have h := c_ref04x_Same g false aw9 aw9 (by decide); exact h : Valid Tryz.prog (G0 g false) 14 [.agg [.str [77, 97, 112], .slice [[.str [97, 95, 98], .slice [], .int .i64 0], [.str [76, 105, 115, 116], .slice [[.str [73, 110, 116], .slice [], .int .i64 0]], .int .i64 0]], .int .i64 0], .agg [.str [77, 97, 112], .slice [[.str [97, 95, 98], .slice [], .int .i64 0], [.str [76, 105, 115, 116], .slice [[.str [73, 110, 116], .slice [], .int .i64 0]], .int .i64 0]], .int .i64 0]] (.bool true))) ?_
 simp
 refine RVn_call ((by have h := c_mangle_Method g false [109] [] (by decide) (by decide) hml htab hers herr; exact h : Valid Tryz.prog (G0 g false) 20 [.str [109], .slice []] (.str [109]))) ?_
 simp
 refine RVn_call ((by have h := c_mangle_Dummy_z g false [109] (.mk [84] [] 0) 0 (by decide) (by decide) hml htab hers herr; exact h : Valid Tryz.prog (G0 g false) 19 [.agg [.str [109], .slice [], .slice [], .str [84], .slice [], .int .i64 0, .int .i64 0]] (.str [109, 95, 83, 84, 95, 69]))) ?_
 simp
 refine RVn_call ((by have h := c_mangle_Top g false; exact h : Valid Tryz.prog (G0 g false) 25 [] (.str [84, 111, 112, 95, 84]))) ?_
 simp
 refine RVn_call ((by have h := c_mangle_Plain g false aw9 (by decide) hml htab hers herr; exact h : Valid Tryz.prog (G0 g false) 12 [.agg [.str [77, 97, 112], .slice [[.str [97, 95, 98], .slice [], .int .i64 0], [.str [76, 105, 115, 116], .slice [[.str [73, 110, 116], .slice [], .int .i64 0]], .int .i64 0]], .int .i64 0]] (.agg [.str [77, 97, 112, 95, 76, 97, 95, 95, 98, 95, 67, 76, 105, 115, 116, 95, 76, 73, 110, 116, 95, 82, 95, 82], .slice [], .int .i64 0]))) ?_
 simp
 apply z
 refine AT_ret ?_
 simp [Tryz.f7]

end Go.Proofs.YtocmdbojefgpbaaGreatDoor
end

section
/- The laws: names of types, and of methods with type arguments. -/
set_option linter.all false
set_option maxHeartbeats 1000000
set_option maxRecDepth 10000
namespace Go.Proofs.YtocmdbojefgpbaaGreatDoor
open Go Go.Pv
variable (g : Nat → Option (List AV)) (rnd : Bool)

theorem fewAll_wts {l : List Ty} (h : cnts l 0 ≤ 200) : wts l ≤ 10050 := by
  have h1 := (cnts_sum l 0).2 (by omega)
  have h2 := wt_sum (.mk [] l 0)
  simp only [wt, csum, List.length_nil] at h2
  omega
theorem c_law20x_MangleApart (m n : Str) (a b : List Ty) (hsm : m.length ≤ 140737488355328) (hsn : n.length ≤ 140737488355328) (hla : a.length ≤ 140737488355328) (hlb : b.length ≤ 140737488355328) (hfa : fits a) (hfb : fits b) (hml : ∃ m, g 4 = some [.int .i64 m]) (htab : g 3 = some pow10A) (hers : ∃ x, g 1 = some [.iface 159 x]) (herr : ∃ x, g 2 = some [.iface 159 x]) (hres : g 0 = some reservedA) : Valid Tryz.prog (G0 g false) 6 [.str m, .str n, .slice (a.map encTy), .slice (b.map encTy)] (.bool true) := by

 refine valid_of [] Tryz.func6 rfl (by kernel_rfl) ?_
 refine sr fun Z z => ?_
 simp [Tryz.f6]
 apply z
 refine AT_seq_k fun K1 hK1 => ?_
 cases him : isName m
 refine sr fun Z z => ?_
 simp
 refine RVn_call (c_law20x_awake g hml htab hers herr hres) ?_
 simp
 repeat refine sg ?_
 refine RVn_call (c_ref01x_Is g false m hsm) ?_
 simp [him]
 repeat refine sg ?_
 apply z
 refine cT (by simp) ?_
 refine sr fun Z z => ?_
 simp
 refine RVn_call (c_law20x_awake g hml htab hers herr hres) ?_
 simp
 apply z
 refine AT_ret ?_
 simp [Tryz.f6]
 cases hin : isName n
 refine sr fun Z z => ?_
 simp
 refine RVn_call (c_law20x_awake g hml htab hers herr hres) ?_
 simp
 repeat refine sg ?_
 refine RVn_call (c_ref01x_Is g false m hsm) ?_
 simp [him]
 repeat refine sg ?_
 refine RVn_call (c_ref01x_Is g false n hsn) ?_
 simp [hin]
 repeat refine sg ?_
 apply z
 refine cT (by simp) ?_
 refine sr fun Z z => ?_
 simp
 refine RVn_call (c_law20x_awake g hml htab hers herr hres) ?_
 simp
 apply z
 refine AT_ret ?_
 simp [Tryz.f6]
 by_cases hm3 : (300 : Int) < m.length
 refine sr fun Z z => ?_
 simp
 refine RVn_call (c_law20x_awake g hml htab hers herr hres) ?_
 simp
 repeat refine sg ?_
 refine RVn_call (c_ref01x_Is g false m hsm) ?_
 simp [him]
 repeat refine sg ?_
 refine RVn_call (c_ref01x_Is g false n hsn) ?_
 simp [hin, hm3]
 repeat refine sg ?_
 apply z
 refine cT (by simp) ?_
 refine sr fun Z z => ?_
 simp
 refine RVn_call (c_law20x_awake g hml htab hers herr hres) ?_
 simp
 apply z
 refine AT_ret ?_
 simp [Tryz.f6]
 by_cases hn3 : (300 : Int) < n.length
 refine sr fun Z z => ?_
 simp
 refine RVn_call (c_law20x_awake g hml htab hers herr hres) ?_
 simp
 repeat refine sg ?_
 refine RVn_call (c_ref01x_Is g false m hsm) ?_
 simp [him]
 repeat refine sg ?_
 refine RVn_call (c_ref01x_Is g false n hsn) ?_
 simp [hin, hm3, hn3]
 repeat refine sg ?_
 apply z
 refine cT (by simp) ?_
 refine sr fun Z z => ?_
 simp
 refine RVn_call (c_law20x_awake g hml htab hers herr hres) ?_
 simp
 apply z
 refine AT_ret ?_
 simp [Tryz.f6]
 by_cases hca : cnts a 0 ≤ 200
 have hwa := fewAll_wts hca
 by_cases hcb : cnts b 0 ≤ 200
 have hwb := fewAll_wts hcb
 refine sr fun Z z => ?_
 simp
 refine RVn_call (c_law20x_awake g hml htab hers herr hres) ?_
 simp
 repeat refine sg ?_
 refine RVn_call (c_ref01x_Is g false m hsm) ?_
 simp [him]
 repeat refine sg ?_
 refine RVn_call (c_ref01x_Is g false n hsn) ?_
 simp [hin, hm3, hn3]
 repeat refine sg ?_
 refine RVn_call (c_ref04x_FewAll g false a hla hfa) ?_
 simp [hca]
 repeat refine sg ?_
 refine RVn_call (c_ref04x_FewAll g false b hlb hfb) ?_
 simp [hcb]
 repeat refine sg ?_
 apply z
 refine cF (by simp) ?_
 refine AT_skip ?_
 refine hK1 _ ?_
 refine sr fun Z z => ?_
 simp
 apply z
 refine sr fun Z z => ?_
 simp
 apply z
 refine AT_seq_k fun K2 hK2 => ?_
 cases hra : r20 (.mk m a 0)
 refine sr fun Z z => ?_
 simp
 refine RVn_call ((by have h := c_ref20x_Right g false (.mk m a 0) (by simp only [wt]; omega); simp only [encTy_mk] at h; exact h)) ?_
 simp [hra]
 repeat refine sg ?_
 apply z
 refine cT (by simp) ?_
 refine sr fun Z z => ?_
 simp
 apply z
 refine AT_ret ?_
 simp [Tryz.f6]
 cases hrb : r20 (.mk n b 0)
 refine sr fun Z z => ?_
 simp
 refine RVn_call ((by have h := c_ref20x_Right g false (.mk m a 0) (by simp only [wt]; omega); simp only [encTy_mk] at h; exact h)) ?_
 simp [hra]
 repeat refine sg ?_
 refine RVn_call ((by have h := c_ref20x_Right g false (.mk n b 0) (by simp only [wt]; omega); simp only [encTy_mk] at h; exact h)) ?_
 simp [hrb]
 repeat refine sg ?_
 apply z
 refine cT (by simp) ?_
 refine sr fun Z z => ?_
 simp
 apply z
 refine AT_ret ?_
 simp [Tryz.f6]
 have hinj := mgT_inj hra hrb
 rw [mgM_mk him, mgM_mk hin] at hinj
 refine sr fun Z z => ?_
 simp
 refine RVn_call ((by have h := c_ref20x_Right g false (.mk m a 0) (by simp only [wt]; omega); simp only [encTy_mk] at h; exact h)) ?_
 simp [hra]
 repeat refine sg ?_
 refine RVn_call ((by have h := c_ref20x_Right g false (.mk n b 0) (by simp only [wt]; omega); simp only [encTy_mk] at h; exact h)) ?_
 simp [hrb]
 repeat refine sg ?_
 apply z
 refine cF (by simp) ?_
 refine AT_skip ?_
 refine hK2 _ ?_
 refine AT_seq_draw Pt.mixed (by kernel_rfl) fun Z z => ?_
 simp
 refine RVdn_call (c_mangle_Method g false m a (by omega) (by omega) hml htab hers herr) ?_
 simp
 refine RVdn_call (c_mangle_Method g false n b (by omega) (by omega) hml htab hers herr) ?_
 simp [hinj]
 refine RVdn_call ((by have h := c_ref04x_Same g false (.mk m a 0) (.mk n b 0) (by simp only [wt]; omega); simp only [encTy_mk] at h; exact h)) ?_
 simp
 refine RVdn_call (c_mangle_Method g false m a (by omega) (by omega) hml htab hers herr) ?_
 simp
 refine RVdn_call (c_ref20x_Method g false m a (by omega) (by omega)) ?_
 simp
 apply z
 refine AT_ret ?_
 simp [Tryz.f6]
 refine sr fun Z z => ?_
 simp
 refine RVn_call (c_law20x_awake g hml htab hers herr hres) ?_
 simp
 repeat refine sg ?_
 refine RVn_call (c_ref01x_Is g false m hsm) ?_
 simp [him]
 repeat refine sg ?_
 refine RVn_call (c_ref01x_Is g false n hsn) ?_
 simp [hin, hm3, hn3]
 repeat refine sg ?_
 refine RVn_call (c_ref04x_FewAll g false a hla hfa) ?_
 simp [hca]
 repeat refine sg ?_
 refine RVn_call (c_ref04x_FewAll g false b hlb hfb) ?_
 simp [hcb]
 repeat refine sg ?_
 apply z
 refine cT (by simp) ?_
 refine sr fun Z z => ?_
 simp
 refine RVn_call (c_law20x_awake g hml htab hers herr hres) ?_
 simp
 apply z
 refine AT_ret ?_
 simp [Tryz.f6]
 refine sr fun Z z => ?_
 simp
 refine RVn_call (c_law20x_awake g hml htab hers herr hres) ?_
 simp
 repeat refine sg ?_
 refine RVn_call (c_ref01x_Is g false m hsm) ?_
 simp [him]
 repeat refine sg ?_
 refine RVn_call (c_ref01x_Is g false n hsn) ?_
 simp [hin, hm3, hn3]
 repeat refine sg ?_
 refine RVn_call (c_ref04x_FewAll g false a hla hfa) ?_
 simp [hca]
 repeat refine sg ?_
 apply z
 refine cT (by simp) ?_
 refine sr fun Z z => ?_
 simp
 refine RVn_call (c_law20x_awake g hml htab hers herr hres) ?_
 simp
 apply z
 refine AT_ret ?_
 simp [Tryz.f6]

end Go.Proofs.YtocmdbojefgpbaaGreatDoor
end

import Derived.Test.YtfgafcjebfjepaaGreatDoorPt
import Derived.Test.YtfgafcjebfjepaaGreatDoorPvPb
import Derived.Test.YtfgafcjebfjepaaGreatDoorPvLa
import Derived.Test.YtfgafcjebfjepaaGreatDoorXQcA
import Derived.Test.YtfgafcjebfjepaaGreatDoorPvDc
import Derived.Test.YtfgafcjebfjepaaGreatDoorPvEb
import Derived.Test.YtfgafcjebfjepaaGreatDoorXDcE
import Derived.Test.YtfgafcjebfjepaaGreatDoorPvOe
import Derived.Test.YtfgafcjebfjepaaGreatDoorXDcB
import Derived.Test.YtfgafcjebfjepaaGreatDoorXExA
import Derived.Test.YtfgafcjebfjepaaGreatDoorXNaB
import Derived.Test.YtfgafcjebfjepaaGreatDoorXDcC
import Derived.Test.YtfgafcjebfjepaaGreatDoorPvHe
import Derived.Test.YtfgafcjebfjepaaGreatDoorXRdH
import Derived.Test.YtfgafcjebfjepaaGreatDoorXLxE
import Derived.Test.YtfgafcjebfjepaaGreatDoorXRdE
import Derived.Test.YtfgafcjebfjepaaGreatDoorXTyD
import Derived.Test.YtfgafcjebfjepaaGreatDoorXShelf
section
/- Contracts: the reference's types of a program. -/
set_option linter.all false
set_option maxHeartbeats 1000000
set_option maxRecDepth 10000
namespace Go.Proofs.YtfgafcjebfjepaaGreatDoor
open Go Go.Pv
variable (g : Nat → Option (List AV)) (rnd : Bool)

end Go.Proofs.YtfgafcjebfjepaaGreatDoor
end

section
/- Contracts: what every law of this package asks first. -/
set_option linter.all false
set_option maxHeartbeats 1000000
set_option maxRecDepth 10000
namespace Go.Proofs.YtfgafcjebfjepaaGreatDoor
open Go Go.Pv
variable (g : Nat → Option (List AV)) (rnd : Bool)

theorem c_law08x_told (k n : Int) (hk : k ≠ 0) (hty : g 0 = some errTy) : Valid Tryz.prog (G0 g false) 20 [.iface 154 (.agg [.int .i64 k, .int .i64 n]), .int .i64 k, .int .i64 n] (.bool true) := by
 have hk2 : (k == 0) = false := by simpa using hk
 refine valid_of [] Tryz.func20 rfl (by kernel_rfl) ?_
 refine sr fun Z z => ?_
 simp [hk2, Tryz.f20]
 refine z _ ?_
 clear z Z
 refine AT_seq_k fun K1 hK1 => ?_
 refine sr fun Z z => ?_
 simp [hk2]
 refine z _ ?_
 clear z Z
 refine cF (by simp [hk2]) ?_
 refine AT_skip ?_
 refine hK1 _ ?_
 refine sr fun Z z => ?_
 simp [hk2]
 refine RVn_call (fault_Code_f g false hty _ _) ?_
 simp [hk2]
 refine z _ ?_
 clear z Z
 refine sr fun Z z => ?_
 simp [hk2]
 refine RVn_call (fault_At_f g false hty _ _) ?_
 simp [hk2]
 refine z _ ?_
 clear z Z
 refine sr fun Z z => ?_
 simp [hk2]
 refine z _ ?_
 clear z Z
 refine AT_ret ?_
 simp [hk2, Tryz.f20]

def lwT (n : Str) (p : Int) : Ty := .mk n [] p
def lwD0 : Dc := ⟨1, [84], [⟨[97], lwT [65, 110, 121] 23, 21⟩], [⟨[102], lwT [97] 39, 37⟩], [], [], [], sg0, ex0, 19⟩
def lwD1 : Dc := ⟨3, [84], [], [], [], [120], [[97]], ⟨[109], [], [⟨[121], .mk [84] [lwT [97] 65] 63, 61⟩], lwT [97] 69, 59⟩, .mk 4 [102] ty0 [] [.mk 1 [120] ty0 [] [] 80] 82, 53⟩
def lwM : Exp := .mk 3 [] (.mk [84] [lwT [84] 107] 105) [] [] 105
def lwP : Pg := ⟨[lwD0, lwD1], lwM⟩
def lwI : Dc := ⟨2, [73], [], [], [⟨[109], [], [], lwT [73] 23, 19⟩], [], [], sg0, ex0, 5⟩
theorem lw1 : wholeC 154 pg0 rdP [112, 97, 99, 107, 97, 103, 101, 32, 109, 97, 105, 110, 59, 32, 116, 121, 112, 101, 32, 84, 91, 97, 32, 65, 110, 121, 93, 32, 115, 116, 114, 117, 99, 116, 32, 123, 32, 102, 32, 97, 59, 32, 125, 59, 32, 102, 117, 110, 99, 32, 40, 120, 32, 84, 91, 97, 93, 41, 32, 109, 40, 121, 32, 84, 91, 97, 93, 41, 32, 97, 32, 123, 32, 114, 101, 116, 117, 114, 110, 32, 120, 46, 102, 32, 125, 59, 32, 102, 117, 110, 99, 32, 109, 97, 105, 110, 40, 41, 32, 123, 32, 95, 32, 61, 32, 84, 91, 84, 93, 123, 125, 32, 125] = (lwP, .nilIface) := by kernel_rfl
theorem lw2 : wholeC 154 pg0 rdP [112, 97, 99, 107, 97, 103, 101, 32, 109, 97, 105, 110] = (pg0, .iface 154 (.agg [.int .i64 2, .int .i64 12])) := by kernel_rfl
theorem lw3 : wholeC 154 dc0 rdD [116, 121, 112, 101, 32, 73, 32, 105, 110, 116, 101, 114, 102, 97, 99, 101, 32, 123, 32, 109, 40, 41, 32, 73, 59, 32, 125, 59] = (lwI, .nilIface) := by kernel_rfl
theorem lw4 : wholeC 154 pg0 rdP [120] = (pg0, .iface 154 (.agg [.int .i64 2, .int .i64 0])) := by kernel_rfl

theorem c_law08x_awake (hres : g 1 = some reservedA) (hty : g 0 = some errTy) : Valid Tryz.prog (G0 g false) 8 [] (.bool true) := by

 refine valid_of [] Tryz.func8 rfl (by kernel_rfl) ?_
 refine sr fun Z z => ?_
 simp [encPg, encD, Tryz.f8]
 refine z _ ?_
 clear z Z
 refine sr fun Z z => ?_
 simp [encPg, encD]
 refine RVn_call ((by have h := c_parse_Program g [112, 97, 99, 107, 97, 103, 101, 32, 109, 97, 105, 110, 59, 32, 116, 121, 112, 101, 32, 84, 91, 97, 32, 65, 110, 121, 93, 32, 115, 116, 114, 117, 99, 116, 32, 123, 32, 102, 32, 97, 59, 32, 125, 59, 32, 102, 117, 110, 99, 32, 40, 120, 32, 84, 91, 97, 93, 41, 32, 109, 40, 121, 32, 84, 91, 97, 93, 41, 32, 97, 32, 123, 32, 114, 101, 116, 117, 114, 110, 32, 120, 46, 102, 32, 125, 59, 32, 102, 117, 110, 99, 32, 109, 97, 105, 110, 40, 41, 32, 123, 32, 95, 32, 61, 32, 84, 91, 84, 93, 123, 125, 32, 125] (by decide) hres; rw [lw1] at h; simp only [encPg] at h; exact h)) ?_
 simp [encPg, encD]
 refine z _ ?_
 clear z Z
 refine sr fun Z z => ?_
 simp [encPg, encD]
 refine RVn_call ((by have h := c_parse_Program g [112, 97, 99, 107, 97, 103, 101, 32, 109, 97, 105, 110] (by decide) hres; rw [lw2] at h; simp only [encPg] at h; exact h)) ?_
 simp [encPg, encD]
 refine z _ ?_
 clear z Z
 refine sr fun Z z => ?_
 simp [encPg, encD]
 refine RVn_call ((by have h := c_parse_Decl g [116, 121, 112, 101, 32, 73, 32, 105, 110, 116, 101, 114, 102, 97, 99, 101, 32, 123, 32, 109, 40, 41, 32, 73, 59, 32, 125, 59] (by decide) hres; rw [lw3] at h; simp only [encD] at h; exact h)) ?_
 simp [encPg, encD]
 refine z _ ?_
 clear z Z
 refine sr fun Z z => ?_
 simp [encPg, encD]
 refine RVn_call ((by have h := c_parse_Tree g [120] (by decide) hres _ (.inr ⟨_, _, lw4, rfl⟩); simp only [encPg] at h; exact h)) ?_
 simp [encPg, encD]
 refine z _ ?_
 clear z Z
 refine AT_seq_k fun K1 hK1 => ?_
 refine sr fun Z z => ?_
 simp [encPg, encD, lwP, lwI]
 refine z _ ?_
 clear z Z
 refine cF (by simp) ?_
 refine AT_skip ?_
 refine hK1 _ ?_
 refine sr fun Z z => ?_
 simp [encPg, encD, lwP, lwD0, lwD1, lwM, lwI, lwT, encPg, encD, encF, encG, encS, encTy_mk, encE_mk, encTy_def, encE_def, sg0, ex0, ty0, dc0, pg0, row]
 refine RVn_call (c_law08x_told g 2 12 (by decide) hty) ?_
 simp [encPg, encD, lwP, lwD0, lwD1, lwM, lwI, lwT, encPg, encD, encF, encG, encS, encTy_mk, encE_mk, encTy_def, encE_def, sg0, ex0, ty0, dc0, pg0, row]
 repeat refine sg ?_
 refine z _ ?_
 clear z Z
 refine AT_ret ?_
 simp [encPg, encD, Tryz.f8]
 skip

end Go.Proofs.YtfgafcjebfjepaaGreatDoor
end

section
/- Contracts: joined texts, lines, errors. -/
set_option linter.all false
set_option maxHeartbeats 1000000
set_option maxRecDepth 10000
namespace Go.Proofs.YtfgafcjebfjepaaGreatDoor
open Go Go.Pv
variable (g : Nat → Option (List AV)) (rnd : Bool)

theorem c_ref03x_Join (a : List Tk) (hz : szK (a.map ktOf) ≤ 1000000000) : Valid Tryz.prog (G0 g rnd) 17 [.slice (a.map encK)] (.str (refJ (a.map ktOf))) := by
 have hl : a.length ≤ 1000000000 := by have := szK_len (a.map ktOf); rw [List.length_map] at this; omega
 refine valid_of [] Tryz.func17 rfl (by kernel_rfl) ?_
 refine sr fun Z z => ?_
 simp [Tryz.f17]
 apply z
 refine sr fun Z z => ?_
 simp
 apply z
 refine AT_seq_k fun K1 hK1 => ?_
 refine sr fun Z z => ?_
 simp
 apply z
 refine AT_block ?_
 refine AT_loop_q [0,3,4] [] (fun j s => ∃ k, k ≤ a.length ∧ j = a.length - k ∧ s = { n := 37, tm := [(0, .v (.slice (a.map encK)) none), (3, .v (.str (refJ ((a.map ktOf).take k))) none), (4, .v (.int .i64 k) none)], bx := [], tb := [], sh := [], hint := [] }) (a.length) (by first | rfl | simp) ?_ ?_
 exact ⟨0, by simp [refJ]⟩
 rintro j s ⟨k, hk, rfl, rfl⟩ K2 hK2
 refine AT_seq_k fun K3 hK3 => ?_
 refine sr fun Z z => ?_
 simp
 apply z
 refine AT_cond (g := none) rfl (fun hb8 => ?_) (fun hb8 => ?_)
 simp at hb8
 refine AT_skip ?_
 refine hK3 _ ?_
 refine AT_seq_k fun K4 hK4 => ?_
 refine AT_block ?_
 refine AT_seq_k fun K5 hK5 => ?_
 cases h3 : (a[k].1 != 3)
 have h3b : a[k].1 = 3 := by simpa using h3
 refine sr fun Z z => ?_
 have hrz := refJ_sz ((a.map ktOf).take k)
 have hrt := szK_take (a.map ktOf) k
 have hrg := szK_kt_get hb8
 simp [row_map, encK, hb8, h3]
 apply z
 refine cF (by simp) ?_
 refine AT_skip ?_
 refine hK5 _ ?_
 refine sr fun Z z => ?_
 simp [row_map, encK, hb8, h3]
 apply z
 refine cF (by simp) ?_
 refine AT_skip ?_
 refine hK4 _ ?_
 refine AT_region_q fun Z z => ?_
 simp
 repeat refine sgX ?_
 apply z
 refine hK2 _ (by first | rfl | simp) (a.length - (k+1)) (by omega) ?_
 have hj := refJ_kt2 hb8
 exact ⟨k+1, by omega, by omega, by rw [hj]; first | (· simp [refJS, ktOf, h3b]) | (· simp [refJS, ktOf, h3b, he])⟩
 have h3b : ¬ a[k].1 = 3 := by simpa using h3
 by_cases he : refJ ((a.map ktOf).take k) = []
 refine sr fun Z z => ?_
 have hrz := refJ_sz ((a.map ktOf).take k)
 have hrt := szK_take (a.map ktOf) k
 have hrg := szK_kt_get hb8
 simp [row_map, encK, hb8, h3, he]
 apply z
 refine cF (by simp) ?_
 refine AT_skip ?_
 refine hK5 _ ?_
 refine sr fun Z z => ?_
 simp [row_map, encK, hb8, h3]
 apply z
 refine cT (by simp) ?_
 refine AT_region_q fun Z z => ?_
 simp [row_map, encK, hb8]
 repeat refine sgX ?_
 apply z
 refine hK4 _ ?_
 refine AT_region_q fun Z z => ?_
 simp
 repeat refine sgX ?_
 apply z
 refine hK2 _ (by first | rfl | simp) (a.length - (k+1)) (by omega) ?_
 have hj := refJ_kt2 hb8
 exact ⟨k+1, by omega, by omega, by rw [hj]; first | (· simp [refJS, ktOf, h3b]) | (· simp [refJS, ktOf, h3b, he])⟩
 refine sr fun Z z => ?_
 have hrz := refJ_sz ((a.map ktOf).take k)
 have hrt := szK_take (a.map ktOf) k
 have hrg := szK_kt_get hb8
 simp [row_map, encK, hb8, h3]
 apply z
 refine cT (by simp [he]) ?_
 refine AT_region_q fun Z z => ?_
 simp
 repeat refine sgX ?_
 apply z
 refine hK5 _ ?_
 refine sr fun Z z => ?_
 simp [row_map, encK, hb8, h3]
 apply z
 refine cT (by simp) ?_
 refine AT_region_q fun Z z => ?_
 simp [row_map, encK, hb8]
 repeat refine sgX ?_
 apply z
 refine hK4 _ ?_
 refine AT_region_q fun Z z => ?_
 simp
 repeat refine sgX ?_
 apply z
 refine hK2 _ (by first | rfl | simp) (a.length - (k+1)) (by omega) ?_
 have hj := refJ_kt2 hb8
 exact ⟨k+1, by omega, by omega, by rw [hj]; first | (· simp [refJS, ktOf, h3b]) | (· simp [refJS, ktOf, h3b, he])⟩
 simp at hb8
 refine AT_exit ?_
 refine hK1 _ ?_
 refine sr fun Z z => ?_
 simp
 apply z
 refine AT_ret ?_
 simp [Tryz.f17]
 rw [take_kt hb8]

end Go.Proofs.YtfgafcjebfjepaaGreatDoor
end

section
/- The laws of the lexer. -/
set_option linter.all false
set_option maxHeartbeats 1000000
set_option maxRecDepth 10000
namespace Go.Proofs.YtfgafcjebfjepaaGreatDoor
open Go Go.Pv
variable (g : Nat → Option (List AV)) (rnd : Bool)

def awL : List Tk := [(1, [97], 0), (2, [46], 1), (2, [95], 2), (3, [], 8)]
end Go.Proofs.YtfgafcjebfjepaaGreatDoor
end

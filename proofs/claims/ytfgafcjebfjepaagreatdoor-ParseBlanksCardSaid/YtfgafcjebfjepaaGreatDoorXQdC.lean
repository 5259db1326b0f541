/- The law: a text and the text of its tokens are read as the same program. -/
import Derived.Test.YtfgafcjebfjepaaGreatDoorPt
import Derived.Test.YtfgafcjebfjepaaGreatDoorPvPb
import Derived.Test.YtfgafcjebfjepaaGreatDoorPvLa
import Derived.Test.YtfgafcjebfjepaaGreatDoorXLxG
import Derived.Test.YtfgafcjebfjepaaGreatDoorXLxG
import Derived.Test.YtfgafcjebfjepaaGreatDoorXLxG
set_option linter.all false
set_option maxHeartbeats 1000000
set_option maxRecDepth 10000
namespace Go.Proofs.YtfgafcjebfjepaaGreatDoor
open Go Go.Pv
variable (g : Nat → Option (List AV)) (rnd : Bool)

theorem c_law08x_ParseBlanks (s : Str) (hs : s.length ≤ 140737488355328) (hres : g 1 = some reservedA) (hty : g 0 = some errTy) : Valid Tryz.prog (G0 g false) 5 [.str s] (.bool true) := by

 refine valid_of [] Tryz.func5 rfl (by kernel_rfl) ?_
 refine sr fun Z z => ?_
 simp [encPg, lexR, Tryz.f5]
 refine z _ ?_
 clear z Z
 refine AT_seq_k fun K1 hK1 => ?_
 by_cases hbig : (2000 : Int) < s.length
 refine sr fun Z z => ?_
 simp [encPg, lexR, hbig]
 refine RVn_call (c_law08x_awake g hres hty) ?_
 simp [encPg, lexR, hbig]
 refine z _ ?_
 clear z Z
 refine cT (by simp [hbig]) ?_
 refine sr fun Z z => ?_
 simp [encPg, lexR, hbig]
 refine RVn_call (c_law08x_awake g hres hty) ?_
 simp [encPg, lexR, hbig]
 refine z _ ?_
 clear z Z
 refine AT_ret ?_
 simp [encPg, lexR, Tryz.f5]
 skip
 have hsl : s.length ≤ 2000 := by omega
 refine sr fun Z z => ?_
 simp [encPg, lexR, hbig]
 refine RVn_call (c_law08x_awake g hres hty) ?_
 simp [encPg, lexR, hbig]
 refine z _ ?_
 clear z Z
 refine cF (by simp [hbig]) ?_
 refine AT_skip ?_
 refine hK1 _ ?_
 rcases hx : lexT s with ⟨_ | l, m⟩
 have h1 : wholeC 154 pg0 rdP s = (pg0, .iface 154 (.agg [.int .i64 1, .int .i64 m])) := by unfold wholeC; rw [hx]
 refine sr fun Z z => ?_
 simp [encPg, lexR, hbig]
 refine RVn_call ((by have h := c_ref03x_Tokens g false s (by omega); rw [hx] at h; exact h)) ?_
 simp [encPg, lexR, hbig]
 refine z _ ?_
 clear z Z
 refine AT_seq_k fun K2 hK2 => ?_
 refine sr fun Z z => ?_
 simp [encPg, lexR, hbig]
 refine z _ ?_
 clear z Z
 refine cT (by simp [hbig]) ?_
 refine sr fun Z z => ?_
 simp [encPg, lexR, hbig]
 refine RVn_call ((by have h := c_parse_Program g s (by omega) hres; rw [h1] at h; simp only [encPg] at h; exact h)) ?_
 simp [encPg, lexR, hbig]
 refine z _ ?_
 clear z Z
 refine sr fun Z z => ?_
 simp [encPg, lexR, hbig]
 refine z _ ?_
 clear z Z
 refine AT_ret ?_
 simp [encPg, lexR, Tryz.f5]
 skip
 obtain ⟨b2, b3, b4, b5, b6, b7⟩ := blanks_lex hsl hx
 have hsz := (lexT_some (lexT_bounds hx).1 hx).2.2.1
 rcases blanks_case 154 hsl hx with ⟨p, q, k, h1, h2, h3, h4, h5⟩ | ⟨v, v2, k, n, h0, h1, h2, h3⟩
 have h8 := sameP_refl p
 refine sr fun Z z => ?_
 simp [encPg, lexR, hbig, h4]
 refine RVn_call ((by have h := c_ref03x_Tokens g false s (by omega); rw [hx] at h; exact h)) ?_
 simp [encPg, lexR, hbig, h4]
 refine z _ ?_
 clear z Z
 refine AT_seq_k fun K3 hK3 => ?_
 refine sr fun Z z => ?_
 simp [encPg, lexR, hbig, h4]
 refine z _ ?_
 clear z Z
 refine cF (by simp [hbig, h4]) ?_
 refine AT_skip ?_
 refine hK3 _ ?_
 refine sr fun Z z => ?_
 simp [encPg, lexR, hbig, h4]
 refine RVn_call ((by have h := c_parse_Tree g s (by omega) hres _ (by first | exact .inl ⟨_, h1, rfl⟩ | exact .inr ⟨_, _, h1, rfl⟩); simp only [encPg] at h; exact h)) ?_
 simp [encPg, lexR, hbig, h4]
 refine z _ ?_
 clear z Z
 refine sr fun Z z => ?_
 simp [encPg, lexR, b7, hbig, h4]
 refine RVn_call (c_ref03x_Join g false l (by omega)) ?_
 simp [encPg, lexR, b7, hbig, h4]
 repeat refine sg ?_
 refine RVn_call ((by have h := c_parse_Tree g (joinK (l.map ktOf) ++ wEnd) (by omega) hres _ (by first | exact .inl ⟨_, h2, rfl⟩ | exact .inr ⟨_, _, h2, rfl⟩); simp only [encPg] at h; exact h)) ?_
 simp [encPg, lexR, b7, hbig, h4]
 refine z _ ?_
 clear z Z
 refine sr fun Z z => ?_
 simp [encPg, lexR, hbig, h4]
 refine RVn_call ((by have h := c_ref08x_Program g s (by omega); rw [h3] at h; simp only [encPg] at h; exact h)) ?_
 simp [encPg, lexR, hbig, h4]
 refine z _ ?_
 clear z Z
 refine sr fun Z z => ?_
 simp [encPg, lexR, h8, hbig, h4]
 refine RVn_call ((by first | (have h := c_decl_Same g false p q (by omega); simp only [encPg] at h; exact h) | (have h := c_decl_Same g false p p (by omega); simp only [encPg] at h; exact h))) ?_
 simp [encPg, lexR, h8, hbig, h4]
 repeat refine sg ?_
 refine RVn_call ((by have h := c_ref06x_Same g false p p (by omega); simp only [encPg] at h; exact h)) ?_
 simp [encPg, lexR, h8, hbig, h4]
 repeat refine sg ?_
 refine z _ ?_
 clear z Z
 refine AT_ret ?_
 simp [encPg, lexR, Tryz.f5]
 skip
 obtain ⟨p, hp0⟩ : ∃ p, p = pg0 := ⟨_, rfl⟩
 replace h1 : wholeC 154 pg0 rdP s = (p, .iface 154 v) := by rw [hp0]; exact h1
 replace h2 : wholeC 154 pg0 rdP (joinK (l.map ktOf) ++ wEnd) = (p, .iface 154 v2) := by rw [hp0]; exact h2
 replace h3 : wholeR pg0 rpR s = (p, k, n) := by rw [hp0]; exact h3
 have h5 : wtPg p ≤ 1000 := by rw [hp0]; decide
 have hk2 : (k == 0) = false := by simpa using h0
 have h8 := sameP_refl p
 refine sr fun Z z => ?_
 simp [encPg, lexR, hbig, hk2]
 refine RVn_call ((by have h := c_ref03x_Tokens g false s (by omega); rw [hx] at h; exact h)) ?_
 simp [encPg, lexR, hbig, hk2]
 refine z _ ?_
 clear z Z
 refine AT_seq_k fun K4 hK4 => ?_
 refine sr fun Z z => ?_
 simp [encPg, lexR, hbig, hk2]
 refine z _ ?_
 clear z Z
 refine cF (by simp [hbig, hk2]) ?_
 refine AT_skip ?_
 refine hK4 _ ?_
 refine sr fun Z z => ?_
 simp [encPg, lexR, hbig, hk2]
 refine RVn_call ((by have h := c_parse_Tree g s (by omega) hres _ (by first | exact .inl ⟨_, h1, rfl⟩ | exact .inr ⟨_, _, h1, rfl⟩); simp only [encPg] at h; exact h)) ?_
 simp [encPg, lexR, hbig, hk2]
 refine z _ ?_
 clear z Z
 refine sr fun Z z => ?_
 simp [encPg, lexR, b7, hbig, hk2]
 refine RVn_call (c_ref03x_Join g false l (by omega)) ?_
 simp [encPg, lexR, b7, hbig, hk2]
 repeat refine sg ?_
 refine RVn_call ((by have h := c_parse_Tree g (joinK (l.map ktOf) ++ wEnd) (by omega) hres _ (by first | exact .inl ⟨_, h2, rfl⟩ | exact .inr ⟨_, _, h2, rfl⟩); simp only [encPg] at h; exact h)) ?_
 simp [encPg, lexR, b7, hbig, hk2]
 refine z _ ?_
 clear z Z
 refine sr fun Z z => ?_
 simp [encPg, lexR, hbig, hk2]
 refine RVn_call ((by have h := c_ref08x_Program g s (by omega); rw [h3] at h; simp only [encPg] at h; exact h)) ?_
 simp [encPg, lexR, hbig, hk2]
 refine z _ ?_
 clear z Z
 refine sr fun Z z => ?_
 simp [encPg, lexR, h8, hbig, hk2]
 refine RVn_call ((by first | (have h := c_decl_Same g false p q (by omega); simp only [encPg] at h; exact h) | (have h := c_decl_Same g false p p (by omega); simp only [encPg] at h; exact h))) ?_
 simp [encPg, lexR, h8, hbig, hk2]
 repeat refine sg ?_
 refine RVn_call ((by have h := c_ref06x_Same g false p p (by omega); simp only [encPg] at h; exact h)) ?_
 simp [encPg, lexR, h8, hbig, hk2]
 repeat refine sg ?_
 refine z _ ?_
 clear z Z
 refine AT_ret ?_
 simp [encPg, lexR, Tryz.f5]
 skip

end Go.Proofs.YtfgafcjebfjepaaGreatDoor

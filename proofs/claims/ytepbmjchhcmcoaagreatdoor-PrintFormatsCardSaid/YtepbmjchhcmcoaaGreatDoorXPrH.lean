/- The law: any text is formatted as in the reference. -/
import Derived.Test.YtepbmjchhcmcoaaGreatDoorPt
import Derived.Test.YtepbmjchhcmcoaaGreatDoorPvPb
import Derived.Test.YtepbmjchhcmcoaaGreatDoorPvY
import Derived.Test.YtepbmjchhcmcoaaGreatDoorPvHe
import Derived.Test.YtepbmjchhcmcoaaGreatDoorXPrE
import Derived.Test.YtepbmjchhcmcoaaGreatDoorXRdF
import Derived.Test.YtepbmjchhcmcoaaGreatDoorXQbC
import Derived.Test.YtepbmjchhcmcoaaGreatDoorXErA
set_option linter.all false
set_option maxHeartbeats 1000000
set_option maxRecDepth 10000
namespace Go.Proofs.YtepbmjchhcmcoaaGreatDoor
open Go Go.Pv
variable (g : Nat → Option (List AV)) (rnd : Bool)

theorem c_law09x_PrintFormats (s : Str) (hs : s.length ≤ 140737488355328) (hres : g 2 = some reservedA) (hty : g 0 = some errTy) : Valid Tryz.prog (G0 g false) 5 [.str s] (.bool true) := by

 refine valid_of [] Tryz.func5 rfl (by kernel_rfl) ?_
 refine sr fun Z z => ?_
 simp [encPg, Tryz.f5]
 refine z _ ?_
 clear z Z
 refine AT_seq_k fun K1 hK1 => ?_
 by_cases hbig : (2000 : Int) < s.length
 refine sr fun Z z => ?_
 simp [encPg, hbig]
 refine RVn_call (c_law09x_awake g hres) ?_
 simp [encPg, hbig]
 refine z _ ?_
 clear z Z
 refine cT (by simp [hbig]) ?_
 refine sr fun Z z => ?_
 simp [encPg, hbig]
 refine RVn_call (c_law09x_awake g hres) ?_
 simp [encPg, hbig]
 refine z _ ?_
 clear z Z
 refine AT_ret ?_
 simp [encPg, Tryz.f5]
 skip
 have hsl : s.length ≤ 2000 := by omega
 refine sr fun Z z => ?_
 simp [encPg, hbig]
 refine RVn_call (c_law09x_awake g hres) ?_
 simp [encPg, hbig]
 refine z _ ?_
 clear z Z
 refine cF (by simp [hbig]) ?_
 refine AT_skip ?_
 refine hK1 _ ?_
 rcases format_case 92 s hsl with ⟨p, q, n, h1, h2, ⟨h3, h4, h5⟩, h6, h7, h8, h9⟩ | ⟨k, n, h0, h1, h2⟩
 obtain ⟨hrm, hrd, hrk⟩ := rightPg_parts h3
 obtain ⟨hsm, hsd, -⟩ := rightPg_parts h7
 refine sr fun Z z => ?_
 simp [encPg, hbig]
 refine RVn_call ((by first | exact c_print_Format g s (by omega) hres _ (.inl ⟨p, h1, by omega, hrm, hrd, rfl⟩) | exact c_print_Format g s (by omega) hres _ (.inr ⟨_, _, h1, rfl⟩))) ?_
 simp [encPg, hbig]
 refine z _ ?_
 clear z Z
 refine sr fun Z z => ?_
 simp [encPg, hbig]
 refine RVn_call ((by have h := c_ref08x_Program g s (by omega); rw [h2] at h; simp only [encPg] at h; exact h)) ?_
 simp [encPg, hbig]
 refine z _ ?_
 clear z Z
 refine AT_seq_k fun K2 hK2 => ?_
 refine sr fun Z z => ?_
 simp [encPg, hbig]
 refine z _ ?_
 clear z Z
 refine cF (by simp [hbig]) ?_
 refine AT_skip ?_
 refine hK2 _ ?_
 refine sr fun Z z => ?_
 simp [encPg, hbig]
 refine RVn_call ((by have h := c_print_Format g (progT p) (by omega) hres _ (.inl ⟨q, h6, by omega, hsm, hsd, rfl⟩); rw [h9] at h; exact h)) ?_
 simp [encPg, hbig]
 refine z _ ?_
 clear z Z
 refine sr fun Z z => ?_
 simp [encPg, hbig]
 refine RVn_call ((by have h := c_ref09x_Program g false p (by omega) hrm hrk; simp only [encPg] at h; exact h)) ?_
 simp [encPg, hbig]
 repeat refine sg ?_
 refine z _ ?_
 clear z Z
 refine AT_ret ?_
 simp [encPg, Tryz.f5]
 skip
 have hk3 : (k != 0) = true := by simpa using h0
 refine sr fun Z z => ?_
 simp [encPg, hbig, hk3]
 refine RVn_call ((by first | exact c_print_Format g s (by omega) hres _ (.inl ⟨p, h1, by omega, hrm, hrd, rfl⟩) | exact c_print_Format g s (by omega) hres _ (.inr ⟨_, _, h1, rfl⟩))) ?_
 simp [encPg, hbig, hk3]
 refine z _ ?_
 clear z Z
 refine sr fun Z z => ?_
 simp [encPg, hbig, hk3]
 refine RVn_call ((by have h := c_ref08x_Program g s (by omega); rw [h2] at h; simp only [encPg] at h; exact h)) ?_
 simp [encPg, hbig, hk3]
 refine z _ ?_
 clear z Z
 refine AT_seq_k fun K3 hK3 => ?_
 refine sr fun Z z => ?_
 simp [encPg, hbig, hk3]
 refine z _ ?_
 clear z Z
 refine cT (by simp [hbig, hk3]) ?_
 refine sr fun Z z => ?_
 simp [encPg, hbig, hk3]
 refine RVn_call (fault_Code_f g false hty k n) ?_
 simp [encPg, hbig, hk3]
 refine z _ ?_
 clear z Z
 refine sr fun Z z => ?_
 simp [encPg, hbig, hk3]
 refine RVn_call (fault_At_f g false hty k n) ?_
 simp [encPg, hbig, hk3]
 refine z _ ?_
 clear z Z
 refine sr fun Z z => ?_
 simp [encPg, hbig, hk3]
 refine z _ ?_
 clear z Z
 refine AT_ret ?_
 simp [encPg, Tryz.f5]
 skip

end Go.Proofs.YtepbmjchhcmcoaaGreatDoor

import Derived.Test.YtfgafcjebfjepaaGreatDoorPt
import Derived.Test.YtfgafcjebfjepaaGreatDoorPvPb
import Derived.Test.YtfgafcjebfjepaaGreatDoorPvLa
import Derived.Test.YtfgafcjebfjepaaGreatDoorXTyD
import Derived.Test.YtfgafcjebfjepaaGreatDoorXNaB
import Derived.Test.YtfgafcjebfjepaaGreatDoorXRdB
import Derived.Test.YtfgafcjebfjepaaGreatDoorXRdE
import Derived.Test.YtfgafcjebfjepaaGreatDoorXLxE
import Derived.Test.YtfgafcjebfjepaaGreatDoorXShelf
import Derived.Test.YtfgafcjebfjepaaGreatDoorPvRf
section
/- Contracts. -/
set_option linter.all false
set_option maxHeartbeats 1000000
set_option maxRecDepth 10000
namespace Go.Proofs.YtfgafcjebfjepaaGreatDoor
open Go Go.Pv
variable (g:Nat→Option (List AV)) (rnd:Bool)

end Go.Proofs.YtfgafcjebfjepaaGreatDoor
end

section
/- Contracts. -/
set_option linter.all false
set_option maxHeartbeats 1000000
set_option maxRecDepth 10000
namespace Go.Proofs.YtfgafcjebfjepaaGreatDoor
open Go Go.Pv
variable (g:Nat→Option (List AV)) (rnd:Bool)

end Go.Proofs.YtfgafcjebfjepaaGreatDoor
end

section
/- Contracts. -/
set_option linter.all false
set_option maxHeartbeats 1000000
set_option maxRecDepth 10000
namespace Go.Proofs.YtfgafcjebfjepaaGreatDoor
open Go Go.Pv
variable (g:Nat→Option (List AV)) (rnd:Bool)

end Go.Proofs.YtfgafcjebfjepaaGreatDoor
end

section
/- Contracts: whole texts, errors, what every law of reading asks first. -/
set_option linter.all false
set_option maxHeartbeats 1000000
set_option maxRecDepth 10000
namespace Go.Proofs.YtfgafcjebfjepaaGreatDoor
open Go Go.Pv
variable (g:Nat→Option (List AV)) (rnd:Bool)

theorem c_ref07x_Begin (s:Str) (hs:s.length≤1000000):Valid Tryz.prog (G0 g false) 25 [.str s] (match lexT s with|(none,m)=>.tup [.agg (encP [] ⟨0,false⟩),.int .i64 1,.int .i64 m]|(some l,_)=>.tup [.agg (encP l ⟨0,false⟩),.int .i64 0,.int .i64 0]):=by

 refine valid_of [] Tryz.func25 rfl (by kernel_rfl) ?_
 refine sr fun Z z=>?_
 simp[Tryz.f25]
 apply z
 rcases hx:lexT s with ⟨_|l,m⟩
 refine sr fun Z z=>?_
 simp
 refine RVn_call ((by have h:=c_ref03x_Tokens g false s (by omega);rw[hx] at h;exact h)) ?_
 simp[lexR]
 apply z
 refine AT_seq_k fun K1 hK1=>?_
 refine sr fun Z z=>?_
 simp
 apply z
 refine cT (by simp) ?_
 refine AT_seq_draw_m false [(2,2),(5,5),(12,5)] Pt.mixed (by kernel_rfl) ⟨by simp[Im,okP,AS.get,TV.strip],fun h=>by cases h⟩ fun Z z=>?_
 simp
 apply z
 refine AT_ret ?_
 simp[encP,Tryz.f25]
 refine sr fun Z z=>?_
 simp
 refine RVn_call ((by have h:=c_ref03x_Tokens g false s (by omega);rw[hx] at h;exact h)) ?_
 simp[lexR]
 apply z
 refine AT_seq_k fun K2 hK2=>?_
 refine sr fun Z z=>?_
 simp
 apply z
 refine cF (by simp) ?_
 refine AT_skip ?_
 refine hK2 _ ?_
 refine sr fun Z z=>?_
 simp
 apply z
 refine AT_ret ?_
 simp[encP,Tryz.f25]

def rdX:Exp:=.mk 5 [] (.mk [84] [] 8) [] [.mk 2 [102] ty0 [] [.mk 1 [120] ty0 [] [] 0,.mk 1 [121] ty0 [] [] 4] 2] 7
def rdM:Ty:=.mk [77,97,112] [.mk [97] [] 4,.mk [76,105,115,116] [.mk [98] [] 12] 7] 0
def rdK:List Tk:=[(2,[44],1),(1,[98],3),(3,[],4)]
def rdL:List Tk:=(1,[97],0) :: rdK
def rdN:List Tk:=[(1,[98],3),(3,[],4)]
end Go.Proofs.YtfgafcjebfjepaaGreatDoor
end

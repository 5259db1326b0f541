import Derived.Test.YtfgafcjebfjepaaGreatDoorPt
import Derived.Test.YtfgafcjebfjepaaGreatDoorPvPb
import Derived.Test.YtfgafcjebfjepaaGreatDoorPvLa
import Derived.Test.YtfgafcjebfjepaaGreatDoorXQcA
import Derived.Test.YtfgafcjebfjepaaGreatDoorPvDc
import Derived.Test.YtfgafcjebfjepaaGreatDoorPvEb
import Derived.Test.YtfgafcjebfjepaaGreatDoorXDcE
import Derived.Test.YtfgafcjebfjepaaGreatDoorPvOe
import Derived.Test.YtfgafcjebfjepaaGreatDoorXDcB
import Derived.Test.YtfgafcjebfjepaaGreatDoorXExA
import Derived.Test.YtfgafcjebfjepaaGreatDoorXNaB
import Derived.Test.YtfgafcjebfjepaaGreatDoorXDcC
import Derived.Test.YtfgafcjebfjepaaGreatDoorPvHe
import Derived.Test.YtfgafcjebfjepaaGreatDoorXRdH
section
/- Contracts: the reference's types of a program. -/
set_option linter.all false
set_option maxHeartbeats 1000000
set_option maxRecDepth 10000
namespace Go.Proofs.YtfgafcjebfjepaaGreatDoor
open Go Go.Pv
variable (g:Nat→Option (List AV)) (rnd:Bool)

end Go.Proofs.YtfgafcjebfjepaaGreatDoor
end

section
/- Contracts: what every law of this package asks first. -/
set_option linter.all false
set_option maxHeartbeats 1000000
set_option maxRecDepth 10000
namespace Go.Proofs.YtfgafcjebfjepaaGreatDoor
open Go Go.Pv
variable (g:Nat→Option (List AV)) (rnd:Bool)

theorem c_law08x_told_0 (at_:Int):Valid Tryz.prog (G0 g false) 20 [.nilIface,.int .i64 0,.int .i64 at_] (.bool true):=by

 refine valid_of [] Tryz.func20 rfl (by kernel_rfl) ?_
 refine sr fun Z z=>?_
 simp[Tryz.f20]
 apply z
 refine AT_seq_k fun K1 hK1=>?_
 refine sr fun Z z=>?_
 simp
 apply z
 refine cT (by simp) ?_
 refine sr fun Z z=>?_
 simp
 apply z
 refine AT_ret ?_
 simp[Tryz.f20]

theorem c_law08x_told (k n:Int) (hk:k≠0) (hty:g 0=some errTy):Valid Tryz.prog (G0 g false) 20 [.iface 154 (.agg [.int .i64 k,.int .i64 n]),.int .i64 k,.int .i64 n] (.bool true):=by
 have hk2:(k==0)=false:=by simpa using hk
 refine valid_of [] Tryz.func20 rfl (by kernel_rfl) ?_
 refine sr fun Z z=>?_
 simp[Tryz.f20]
 apply z
 refine AT_seq_k fun K1 hK1=>?_
 refine sr fun Z z=>?_
 simp[hk2]
 apply z
 refine cF (by simp) ?_
 refine AT_skip ?_
 refine hK1 _ ?_
 refine sr fun Z z=>?_
 simp
 refine RVn_call (fault_Code_f g false hty _ _) ?_
 simp
 apply z
 refine sr fun Z z=>?_
 simp
 refine RVn_call (fault_At_f g false hty _ _) ?_
 simp
 apply z
 refine sr fun Z z=>?_
 simp
 apply z
 refine AT_ret ?_
 simp[Tryz.f20]

def lwT (n:Str) (p:Int):Ty:=.mk n [] p
def lwD0:Dc:=⟨1,[84],[⟨[97],lwT [65,110,121] 23,21⟩],[⟨[102],lwT [97] 39,37⟩],[],[],[],sg0,ex0,19⟩
def lwD1:Dc:=⟨3,[84],[],[],[],[120],[[97]],⟨[109],[],[⟨[121],.mk [84] [lwT [97] 65] 63,61⟩],lwT [97] 69,59⟩,.mk 4 [102] ty0 [] [.mk 1 [120] ty0 [] [] 80] 82,53⟩
def lwM:Exp:=.mk 3 [] (.mk [84] [lwT [84] 107] 105) [] [] 105
def lwP:Pg:=⟨[lwD0,lwD1],lwM⟩
def lwI:Dc:=⟨2,[73],[],[],[⟨[109],[],[],lwT [73] 23,19⟩],[],[],sg0,ex0,5⟩
theorem lw1:wholeC 154 pg0 rdP [112,97,99,107,97,103,101,32,109,97,105,110,59,32,116,121,112,101,32,84,91,97,32,65,110,121,93,32,115,116,114,117,99,116,32,123,32,102,32,97,59,32,125,59,32,102,117,110,99,32,40,120,32,84,91,97,93,41,32,109,40,121,32,84,91,97,93,41,32,97,32,123,32,114,101,116,117,114,110,32,120,46,102,32,125,59,32,102,117,110,99,32,109,97,105,110,40,41,32,123,32,95,32,61,32,84,91,84,93,123,125,32,125]=(lwP,.nilIface):=by kernel_rfl
theorem lw2:wholeC 154 pg0 rdP [112,97,99,107,97,103,101,32,109,97,105,110]=(pg0,.iface 154 (.agg [.int .i64 2,.int .i64 12])):=by kernel_rfl
theorem lw3:wholeC 154 dc0 rdD [116,121,112,101,32,73,32,105,110,116,101,114,102,97,99,101,32,123,32,109,40,41,32,73,59,32,125,59]=(lwI,.nilIface):=by kernel_rfl
theorem lw4:wholeC 154 pg0 rdP [120]=(pg0,.iface 154 (.agg [.int .i64 2,.int .i64 0])):=by kernel_rfl

theorem c_law08x_awake (hres:g 1=some reservedA) (hty:g 0=some errTy):Valid Tryz.prog (G0 g false) 8 [] (.bool true):=by

 refine valid_of [] Tryz.func8 rfl (by kernel_rfl) ?_
 refine sr fun Z z=>?_
 simp[Tryz.f8]
 apply z
 refine sr fun Z z=>?_
 simp
 refine RVn_call ((by have h:=c_parse_Program g [112,97,99,107,97,103,101,32,109,97,105,110,59,32,116,121,112,101,32,84,91,97,32,65,110,121,93,32,115,116,114,117,99,116,32,123,32,102,32,97,59,32,125,59,32,102,117,110,99,32,40,120,32,84,91,97,93,41,32,109,40,121,32,84,91,97,93,41,32,97,32,123,32,114,101,116,117,114,110,32,120,46,102,32,125,59,32,102,117,110,99,32,109,97,105,110,40,41,32,123,32,95,32,61,32,84,91,84,93,123,125,32,125] (by decide) hres;rw[lw1] at h;simp only[encPg] at h;exact h)) ?_
 simp
 apply z
 refine sr fun Z z=>?_
 simp
 refine RVn_call ((by have h:=c_parse_Program g [112,97,99,107,97,103,101,32,109,97,105,110] (by decide) hres;rw[lw2] at h;simp only[encPg] at h;exact h)) ?_
 simp
 apply z
 refine sr fun Z z=>?_
 simp
 refine RVn_call ((by have h:=c_parse_Decl g [116,121,112,101,32,73,32,105,110,116,101,114,102,97,99,101,32,123,32,109,40,41,32,73,59,32,125,59] (by decide) hres;rw[lw3] at h;simp only[encD] at h;exact h)) ?_
 simp
 apply z
 refine sr fun Z z=>?_
 simp
 refine RVn_call ((by have h:=c_parse_Tree g [120] (by decide) hres _ (.inr ⟨_,_,lw4,rfl⟩);simp only[encPg] at h;exact h)) ?_
 simp
 apply z
 refine AT_seq_k fun K1 hK1=>?_
 refine sr fun Z z=>?_
 simp[encD,lwP,lwI]
 apply z
 refine cF (by simp) ?_
 refine AT_skip ?_
 refine hK1 _ ?_
 refine sr fun Z z=>?_
 simp[lwD0,lwD1,lwM,lwT,encF,encG,encS,encTy_def,encE_def,sg0,ex0,ty0,pg0,row]
 refine RVn_call (c_law08x_told g 2 12 (by decide) hty) ?_
 simp[row]
 repeat refine sg ?_
 apply z
 refine AT_ret ?_
 simp[Tryz.f8]
 skip

end Go.Proofs.YtfgafcjebfjepaaGreatDoor
end

section
/- The laws: programs and declarations are read as in the reference. -/
set_option linter.all false
set_option maxHeartbeats 1000000
set_option maxRecDepth 10000
namespace Go.Proofs.YtfgafcjebfjepaaGreatDoor
open Go Go.Pv
variable (g:Nat→Option (List AV)) (rnd:Bool)

theorem c_law08x_ParseDecls (s:Str) (hs:s.length≤140737488355328) (hres:g 1=some reservedA) (hty:g 0=some errTy):Valid Tryz.prog (G0 g false) 6 [.str s] (.bool true):=by

 refine valid_of [] Tryz.func6 rfl (by kernel_rfl) ?_
 refine sr fun Z z=>?_
 simp[Tryz.f6]
 apply z
 refine AT_seq_k fun K1 hK1=>?_
 by_cases hbig:(2000:Int) < s.length
 refine sr fun Z z=>?_
 simp
 refine RVn_call (c_law08x_awake g hres hty) ?_
 simp[hbig]
 apply z
 refine cT (by simp) ?_
 refine sr fun Z z=>?_
 simp
 refine RVn_call (c_law08x_awake g hres hty) ?_
 simp
 apply z
 refine AT_ret ?_
 simp[Tryz.f6]
 skip
 have hsl:s.length≤2000:=by omega
 refine sr fun Z z=>?_
 simp
 refine RVn_call (c_law08x_awake g hres hty) ?_
 simp[hbig]
 apply z
 refine cF (by simp) ?_
 refine AT_skip ?_
 refine hK1 _ ?_
 rcases decl_case 154 s with ⟨p,n,l,m,h1,h2,h3,h4,h5⟩|⟨k,n,h0,h1,h2⟩
 obtain ⟨q1,q2,-⟩:=decl_read h3 h4
 rw[←h5] at q1 q2
 refine sr fun Z z=>?_
 simp
 refine RVn_call ((by have h:=c_parse_Decl g s (by omega) hres;rw[h1] at h;simp only[encD] at h;exact h)) ?_
 simp
 apply z
 refine sr fun Z z=>?_
 simp
 refine RVn_call ((by have h:=c_ref08x_Decl g s (by omega);rw[h2] at h;simp only[encD] at h;exact h)) ?_
 simp
 apply z
 refine AT_seq_k fun K2 hK2=>?_
 refine sr fun Z z=>?_
 simp
 refine RVn_call ((by have h:=c_ref06x_Decl_x g false p (by omega);simp only[encD] at h;exact h)) ?_
 simp
 repeat refine sg ?_
 refine RVn_call (c_law08x_told_0 g n) ?_
 simp
 repeat refine sg ?_
 apply z
 refine cF (by simp) ?_
 refine AT_skip ?_
 refine hK2 _ ?_
 refine sr fun Z z=>?_
 simp
 refine RVn_call ((by have h:=c_ref06x_RightDecl g false p (by omega);simp only[encD] at h;exact h)) ?_
 simp[q1]
 repeat refine sg ?_
 refine RVn_call ((by have h:=c_decl_RightDecl g false p (by omega) hres;simp only[encD] at h;exact h)) ?_
 simp[q1]
 repeat refine sg ?_
 apply z
 refine AT_ret ?_
 simp[Tryz.f6]
 skip
 obtain ⟨p,hp0⟩:∃ p,p=dc0:=⟨_,rfl⟩
 replace h1:wholeC 154 dc0 rdD s=(p,.iface 154 (.agg [.int .i64 k,.int .i64 n])):=by rw[hp0];exact h1
 replace h2:wholeR dc0 rdR s=(p,k,n):=by rw[hp0];exact h2
 have q2:wtD p≤1000:=by rw[hp0];decide
 have hk2:(k==0)=false:=by simpa using h0
 have hk3:(k != 0)=true:=by simpa using h0
 refine sr fun Z z=>?_
 simp
 refine RVn_call ((by have h:=c_parse_Decl g s (by omega) hres;rw[h1] at h;simp only[encD] at h;exact h)) ?_
 simp
 apply z
 refine sr fun Z z=>?_
 simp
 refine RVn_call ((by have h:=c_ref08x_Decl g s (by omega);rw[h2] at h;simp only[encD] at h;exact h)) ?_
 simp
 apply z
 refine AT_seq_k fun K3 hK3=>?_
 refine sr fun Z z=>?_
 simp
 refine RVn_call ((by have h:=c_ref06x_Decl_x g false p (by omega);simp only[encD] at h;exact h)) ?_
 simp
 repeat refine sg ?_
 refine RVn_call (c_law08x_told g k n h0 hty) ?_
 simp
 repeat refine sg ?_
 apply z
 refine cF (by simp) ?_
 refine AT_skip ?_
 refine hK3 _ ?_
 refine sr fun Z z=>?_
 simp[hk3]
 apply z
 refine AT_ret ?_
 simp[Tryz.f6]
 skip

end Go.Proofs.YtfgafcjebfjepaaGreatDoor
end

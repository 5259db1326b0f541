import Derived.Test.YtfgafcjebfjepaaGreatDoorPt
import Derived.Test.YtfgafcjebfjepaaGreatDoorPvPb
import Derived.Test.YtfgafcjebfjepaaGreatDoorPvLa
import Derived.Test.YtfgafcjebfjepaaGreatDoorXQcA
import Derived.Test.YtfgafcjebfjepaaGreatDoorPvDc
import Derived.Test.YtfgafcjebfjepaaGreatDoorPvEb
import Derived.Test.YtfgafcjebfjepaaGreatDoorXDcE
import Derived.Test.YtfgafcjebfjepaaGreatDoorPvOe
import Derived.Test.YtfgafcjebfjepaaGreatDoorXDcB
import Derived.Test.YtfgafcjebfjepaaGreatDoorXExA
import Derived.Test.YtfgafcjebfjepaaGreatDoorXNaB
import Derived.Test.YtfgafcjebfjepaaGreatDoorXDcC
import Derived.Test.YtfgafcjebfjepaaGreatDoorPvHe
import Derived.Test.YtfgafcjebfjepaaGreatDoorXRdH
section
/- Contracts: the reference's types of a program. -/
set_option linter.all false
set_option maxHeartbeats 1000000
set_option maxRecDepth 10000
namespace Go.Proofs.YtfgafcjebfjepaaGreatDoor
open Go Go.Pv
variable (g:Nat→Option (List AV)) (rnd:Bool)

end Go.Proofs.YtfgafcjebfjepaaGreatDoor
end

section
/- Contracts: what every law of this package asks first. -/
set_option linter.all false
set_option maxHeartbeats 1000000
set_option maxRecDepth 10000
namespace Go.Proofs.YtfgafcjebfjepaaGreatDoor
open Go Go.Pv
variable (g:Nat→Option (List AV)) (rnd:Bool)

theorem c_law08x_told (k n:Int) (hk:k≠0) (hty:g 0=some errTy):Valid Tryz.prog (G0 g false) 20 [.iface 154 (.agg [.int .i64 k,.int .i64 n]),.int .i64 k,.int .i64 n] (.bool true):=by
 have hk2:(k==0)=false:=by simpa using hk
 refine valid_of [] Tryz.func20 rfl (by kernel_rfl) ?_
 refine sr fun Z z=>?_
 simp[Tryz.f20]
 apply z
 refine AT_seq_k fun K1 hK1=>?_
 refine sr fun Z z=>?_
 simp[hk2]
 apply z
 refine cF (by simp) ?_
 refine AT_skip ?_
 refine hK1 _ ?_
 refine sr fun Z z=>?_
 simp
 refine RVn_call (fault_Code_f g false hty _ _) ?_
 simp
 apply z
 refine sr fun Z z=>?_
 simp
 refine RVn_call (fault_At_f g false hty _ _) ?_
 simp
 apply z
 refine sr fun Z z=>?_
 simp
 apply z
 refine AT_ret ?_
 simp[Tryz.f20]

def lwT (n:Str) (p:Int):Ty:=.mk n [] p
def lwD0:Dc:=⟨1,[84],[⟨[97],lwT [65,110,121] 23,21⟩],[⟨[102],lwT [97] 39,37⟩],[],[],[],sg0,ex0,19⟩
def lwD1:Dc:=⟨3,[84],[],[],[],[120],[[97]],⟨[109],[],[⟨[121],.mk [84] [lwT [97] 65] 63,61⟩],lwT [97] 69,59⟩,.mk 4 [102] ty0 [] [.mk 1 [120] ty0 [] [] 80] 82,53⟩
def lwM:Exp:=.mk 3 [] (.mk [84] [lwT [84] 107] 105) [] [] 105
def lwP:Pg:=⟨[lwD0,lwD1],lwM⟩
def lwI:Dc:=⟨2,[73],[],[],[⟨[109],[],[],lwT [73] 23,19⟩],[],[],sg0,ex0,5⟩
theorem lw1:wholeC 154 pg0 rdP [112,97,99,107,97,103,101,32,109,97,105,110,59,32,116,121,112,101,32,84,91,97,32,65,110,121,93,32,115,116,114,117,99,116,32,123,32,102,32,97,59,32,125,59,32,102,117,110,99,32,40,120,32,84,91,97,93,41,32,109,40,121,32,84,91,97,93,41,32,97,32,123,32,114,101,116,117,114,110,32,120,46,102,32,125,59,32,102,117,110,99,32,109,97,105,110,40,41,32,123,32,95,32,61,32,84,91,84,93,123,125,32,125]=(lwP,.nilIface):=by kernel_rfl
theorem lw2:wholeC 154 pg0 rdP [112,97,99,107,97,103,101,32,109,97,105,110]=(pg0,.iface 154 (.agg [.int .i64 2,.int .i64 12])):=by kernel_rfl
theorem lw3:wholeC 154 dc0 rdD [116,121,112,101,32,73,32,105,110,116,101,114,102,97,99,101,32,123,32,109,40,41,32,73,59,32,125,59]=(lwI,.nilIface):=by kernel_rfl
theorem lw4:wholeC 154 pg0 rdP [120]=(pg0,.iface 154 (.agg [.int .i64 2,.int .i64 0])):=by kernel_rfl

theorem c_law08x_awake (hres:g 1=some reservedA) (hty:g 0=some errTy):Valid Tryz.prog (G0 g false) 8 [] (.bool true):=by

 refine valid_of [] Tryz.func8 rfl (by kernel_rfl) ?_
 refine sr fun Z z=>?_
 simp[Tryz.f8]
 apply z
 refine sr fun Z z=>?_
 simp
 refine RVn_call ((by have h:=c_parse_Program g [112,97,99,107,97,103,101,32,109,97,105,110,59,32,116,121,112,101,32,84,91,97,32,65,110,121,93,32,115,116,114,117,99,116,32,123,32,102,32,97,59,32,125,59,32,102,117,110,99,32,40,120,32,84,91,97,93,41,32,109,40,121,32,84,91,97,93,41,32,97,32,123,32,114,101,116,117,114,110,32,120,46,102,32,125,59,32,102,117,110,99,32,109,97,105,110,40,41,32,123,32,95,32,61,32,84,91,84,93,123,125,32,125] (by decide) hres;rw[lw1] at h;simp only[encPg] at h;exact h)) ?_
 simp
 apply z
 refine sr fun Z z=>?_
 simp
 refine RVn_call ((by have h:=c_parse_Program g [112,97,99,107,97,103,101,32,109,97,105,110] (by decide) hres;rw[lw2] at h;simp only[encPg] at h;exact h)) ?_
 simp
 apply z
 refine sr fun Z z=>?_
 simp
 refine RVn_call ((by have h:=c_parse_Decl g [116,121,112,101,32,73,32,105,110,116,101,114,102,97,99,101,32,123,32,109,40,41,32,73,59,32,125,59] (by decide) hres;rw[lw3] at h;simp only[encD] at h;exact h)) ?_
 simp
 apply z
 refine sr fun Z z=>?_
 simp
 refine RVn_call ((by have h:=c_parse_Tree g [120] (by decide) hres _ (.inr ⟨_,_,lw4,rfl⟩);simp only[encPg] at h;exact h)) ?_
 simp
 apply z
 refine AT_seq_k fun K1 hK1=>?_
 refine sr fun Z z=>?_
 simp[encD,lwP,lwI]
 apply z
 refine cF (by simp) ?_
 refine AT_skip ?_
 refine hK1 _ ?_
 refine sr fun Z z=>?_
 simp[lwD0,lwD1,lwM,lwT,encF,encG,encS,encTy_def,encE_def,sg0,ex0,ty0,pg0,row]
 refine RVn_call (c_law08x_told g 2 12 (by decide) hty) ?_
 simp[row]
 repeat refine sg ?_
 apply z
 refine AT_ret ?_
 simp[Tryz.f8]
 skip

end Go.Proofs.YtfgafcjebfjepaaGreatDoor
end

section
/- The law: texts of declarations, one after the other, are read as a program. -/
set_option linter.all false
set_option maxHeartbeats 1000000
set_option maxRecDepth 10000
namespace Go.Proofs.YtfgafcjebfjepaaGreatDoor
open Go Go.Pv
variable (g:Nat→Option (List AV)) (rnd:Bool)

theorem c_law08x_ParseConcat (l:List Str) (hl0:l.length≤140737488355328) (hs:∀ s∈l,s.length≤140737488355328) (hres:g 1=some reservedA) (hty:g 0=some errTy):Valid Tryz.prog (G0 g false) 4 [.slice (l.map encS)] (.bool true):=by

 refine valid_of [(6,45)] Tryz.func4 rfl (by kernel_rfl) ?_
 refine sr fun Z z=>?_
 simp[Tryz.f4]
 apply z
 refine sr fun Z z=>?_
 simp
 apply z
 refine AT_seq_k fun K1 hK1=>?_
 refine sr fun Z z=>?_
 simp
 apply z
 refine AT_block ?_
 refine AT_loop_q [0,3,4] [] (fun j s9=>∃ k,k≤l.length∧k≤20∧j=20 - k∧s9={ n:=106,tm:=[(0,.v (.slice (l.map encS)) none),(3,.v (.int .i64 (minL (l.take k):Int)) none),(4,.v (.int .i64 k) none)],bx:=[],tb:=[],sh:=[],hint:=[(6,45)] }) (20) (by first|rfl|simp) ?_ ?_
 ·
  exact ⟨0,by simp,by omega,rfl,by simp[minL]⟩
 ·
  rintro j s9 ⟨k,hk1,hk2,hj,rfl⟩ K2 hK2
  refine AT_seq_k fun K3 hK3=>?_
  by_cases hkl:k < l.length
  ·
   by_cases hk20:(k:Int) < 20
   ·
    refine sr fun Z z=>?_
    simp[hkl,hk20]
    apply z
    refine cT (by simp) ?_
    refine AT_skip ?_
    refine hK3 _ ?_
    refine AT_seq_k fun K4 hK4=>?_
    refine AT_block ?_
    refine AT_region_q fun Z z=>?_
    have hmt:minL (l.take (k+1))=minL (l.take k)+min l[k].length 10000:=by rw[List.take_succ_eq_append_getElem hkl,minL_snoc]
    have hml:=minL_le (l.take k)
    have htl:(l.take k).length≤20:=by rw[List.length_take];omega
    have hs9:=hs l[k] (by simp)
    have hmn:(if (10000:Int) < (l[k].length:Int) then (10000:Int) else (l[k].length:Int))=((min l[k].length 10000:Nat):Int):=by split<;>omega
    simp[row_map,encS,hmn,hkl]
    repeat refine sg ?_
    apply z
    refine hK4 _ ?_
    refine AT_region_q fun Z z=>?_
    simp
    repeat refine sg ?_
    apply z
    refine hK2 _ (by first|rfl|simp) (j - 1) (by omega) ?_
    refine ⟨k+1,by omega,by omega,by omega,?_⟩
    simp[hmt]
   ·
    refine sr fun Z z=>?_
    simp[hkl,hk20]
    apply z
    refine cF (by simp) ?_
    refine AT_exit ?_
    refine hK1 _ ?_
    refine AT_seq_k fun K5 hK5=>?_
    by_cases h8:(8:Int) < l.length
    ·
     refine sr fun Z z=>?_
     simp
     refine RVn_call (c_law08x_awake g hres hty) ?_
     simp[h8]
     apply z
     refine cT (by simp) ?_
     refine sr fun Z z=>?_
     simp
     refine RVn_call (c_law08x_awake g hres hty) ?_
     simp
     apply z
     refine AT_ret ?_
     simp[Tryz.f4]
     all_goals first|exact c3|skip
    ·
     omega
  ·
   refine sr fun Z z=>?_
   simp[hkl]
   apply z
   refine cF (by simp) ?_
   refine AT_exit ?_
   refine hK1 _ ?_
   refine AT_seq_k fun K6 hK6=>?_
   by_cases h8:(8:Int) < l.length
   ·
    refine sr fun Z z=>?_
    simp
    refine RVn_call (c_law08x_awake g hres hty) ?_
    simp[h8]
    apply z
    refine cT (by simp) ?_
    refine sr fun Z z=>?_
    simp
    refine RVn_call (c_law08x_awake g hres hty) ?_
    simp
    apply z
    refine AT_ret ?_
    simp[Tryz.f4]
    all_goals first|exact c3|skip
   ·
    have hke:k=l.length:=by omega
    subst hke
    rw[List.take_length]
    by_cases hn:(2000:Int) < minL l
    ·
     refine sr fun Z z=>?_
     simp
     refine RVn_call (c_law08x_awake g hres hty) ?_
     simp[h8,hn]
     apply z
     refine cT (by simp) ?_
     refine sr fun Z z=>?_
     simp
     refine RVn_call (c_law08x_awake g hres hty) ?_
     simp
     apply z
     refine AT_ret ?_
     simp[Tryz.f4]
     all_goals first|exact c3|skip
    ·
     have hlm:=lenL_min l (by omega)
     refine sr fun Z z=>?_
     simp
     refine RVn_call (c_law08x_awake g hres hty) ?_
     simp[h8,hn]
     apply z
     refine cF (by simp) ?_
     refine AT_skip ?_
     refine hK6 _ ?_
     refine sr fun Z z=>?_
     simp
     apply z
     refine sr fun Z z=>?_
     simp
     apply z
     refine AT_seq_k fun K7 hK7=>?_
     refine sr fun Z z=>?_
     simp
     apply z
     refine AT_block ?_
     refine AT_loop_q [0,5,6,7] [] (fun j s9=>∃ i,i≤l.length∧(∀ s∈l.take i,(wholeR dc0 rdR s).2.1=0)∧j=l.length - i∧s9={ n:=106,tm:=[(0,.v (.slice (l.map encS)) none),(5,.v (.str (catT (l.take i))) none),(6,.v (.slice (((l.take i).map dclR).map encD)) (some (6,45))),(7,.v (.int .i64 i) none)],bx:=[],tb:=[],sh:=[],hint:=[(6,45)] }) (l.length) (by first|rfl|simp) ?_ ?_
     ·
      exact ⟨0,by simp,(fun s h=>by simp at h),rfl,by simp[catT_nil,wPm]⟩
     ·
      rintro j s9 ⟨i,hi1,hi2,rfl,rfl⟩ K8 hK8
      refine AT_seq_k fun K9 hK9=>?_
      by_cases hil9:i < l.length
      ·
       rcases decl_case 154 l[i] with ⟨d,n,l9,m,h1,h2,h3,h4,h5⟩|⟨k9,n,h0,h1,h2⟩
       ·
        have hdc:=dclR_of h2
        have hwd:=(decl_read h3 h4).2.1
        rw[←h5] at hwd
        refine sr fun Z z=>?_
        simp[hil9]
        apply z
        refine cT (by simp) ?_
        refine AT_skip ?_
        refine hK9 _ ?_
        refine AT_seq_k fun K10 hK10=>?_
        refine AT_block ?_
        refine sr fun Z z=>?_
        have hil:i < l.length:=by omega
        have hti:=List.take_succ_eq_append_getElem hil
        have hm9:=lenL_mem l l[i] (by simp)
        have hct:=catT_len (l.take i)
        have hlt:=lenL_take l i
        have hrw:Pv.Rows 23 (List.take i (List.map (encD∘dclR) l)):=rows_take i (by rw[←List.map_map];exact encD_rows _)
        simp[row_map,encS,hil9]
        refine RVn_call ((by have h:=c_ref08x_Decl g l[i] (by omega);rw[h2] at h;simp only[encD] at h;exact h)) ?_
        simp
        apply z
        refine AT_seq_k fun K11 hK11=>?_
        refine sr fun Z z=>?_
        simp
        apply z
        refine cF (by simp) ?_
        refine AT_skip ?_
        refine hK11 _ ?_
        refine sr fun Z z=>?_
        simp[hrw]
        repeat refine sg ?_
        apply z
        refine AT_region_q fun Z z=>?_
        simp[row_map,encS,hil9]
        repeat refine sg ?_
        apply z
        refine hK10 _ ?_
        refine AT_region_q fun Z z=>?_
        simp
        repeat refine sg ?_
        apply z
        refine hK8 _ (by first|rfl|simp) (l.length - (i+1)) (by omega) ?_
        refine ⟨i+1,by omega,?_,by omega,?_⟩
        · rw[hti]
          intro s h
          rcases List.mem_append.1 h with h|h
          · exact hi2 s h
          · rw[List.mem_singleton] at h
            subst h
            rw[h2]
        · rw[hti,catT_snoc,List.map_append,List.map_append]
          simp[hdc,encD]
       ·
        have hk3:(k9 != 0)=true:=by simpa using h0
        refine sr fun Z z=>?_
        simp[hil9]
        apply z
        refine cT (by simp) ?_
        refine AT_skip ?_
        refine hK9 _ ?_
        refine AT_seq_k fun K12 hK12=>?_
        refine AT_block ?_
        refine sr fun Z z=>?_
        have hil:i < l.length:=by omega
        have hti:=List.take_succ_eq_append_getElem hil
        have hm9:=lenL_mem l l[i] (by simp)
        have hct:=catT_len (l.take i)
        have hlt:=lenL_take l i
        have hrw:Pv.Rows 23 (List.take i (List.map (encD∘dclR) l)):=rows_take i (by rw[←List.map_map];exact encD_rows _)
        simp[row_map,encS,hil9]
        refine RVn_call ((by have h:=c_ref08x_Decl g l[i] (by omega);rw[h2] at h;simp only[encD] at h;exact h)) ?_
        simp
        apply z
        refine AT_seq_k fun K13 hK13=>?_
        refine sr fun Z z=>?_
        simp[hk3]
        apply z
        refine cT (by simp) ?_
        refine sr fun Z z=>?_
        simp[row_map,encS,hil9]
        refine RVn_call ((by have h:=c_parse_Decl g l[i] (by omega) hres;rw[h1] at h;simp only[encD] at h;exact h)) ?_
        simp
        apply z
        refine sr fun Z z=>?_
        simp
        apply z
        refine AT_ret ?_
        simp[Tryz.f4]
        all_goals first|exact c3|skip
      ·
       have hie:i=l.length:=by omega
       subst hie
       rw[List.take_length] at hi2 ⊢
       obtain ⟨p,c1,c2,c3,c4⟩:=cat_case 154 l (by omega) hi2
       have hct:=catT_len l
       refine sr fun Z z=>?_
       simp
       apply z
       refine cF (by simp) ?_
       refine AT_exit ?_
       refine hK7 _ ?_
       refine sr fun Z z=>?_
       simp
       repeat refine sg ?_
       refine RVn_call ((by have h:=c_parse_Program g (catT l++wFx) (by rw[List.length_append,hct];have:wFx.length=21:=rfl;omega) hres;rw[c1] at h;simp only[encPg] at h;exact h)) ?_
       simp
       apply z
       refine sr fun Z z=>?_
       simp
       refine RVn_call ((by have h:=c_ref06x_Same g false ⟨p.decls,ex0⟩ ⟨l.map dclR,ex0⟩ (by show wtDs p.decls+wtE ex0≤400000000;have:wtE ex0=2:=(by decide);omega);rw[c2] at h;simp only[encPg,List.map_map] at h;exact h)) ?_
       simp
       apply z
       refine AT_ret ?_
       simp[Tryz.f4]
       all_goals first|exact c3|skip

end Go.Proofs.YtfgafcjebfjepaaGreatDoor
end

import Derived.Test.YtfgafcjebfjepaaGreatDoorPt
import Derived.Test.YtfgafcjebfjepaaGreatDoorPvPb
import Derived.Test.YtfgafcjebfjepaaGreatDoorPvLa
import Derived.Test.YtfgafcjebfjepaaGreatDoorPvDc
import Derived.Test.YtfgafcjebfjepaaGreatDoorPvEb
import Derived.Test.YtfgafcjebfjepaaGreatDoorXDcE
import Derived.Test.YtfgafcjebfjepaaGreatDoorPvOe
import Derived.Test.YtfgafcjebfjepaaGreatDoorXDcB
import Derived.Test.YtfgafcjebfjepaaGreatDoorXExA
import Derived.Test.YtfgafcjebfjepaaGreatDoorXNaB
import Derived.Test.YtfgafcjebfjepaaGreatDoorXDcC
import Derived.Test.YtfgafcjebfjepaaGreatDoorXTyD
import Derived.Test.YtfgafcjebfjepaaGreatDoorXRdH
section
/- Contracts: the reference compares declarations. -/
set_option linter.all false
set_option maxHeartbeats 1000000
set_option maxRecDepth 10000
namespace Go.Proofs.YtfgafcjebfjepaaGreatDoor
open Go Go.Pv
variable (g:Nat→Option (List AV)) (rnd:Bool)

theorem c_ref06x_formals (a b:List Fm) (hw:wtFs a≤1000000000) (hl:a.length≤1000000000):Valid Tryz.prog (G0 g rnd) 44 [.slice (a.map encF),.slice (b.map encF),.bool false] (.bool (eqL sameF a b)):=by

 refine valid_of [] Tryz.func44 rfl (by kernel_rfl) ?_
 refine sr fun Z z=>?_
 simp[Tryz.f44]
 apply z
 refine AT_seq_k fun K1 hK1=>?_
 refine sr fun Z z=>?_
 simp
 apply z
 refine AT_cond (g:=none) rfl (fun hb12=>?_) (fun hb12=>?_)
 simp at hb12
 refine sr fun Z z=>?_
 simp
 apply z
 refine AT_ret ?_
 simp[Tryz.f44]
 (·rw[eqL_len (show a.length≠b.length by omega)])
 simp at hb12
 have hab:a.length=b.length:=by omega
 refine AT_skip ?_
 refine hK1 _ ?_
 refine AT_seq_k fun K2 hK2=>?_
 refine sr fun Z z=>?_
 simp
 apply z
 refine AT_block ?_
 refine AT_loop_q [0,1,2,7] [] (fun j s=>∃ k,k≤a.length∧eqL sameF a b=eqL sameF (a.drop k) (b.drop k)∧j=a.length - k∧s={ n:=72,tm:=[(0,.v (.slice (a.map encF)) none),(1,.v (.slice (b.map encF)) none),(2,.v (.bool false) none),(7,.v (.int .i64 k) none)],bx:=[],tb:=[],sh:=[],hint:=[] }) (a.length) (by first|rfl|simp) ?_ ?_
 exact ⟨0,by simp⟩
 rintro j s ⟨k,hk,hc,rfl,rfl⟩ K3 hK3
 refine AT_seq_k fun K4 hK4=>?_
 refine sr fun Z z=>?_
 simp
 apply z
 refine AT_cond (g:=none) rfl (fun hb16=>?_) (fun hb16=>?_)
 simp at hb16
 refine AT_skip ?_
 refine hK4 _ ?_
 refine AT_seq_k fun K5 hK5=>?_
 refine AT_block ?_
 refine AT_seq_k fun K6 hK6=>?_
 cases h1:(a[k].name==b[k].name)
 refine AT_seq_draw Pt.mixed (by kernel_rfl) fun Z z=>?_
 have hkb:k < b.length:=by omega
 have hka:k < a.length:=by omega
 have hda:=List.drop_eq_getElem_cons hka
 have hdb:=List.drop_eq_getElem_cons hkb
 have hm9:=wtFs_mem (l:=a) (f:=a[k]) (by simp)
 have hm8:wtF a[k]=a[k].name.length+1+wt a[k].ty:=rfl
 simp[row_map,encF,hkb,hb16,h1]
 apply z
 refine cT (by simp) ?_
 refine sr fun Z z=>?_
 simp
 apply z
 refine AT_ret ?_
 simp[Tryz.f44]
 (rw[hc,hda,hdb,eqL_cons,sameF,h1];rfl)
 cases h2:(cmpT a[k].ty b[k].ty==0)
 refine AT_seq_draw Pt.mixed (by kernel_rfl) fun Z z=>?_
 have hkb:k < b.length:=by omega
 have hka:k < a.length:=by omega
 have hda:=List.drop_eq_getElem_cons hka
 have hdb:=List.drop_eq_getElem_cons hkb
 have hm9:=wtFs_mem (l:=a) (f:=a[k]) (by simp)
 have hm8:wtF a[k]=a[k].name.length+1+wt a[k].ty:=rfl
 simp[row_map,encF,hkb,hb16,h1]
 refine RVdn_call ((by have h:=c_ref04x_Same g rnd a[k].ty b[k].ty (by omega);simp only[encTy_def] at h;exact h)) ?_
 simp[h2]
 repeat refine sg ?_
 apply z
 refine cT (by simp) ?_
 refine sr fun Z z=>?_
 simp
 apply z
 refine AT_ret ?_
 simp[Tryz.f44]
 (rw[hc,hda,hdb,eqL_cons,sameF,h2,h1];rfl)
 refine AT_seq_draw Pt.mixed (by kernel_rfl) fun Z z=>?_
 have hkb:k < b.length:=by omega
 have hka:k < a.length:=by omega
 have hda:=List.drop_eq_getElem_cons hka
 have hdb:=List.drop_eq_getElem_cons hkb
 have hm9:=wtFs_mem (l:=a) (f:=a[k]) (by simp)
 have hm8:wtF a[k]=a[k].name.length+1+wt a[k].ty:=rfl
 simp[row_map,encF,hkb,hb16,h1]
 refine RVdn_call ((by have h:=c_ref04x_Same g rnd a[k].ty b[k].ty (by omega);simp only[encTy_def] at h;exact h)) ?_
 simp[h2]
 repeat refine sg ?_
 apply z
 refine cF (by simp) ?_
 refine AT_skip ?_
 refine hK6 _ ?_
 refine AT_seq_draw Pt.mixed (by kernel_rfl) fun Z z=>?_
 simp
 apply z
 refine cF (by simp) ?_
 refine AT_skip ?_
 refine hK5 _ ?_
 refine AT_region_q fun Z z=>?_
 simp
 repeat refine sg ?_
 apply z
 refine hK3 _ (by first|rfl|simp) (a.length - (k+1)) (by omega) ?_
 refine ⟨k+1,by omega,?_,by omega,by simp⟩
 rw[hc,hda,hdb,eqL_cons,sameF,h2,h1];rfl
 simp at hb16
 refine AT_exit ?_
 refine hK2 _ ?_
 refine sr fun Z z=>?_
 simp
 apply z
 refine AT_ret ?_
 simp[Tryz.f44]
 (rw[hc,List.drop_eq_nil_of_le (by omega),List.drop_eq_nil_of_le (show b.length≤k by omega)];rfl)

theorem c_ref06x_params (a b:List Fm) (hw:wtFs a≤1000000000) (hl:a.length≤1000000000):Valid Tryz.prog (G0 g rnd) 45 [.slice (a.map encF),.slice (b.map encF),.bool false] (.bool (eqL sameF a b)):=by

 refine valid_of [] Tryz.func45 rfl (by kernel_rfl) ?_
 refine sr fun Z z=>?_
 simp[Tryz.f45]
 apply z
 refine AT_seq_k fun K1 hK1=>?_
 refine sr fun Z z=>?_
 simp
 apply z
 refine AT_cond (g:=none) rfl (fun hb12=>?_) (fun hb12=>?_)
 simp at hb12
 refine sr fun Z z=>?_
 simp
 apply z
 refine AT_ret ?_
 simp[Tryz.f45]
 (·rw[eqL_len (show a.length≠b.length by omega)])
 simp at hb12
 have hab:a.length=b.length:=by omega
 refine AT_skip ?_
 refine hK1 _ ?_
 refine AT_seq_k fun K2 hK2=>?_
 refine sr fun Z z=>?_
 simp
 apply z
 refine AT_block ?_
 refine AT_loop_q [0,1,2,7] [] (fun j s=>∃ k,k≤a.length∧eqL sameF a b=eqL sameF (a.drop k) (b.drop k)∧j=a.length - k∧s={ n:=72,tm:=[(0,.v (.slice (a.map encF)) none),(1,.v (.slice (b.map encF)) none),(2,.v (.bool false) none),(7,.v (.int .i64 k) none)],bx:=[],tb:=[],sh:=[],hint:=[] }) (a.length) (by first|rfl|simp) ?_ ?_
 exact ⟨0,by simp⟩
 rintro j s ⟨k,hk,hc,rfl,rfl⟩ K3 hK3
 refine AT_seq_k fun K4 hK4=>?_
 refine sr fun Z z=>?_
 simp
 apply z
 refine AT_cond (g:=none) rfl (fun hb16=>?_) (fun hb16=>?_)
 simp at hb16
 refine AT_skip ?_
 refine hK4 _ ?_
 refine AT_seq_k fun K5 hK5=>?_
 refine AT_block ?_
 refine AT_seq_k fun K6 hK6=>?_
 cases h1:(a[k].name==b[k].name)
 refine AT_seq_draw Pt.mixed (by kernel_rfl) fun Z z=>?_
 have hkb:k < b.length:=by omega
 have hka:k < a.length:=by omega
 have hda:=List.drop_eq_getElem_cons hka
 have hdb:=List.drop_eq_getElem_cons hkb
 have hm9:=wtFs_mem (l:=a) (f:=a[k]) (by simp)
 have hm8:wtF a[k]=a[k].name.length+1+wt a[k].ty:=rfl
 simp[row_map,encF,hkb,hb16,h1]
 apply z
 refine cT (by simp) ?_
 refine sr fun Z z=>?_
 simp
 apply z
 refine AT_ret ?_
 simp[Tryz.f45]
 (rw[hc,hda,hdb,eqL_cons,sameF,h1];rfl)
 cases h2:(cmpT a[k].ty b[k].ty==0)
 refine AT_seq_draw Pt.mixed (by kernel_rfl) fun Z z=>?_
 have hkb:k < b.length:=by omega
 have hka:k < a.length:=by omega
 have hda:=List.drop_eq_getElem_cons hka
 have hdb:=List.drop_eq_getElem_cons hkb
 have hm9:=wtFs_mem (l:=a) (f:=a[k]) (by simp)
 have hm8:wtF a[k]=a[k].name.length+1+wt a[k].ty:=rfl
 simp[row_map,encF,hkb,hb16,h1]
 refine RVdn_call ((by have h:=c_ref04x_Same g rnd a[k].ty b[k].ty (by omega);simp only[encTy_def] at h;exact h)) ?_
 simp[h2]
 repeat refine sg ?_
 apply z
 refine cT (by simp) ?_
 refine sr fun Z z=>?_
 simp
 apply z
 refine AT_ret ?_
 simp[Tryz.f45]
 (rw[hc,hda,hdb,eqL_cons,sameF,h2,h1];rfl)
 refine AT_seq_draw Pt.mixed (by kernel_rfl) fun Z z=>?_
 have hkb:k < b.length:=by omega
 have hka:k < a.length:=by omega
 have hda:=List.drop_eq_getElem_cons hka
 have hdb:=List.drop_eq_getElem_cons hkb
 have hm9:=wtFs_mem (l:=a) (f:=a[k]) (by simp)
 have hm8:wtF a[k]=a[k].name.length+1+wt a[k].ty:=rfl
 simp[row_map,encF,hkb,hb16,h1]
 refine RVdn_call ((by have h:=c_ref04x_Same g rnd a[k].ty b[k].ty (by omega);simp only[encTy_def] at h;exact h)) ?_
 simp[h2]
 repeat refine sg ?_
 apply z
 refine cF (by simp) ?_
 refine AT_skip ?_
 refine hK6 _ ?_
 refine AT_seq_draw Pt.mixed (by kernel_rfl) fun Z z=>?_
 simp
 apply z
 refine cF (by simp) ?_
 refine AT_skip ?_
 refine hK5 _ ?_
 refine AT_region_q fun Z z=>?_
 simp
 repeat refine sg ?_
 apply z
 refine hK3 _ (by first|rfl|simp) (a.length - (k+1)) (by omega) ?_
 refine ⟨k+1,by omega,?_,by omega,by simp⟩
 rw[hc,hda,hdb,eqL_cons,sameF,h2,h1];rfl
 simp at hb16
 refine AT_exit ?_
 refine hK2 _ ?_
 refine sr fun Z z=>?_
 simp
 apply z
 refine AT_ret ?_
 simp[Tryz.f45]
 (rw[hc,List.drop_eq_nil_of_le (by omega),List.drop_eq_nil_of_le (show b.length≤k by omega)];rfl)

theorem c_ref06x_Sig (a b:Sg) (hw:wtG a≤1000000000):Valid Tryz.prog (G0 g rnd) 46 [.agg (encG a),.agg (encG b),.bool false] (.bool (sameG a b)):=by
 have hw2:a.name.length+1+wtFs a.fms+wtFs a.pms+wt a.res≤1000000000:=hw
 refine valid_of [] Tryz.func46 rfl (by kernel_rfl) ?_
 refine sr fun Z z=>?_
 simp[encG,Tryz.f46]
 apply z
 refine AT_seq_k fun K1 hK1=>?_
 cases h1:(a.name==b.name)
 refine sr fun Z z=>?_
 simp[h1]
 apply z
 refine cT (by simp) ?_
 refine sr fun Z z=>?_
 simp
 apply z
 refine AT_ret ?_
 simp[Tryz.f46]
 (simp only[sameG,h1];rfl)
 cases h2:(eqL sameF a.fms b.fms)
 refine sr fun Z z=>?_
 simp[h1]
 refine RVn_call (c_ref06x_formals g rnd a.fms b.fms (by omega) (by have:=wtFs_len a.fms;omega)) ?_
 simp[h2]
 repeat refine sg ?_
 apply z
 refine cT (by simp) ?_
 refine sr fun Z z=>?_
 simp
 apply z
 refine AT_ret ?_
 simp[Tryz.f46]
 (simp only[sameG,h1,h2];rfl)
 cases h3:(eqL sameF a.pms b.pms)
 refine sr fun Z z=>?_
 simp[h1]
 refine RVn_call (c_ref06x_formals g rnd a.fms b.fms (by omega) (by have:=wtFs_len a.fms;omega)) ?_
 simp[h2]
 repeat refine sg ?_
 refine RVn_call (c_ref06x_params g rnd a.pms b.pms (by omega) (by have:=wtFs_len a.pms;omega)) ?_
 simp[h3]
 repeat refine sg ?_
 apply z
 refine cT (by simp) ?_
 refine sr fun Z z=>?_
 simp
 apply z
 refine AT_ret ?_
 simp[Tryz.f46]
 (simp only[sameG,h1,h2,h3];rfl)
 cases h4:(cmpT a.res b.res==0)
 refine sr fun Z z=>?_
 simp[h1]
 refine RVn_call (c_ref06x_formals g rnd a.fms b.fms (by omega) (by have:=wtFs_len a.fms;omega)) ?_
 simp[h2]
 repeat refine sg ?_
 refine RVn_call (c_ref06x_params g rnd a.pms b.pms (by omega) (by have:=wtFs_len a.pms;omega)) ?_
 simp[h3]
 repeat refine sg ?_
 refine RVn_call ((by have h:=c_ref04x_Same g rnd a.res b.res (by omega);simp only[encTy_def] at h;exact h)) ?_
 simp[h4]
 repeat refine sg ?_
 apply z
 refine cT (by simp) ?_
 refine sr fun Z z=>?_
 simp
 apply z
 refine AT_ret ?_
 simp[Tryz.f46]
 (simp only[sameG,h1,h2,h3,h4];rfl)
 refine sr fun Z z=>?_
 simp[h1]
 refine RVn_call (c_ref06x_formals g rnd a.fms b.fms (by omega) (by have:=wtFs_len a.fms;omega)) ?_
 simp[h2]
 repeat refine sg ?_
 refine RVn_call (c_ref06x_params g rnd a.pms b.pms (by omega) (by have:=wtFs_len a.pms;omega)) ?_
 simp[h3]
 repeat refine sg ?_
 refine RVn_call ((by have h:=c_ref04x_Same g rnd a.res b.res (by omega);simp only[encTy_def] at h;exact h)) ?_
 simp[h4]
 repeat refine sg ?_
 apply z
 refine cF (by simp) ?_
 refine AT_skip ?_
 refine hK1 _ ?_
 refine sr fun Z z=>?_
 simp
 apply z
 refine AT_ret ?_
 simp[Tryz.f46]
 (simp only[sameG,h1,h2,h3,h4];rfl)

end Go.Proofs.YtfgafcjebfjepaaGreatDoor
end

section
/- Contracts: the reference on declarations. -/
set_option linter.all false
set_option maxHeartbeats 1000000
set_option maxRecDepth 10000
namespace Go.Proofs.YtfgafcjebfjepaaGreatDoor
open Go Go.Pv
variable (g:Nat→Option (List AV)) (rnd:Bool)

theorem c_ref06x_rightFormals (a:List Fm) (hw:wtFs a≤1000000000):Valid Tryz.prog (G0 g rnd) 50 [.slice (a.map encF)] (.bool (a.all rightF)):=by
 have hl:=wtFs_len a
 refine valid_of [] Tryz.func50 rfl (by kernel_rfl) ?_
 refine sr fun Z z=>?_
 simp[Tryz.f50]
 apply z
 refine AT_seq_k fun K1 hK1=>?_
 refine sr fun Z z=>?_
 simp
 apply z
 refine AT_block ?_
 refine AT_loop_q [0,3] [] (fun j s=>∃ k,k≤a.length∧a.all rightF=(a.drop k).all rightF∧j=a.length - k∧s={ n:=26,tm:=[(0,.v (.slice (a.map encF)) none),(3,.v (.int .i64 k) none)],bx:=[],tb:=[],sh:=[],hint:=[] }) (a.length) (by first|rfl|simp) ?_ ?_
 exact ⟨0,by simp⟩
 rintro j s ⟨k,hk,hc,rfl,rfl⟩ K2 hK2
 refine AT_seq_k fun K3 hK3=>?_
 refine sr fun Z z=>?_
 simp
 apply z
 refine AT_cond (g:=none) rfl (fun hb7=>?_) (fun hb7=>?_)
 simp at hb7
 refine AT_skip ?_
 refine hK3 _ ?_
 refine AT_seq_k fun K4 hK4=>?_
 refine AT_block ?_
 cases h1:(isName a[k].name)
 refine sr fun Z z=>?_
 have hka:k < a.length:=by omega
 have hda:=List.drop_eq_getElem_cons hka
 have hm9:=wtFs_mem (l:=a) (f:=a[k]) (by simp)
 have hm8:wtF a[k]=a[k].name.length+1+wt a[k].ty:=rfl
 simp[row_map,encF,hb7]
 refine RVn_call (c_ref01x_Is g rnd a[k].name (by omega)) ?_
 simp[h1]
 repeat refine sg ?_
 apply z
 refine cT (by simp) ?_
 refine sr fun Z z=>?_
 simp
 apply z
 refine AT_ret ?_
 simp[Tryz.f50]
 (have hz:a.all rightF=false:=by rw[hc,hda,List.all_cons,rightF,h1];rfl
  simpa using hz)
 cases h2:(rightT a[k].ty)
 refine sr fun Z z=>?_
 have hka:k < a.length:=by omega
 have hda:=List.drop_eq_getElem_cons hka
 have hm9:=wtFs_mem (l:=a) (f:=a[k]) (by simp)
 have hm8:wtF a[k]=a[k].name.length+1+wt a[k].ty:=rfl
 simp[row_map,encF,hb7]
 refine RVn_call (c_ref01x_Is g rnd a[k].name (by omega)) ?_
 simp[row_map,encF,hb7,h1]
 repeat refine sg ?_
 refine RVn_call ((by have h:=c_ref04x_Right g rnd a[k].ty (by omega);simp only[encTy_def] at h;exact h)) ?_
 simp[h2]
 repeat refine sg ?_
 apply z
 refine cT (by simp) ?_
 refine sr fun Z z=>?_
 simp
 apply z
 refine AT_ret ?_
 simp[Tryz.f50]
 (have hz:a.all rightF=false:=by rw[hc,hda,List.all_cons,rightF,h1,h2];rfl
  simpa using hz)
 refine sr fun Z z=>?_
 have hka:k < a.length:=by omega
 have hda:=List.drop_eq_getElem_cons hka
 have hm9:=wtFs_mem (l:=a) (f:=a[k]) (by simp)
 have hm8:wtF a[k]=a[k].name.length+1+wt a[k].ty:=rfl
 simp[row_map,encF,hb7]
 refine RVn_call (c_ref01x_Is g rnd a[k].name (by omega)) ?_
 simp[row_map,encF,hb7,h1]
 repeat refine sg ?_
 refine RVn_call ((by have h:=c_ref04x_Right g rnd a[k].ty (by omega);simp only[encTy_def] at h;exact h)) ?_
 simp[h2]
 repeat refine sg ?_
 apply z
 refine cF (by simp) ?_
 refine AT_skip ?_
 refine hK4 _ ?_
 refine AT_region_q fun Z z=>?_
 simp
 repeat refine sg ?_
 apply z
 refine hK2 _ (by first|rfl|simp) (a.length - (k+1)) (by omega) ?_
 refine ⟨k+1,by omega,?_,by omega,by simp⟩
 rw[hc,hda,List.all_cons,rightF,h1,h2];rfl
 simp at hb7
 refine AT_exit ?_
 refine hK1 _ ?_
 refine sr fun Z z=>?_
 simp
 apply z
 refine AT_ret ?_
 simp[Tryz.f50]
 (have hz:a.all rightF=true:=by rw[hc,List.drop_eq_nil_of_le (by omega)];rfl
  simpa using hz)

theorem c_ref06x_rightParams (a:List Fm) (hw:wtFs a≤1000000000):Valid Tryz.prog (G0 g rnd) 51 [.slice (a.map encF)] (.bool (a.all rightF)):=by
 have hl:=wtFs_len a
 refine valid_of [] Tryz.func51 rfl (by kernel_rfl) ?_
 refine sr fun Z z=>?_
 simp[Tryz.f51]
 apply z
 refine AT_seq_k fun K1 hK1=>?_
 refine sr fun Z z=>?_
 simp
 apply z
 refine AT_block ?_
 refine AT_loop_q [0,3] [] (fun j s=>∃ k,k≤a.length∧a.all rightF=(a.drop k).all rightF∧j=a.length - k∧s={ n:=26,tm:=[(0,.v (.slice (a.map encF)) none),(3,.v (.int .i64 k) none)],bx:=[],tb:=[],sh:=[],hint:=[] }) (a.length) (by first|rfl|simp) ?_ ?_
 exact ⟨0,by simp⟩
 rintro j s ⟨k,hk,hc,rfl,rfl⟩ K2 hK2
 refine AT_seq_k fun K3 hK3=>?_
 refine sr fun Z z=>?_
 simp
 apply z
 refine AT_cond (g:=none) rfl (fun hb7=>?_) (fun hb7=>?_)
 simp at hb7
 refine AT_skip ?_
 refine hK3 _ ?_
 refine AT_seq_k fun K4 hK4=>?_
 refine AT_block ?_
 cases h1:(isName a[k].name)
 refine sr fun Z z=>?_
 have hka:k < a.length:=by omega
 have hda:=List.drop_eq_getElem_cons hka
 have hm9:=wtFs_mem (l:=a) (f:=a[k]) (by simp)
 have hm8:wtF a[k]=a[k].name.length+1+wt a[k].ty:=rfl
 simp[row_map,encF,hb7]
 refine RVn_call (c_ref01x_Is g rnd a[k].name (by omega)) ?_
 simp[h1]
 repeat refine sg ?_
 apply z
 refine cT (by simp) ?_
 refine sr fun Z z=>?_
 simp
 apply z
 refine AT_ret ?_
 simp[Tryz.f51]
 (have hz:a.all rightF=false:=by rw[hc,hda,List.all_cons,rightF,h1];rfl
  simpa using hz)
 cases h2:(rightT a[k].ty)
 refine sr fun Z z=>?_
 have hka:k < a.length:=by omega
 have hda:=List.drop_eq_getElem_cons hka
 have hm9:=wtFs_mem (l:=a) (f:=a[k]) (by simp)
 have hm8:wtF a[k]=a[k].name.length+1+wt a[k].ty:=rfl
 simp[row_map,encF,hb7]
 refine RVn_call (c_ref01x_Is g rnd a[k].name (by omega)) ?_
 simp[row_map,encF,hb7,h1]
 repeat refine sg ?_
 refine RVn_call ((by have h:=c_ref04x_Right g rnd a[k].ty (by omega);simp only[encTy_def] at h;exact h)) ?_
 simp[h2]
 repeat refine sg ?_
 apply z
 refine cT (by simp) ?_
 refine sr fun Z z=>?_
 simp
 apply z
 refine AT_ret ?_
 simp[Tryz.f51]
 (have hz:a.all rightF=false:=by rw[hc,hda,List.all_cons,rightF,h1,h2];rfl
  simpa using hz)
 refine sr fun Z z=>?_
 have hka:k < a.length:=by omega
 have hda:=List.drop_eq_getElem_cons hka
 have hm9:=wtFs_mem (l:=a) (f:=a[k]) (by simp)
 have hm8:wtF a[k]=a[k].name.length+1+wt a[k].ty:=rfl
 simp[row_map,encF,hb7]
 refine RVn_call (c_ref01x_Is g rnd a[k].name (by omega)) ?_
 simp[row_map,encF,hb7,h1]
 repeat refine sg ?_
 refine RVn_call ((by have h:=c_ref04x_Right g rnd a[k].ty (by omega);simp only[encTy_def] at h;exact h)) ?_
 simp[h2]
 repeat refine sg ?_
 apply z
 refine cF (by simp) ?_
 refine AT_skip ?_
 refine hK4 _ ?_
 refine AT_region_q fun Z z=>?_
 simp
 repeat refine sg ?_
 apply z
 refine hK2 _ (by first|rfl|simp) (a.length - (k+1)) (by omega) ?_
 refine ⟨k+1,by omega,?_,by omega,by simp⟩
 rw[hc,hda,List.all_cons,rightF,h1,h2];rfl
 simp at hb7
 refine AT_exit ?_
 refine hK1 _ ?_
 refine sr fun Z z=>?_
 simp
 apply z
 refine AT_ret ?_
 simp[Tryz.f51]
 (have hz:a.all rightF=true:=by rw[hc,List.drop_eq_nil_of_le (by omega)];rfl
  simpa using hz)

theorem c_ref06x_rightSig (a:Sg) (hw:wtG a≤1000000000):Valid Tryz.prog (G0 g rnd) 52 [.agg (encG a)] (.bool (rightG a)):=by
 have hw2:a.name.length+1+wtFs a.fms+wtFs a.pms+wt a.res≤1000000000:=hw
 refine valid_of [] Tryz.func52 rfl (by kernel_rfl) ?_
 refine sr fun Z z=>?_
 simp[encG,Tryz.f52]
 apply z
 cases h1:(isName a.name)
 refine sr fun Z z=>?_
 simp
 refine RVn_call (c_ref01x_Is g rnd a.name (by omega)) ?_
 simp[h1]
 repeat refine sg ?_
 apply z
 refine AT_ret ?_
 simp[Tryz.f52]
 (· simp[rightG,h1])
 cases h2:(a.fms.all rightF)
 refine sr fun Z z=>?_
 simp
 refine RVn_call (c_ref01x_Is g rnd a.name (by omega)) ?_
 simp[h1]
 repeat refine sg ?_
 refine RVn_call (c_ref06x_rightFormals g rnd a.fms (by omega)) ?_
 simp[h2]
 repeat refine sg ?_
 apply z
 refine AT_ret ?_
 simp[Tryz.f52]
 (· simp[rightG,h1,h2])
 cases h3:(a.pms.all rightF)
 refine sr fun Z z=>?_
 simp
 refine RVn_call (c_ref01x_Is g rnd a.name (by omega)) ?_
 simp[h1]
 repeat refine sg ?_
 refine RVn_call (c_ref06x_rightFormals g rnd a.fms (by omega)) ?_
 simp[h2]
 repeat refine sg ?_
 refine RVn_call (c_ref06x_rightParams g rnd a.pms (by omega)) ?_
 simp[h3]
 repeat refine sg ?_
 apply z
 refine AT_ret ?_
 simp[Tryz.f52]
 (· simp[rightG,h1,h2,h3])
 refine sr fun Z z=>?_
 simp
 refine RVn_call (c_ref01x_Is g rnd a.name (by omega)) ?_
 simp[h1]
 repeat refine sg ?_
 refine RVn_call (c_ref06x_rightFormals g rnd a.fms (by omega)) ?_
 simp[h2]
 repeat refine sg ?_
 refine RVn_call (c_ref06x_rightParams g rnd a.pms (by omega)) ?_
 simp[h3]
 repeat refine sg ?_
 refine RVn_call ((by have h:=c_ref04x_Right g rnd a.res (by omega);simp only[encTy_def] at h;exact h)) ?_
 simp
 repeat refine sg ?_
 apply z
 refine AT_ret ?_
 simp[Tryz.f52]
 (· simp[rightG,h1,h2,h3])

theorem c_ref06x_RightDecl (a:Dc) (hw:wtD a≤400000000):Valid Tryz.prog (G0 g rnd) 21 [.agg (encD a)] (.bool (rightD a)):=by
 have hw2:a.name.length+1+wtFs a.fms+wtFs a.flds+wtGs a.sigs+a.recv.length+wtSs a.vars+wtG a.sig+wtE a.body≤400000000:=hw
 have hl1:=wtFs_len a.fms
 have hl2:=wtFs_len a.flds
 have hl3:=wtGs_len a.sigs
 have hl4:=wtSs_len a.vars
 refine valid_of [] Tryz.func21 rfl (by kernel_rfl) ?_
 refine sr fun Z z=>?_
 simp[encD,Tryz.f21]
 apply z
 refine AT_seq_k fun K1 hK1=>?_
 cases h1:(isName a.name)
 refine sr fun Z z=>?_
 simp
 refine RVn_call (c_ref01x_Is g rnd a.name (by omega)) ?_
 simp[h1]
 repeat refine sg ?_
 apply z
 refine cT (by simp) ?_
 refine sr fun Z z=>?_
 simp
 apply z
 refine AT_ret ?_
 simp[Tryz.f21]
 rw[rightD_eq]
 (· simp only[rightDR,h1,Bool.false_and])
 cases h2:(a.fms.all rightF)
 refine sr fun Z z=>?_
 simp
 refine RVn_call (c_ref01x_Is g rnd a.name (by omega)) ?_
 simp[h1]
 repeat refine sg ?_
 refine RVn_call (c_ref06x_rightFormals g rnd a.fms (by omega)) ?_
 simp[h2]
 repeat refine sg ?_
 apply z
 refine cT (by simp) ?_
 refine sr fun Z z=>?_
 simp
 apply z
 refine AT_ret ?_
 simp[Tryz.f21]
 rw[rightD_eq]
 (· simp only[rightDR,h2,Bool.false_and,Bool.and_false])
 cases h3:(a.flds.all rightF)
 refine sr fun Z z=>?_
 simp
 refine RVn_call (c_ref01x_Is g rnd a.name (by omega)) ?_
 simp[h1]
 repeat refine sg ?_
 refine RVn_call (c_ref06x_rightFormals g rnd a.fms (by omega)) ?_
 simp[h2]
 repeat refine sg ?_
 refine RVn_call (c_ref06x_rightParams g rnd a.flds (by omega)) ?_
 simp[h3]
 repeat refine sg ?_
 apply z
 refine cT (by simp) ?_
 refine sr fun Z z=>?_
 simp
 apply z
 refine AT_ret ?_
 simp[Tryz.f21]
 rw[rightD_eq]
 (· simp only[rightDR,h3,Bool.false_and,Bool.and_false])
 refine sr fun Z z=>?_
 simp
 refine RVn_call (c_ref01x_Is g rnd a.name (by omega)) ?_
 simp[h1]
 repeat refine sg ?_
 refine RVn_call (c_ref06x_rightFormals g rnd a.fms (by omega)) ?_
 simp[h2]
 repeat refine sg ?_
 refine RVn_call (c_ref06x_rightParams g rnd a.flds (by omega)) ?_
 simp[h3]
 repeat refine sg ?_
 apply z
 refine cF (by simp) ?_
 refine AT_skip ?_
 refine hK1 _ ?_
 refine AT_seq_k fun K2 hK2=>?_
 refine sr fun Z z=>?_
 simp
 apply z
 refine AT_block ?_
 refine AT_loop_q [1,3] [1] (fun j s=>∃ k,k≤a.sigs.length∧a.sigs.all rightG=(a.sigs.drop k).all rightG∧j=a.sigs.length - k∧s={ n:=124,tm:=[(1,.lp 1 0),(3,.v (.int .i64 k) none)],bx:=[(1,encD a)],tb:=[],sh:=[],hint:=[] }) (a.sigs.length) (by first|rfl|simp) ?_ ?_
 exact ⟨0,by simp[encD]⟩
 rintro j s ⟨k,hk,hc,rfl,rfl⟩ K3 hK3
 refine AT_seq_k fun K4 hK4=>?_
 refine sr fun Z z=>?_
 simp[encD]
 apply z
 refine AT_cond (g:=none) rfl (fun hb26=>?_) (fun hb26=>?_)
 simp at hb26
 refine AT_skip ?_
 refine hK4 _ ?_
 refine AT_seq_k fun K5 hK5=>?_
 refine AT_block ?_
 refine sr fun Z z=>?_
 have hka:k < a.sigs.length:=by omega
 have hda:=List.drop_eq_getElem_cons hka
 have hm9:=wtGs_mem (l:=a.sigs) (f:=a.sigs[k]) (by simp)
 simp[row_map,encG,hb26]
 refine RVn_call ((by have h:=c_ref06x_rightSig g rnd a.sigs[k] (by omega);simp only[encG] at h;exact h)) ?_
 simp
 apply z
 refine AT_cond (g:=none) rfl (fun hb35=>?_) (fun hb35=>?_)
 simp at hb35
 refine sr fun Z z=>?_
 simp
 apply z
 refine AT_ret ?_
 simp[Tryz.f21]
 rw[rightD_eq]
 (· rw[rightDR,hc,hda,List.all_cons,hb35];simp only[Bool.false_and,Bool.and_false])
 simp at hb35
 refine AT_skip ?_
 refine hK5 _ ?_
 refine AT_region_q fun Z z=>?_
 simp
 repeat refine sg ?_
 apply z
 refine hK3 _ (by first|rfl|simp) (a.sigs.length - (k+1)) (by omega) ?_
 refine ⟨k+1,by omega,?_,by omega,by simp[encD]⟩
 rw[hc,hda,List.all_cons,hb35];rfl
 simp at hb26
 refine AT_exit ?_
 refine hK2 _ ?_
 refine AT_seq_k fun K6 hK6=>?_
 refine sr fun Z z=>?_
 have hS:a.sigs.all rightG=true:=by rw[hc,List.drop_eq_nil_of_le (by omega)];rfl
 simp
 apply z
 refine AT_block ?_
 refine AT_loop_q [1,4] [1] (fun j s=>∃ k,k≤a.vars.length∧a.vars.all isName=(a.vars.drop k).all isName∧j=a.vars.length - k∧s={ n:=124,tm:=[(1,.lp 1 0),(4,.v (.int .i64 k) none)],bx:=[(1,encD a)],tb:=[],sh:=[],hint:=[] }) (a.vars.length) (by first|rfl|simp) ?_ ?_
 exact ⟨0,by simp[encD]⟩
 rintro j s ⟨k,hk,hv,rfl,rfl⟩ K7 hK7
 refine AT_seq_k fun K8 hK8=>?_
 refine sr fun Z z=>?_
 simp[encD]
 apply z
 refine AT_cond (g:=none) rfl (fun hb40=>?_) (fun hb40=>?_)
 simp at hb40
 refine AT_skip ?_
 refine hK8 _ ?_
 refine AT_seq_k fun K9 hK9=>?_
 refine AT_block ?_
 refine sr fun Z z=>?_
 have hka:k < a.vars.length:=by omega
 have hda:=List.drop_eq_getElem_cons hka
 have hm9:=wtSs_mem (l:=a.vars) (f:=a.vars[k]) (by simp)
 simp[row_map,encS,hb40]
 refine RVn_call (c_ref01x_Is g rnd a.vars[k] (by omega)) ?_
 simp
 apply z
 refine AT_cond (g:=none) rfl (fun hb49=>?_) (fun hb49=>?_)
 simp at hb49
 refine sr fun Z z=>?_
 simp
 apply z
 refine AT_ret ?_
 simp[Tryz.f21]
 rw[rightD_eq]
 (· rw[rightDR,hv,hda,List.all_cons,hb49];simp only[Bool.false_and,Bool.and_false])
 simp at hb49
 refine AT_skip ?_
 refine hK9 _ ?_
 refine AT_region_q fun Z z=>?_
 simp
 repeat refine sg ?_
 apply z
 refine hK7 _ (by first|rfl|simp) (a.vars.length - (k+1)) (by omega) ?_
 refine ⟨k+1,by omega,?_,by omega,by simp[encD]⟩
 rw[hv,hda,List.all_cons,hb49];rfl
 simp at hb40
 refine AT_exit ?_
 refine hK6 _ ?_
 refine AT_seq_k fun K10 hK10=>?_
 cases hk3:(a.kind==3)
 refine sr fun Z z=>?_
 have hV:a.vars.all isName=true:=by rw[hv,List.drop_eq_nil_of_le (by omega)];rfl
 simp[hk3]
 apply z
 refine cF (by simp) ?_
 refine AT_skip ?_
 refine hK10 _ ?_
 cases h4:(a.recv==[])
 refine sr fun Z z=>?_
 simp[h4]
 apply z
 cases h8:(a.kind==1)
 cases h10:(a.kind==2)
 refine sr fun Z z=>?_
 simp
 apply z
 refine AT_ret ?_
 simp[Tryz.f21]
 rw[rightD_eq]
 (rw[rightDR_no h1 h2 h3 hS hV hk3,h4];rfl)
 refine sr fun Z z=>?_
 simp
 apply z
 refine AT_ret ?_
 simp[Tryz.f21]
 rw[rightD_eq]
 (rw[rightDR_no h1 h2 h3 hS hV hk3,h4];rfl)
 cases h9:a.sigs.isEmpty
 cases h10:(a.kind==2)
 refine sr fun Z z=>?_
 simp
 apply z
 refine AT_ret ?_
 simp[Tryz.f21]
 rw[rightD_eq]
 (rw[rightDR_no h1 h2 h3 hS hV hk3,h4];rfl)
 refine sr fun Z z=>?_
 simp
 apply z
 refine AT_ret ?_
 simp[Tryz.f21]
 rw[rightD_eq]
 (rw[rightDR_no h1 h2 h3 hS hV hk3,h4];rfl)
 refine sr fun Z z=>?_
 simp
 apply z
 refine AT_ret ?_
 simp[Tryz.f21]
 rw[rightD_eq]
 (rw[rightDR_no h1 h2 h3 hS hV hk3,h4];rfl)
 cases h5:(a.vars.isEmpty)
 refine sr fun Z z=>?_
 simp[len_is0,h4,h5]
 apply z
 cases h8:(a.kind==1)
 cases h10:(a.kind==2)
 refine sr fun Z z=>?_
 simp
 apply z
 refine AT_ret ?_
 simp[Tryz.f21]
 rw[rightD_eq]
 (rw[rightDR_no h1 h2 h3 hS hV hk3,h4,h5];rfl)
 refine sr fun Z z=>?_
 simp
 apply z
 refine AT_ret ?_
 simp[Tryz.f21]
 rw[rightD_eq]
 (rw[rightDR_no h1 h2 h3 hS hV hk3,h4,h5];rfl)
 cases h9:a.sigs.isEmpty
 cases h10:(a.kind==2)
 refine sr fun Z z=>?_
 simp
 apply z
 refine AT_ret ?_
 simp[Tryz.f21]
 rw[rightD_eq]
 (rw[rightDR_no h1 h2 h3 hS hV hk3,h4,h5];rfl)
 refine sr fun Z z=>?_
 simp
 apply z
 refine AT_ret ?_
 simp[Tryz.f21]
 rw[rightD_eq]
 (rw[rightDR_no h1 h2 h3 hS hV hk3,h4,h5];rfl)
 refine sr fun Z z=>?_
 simp
 apply z
 refine AT_ret ?_
 simp[Tryz.f21]
 rw[rightD_eq]
 (rw[rightDR_no h1 h2 h3 hS hV hk3,h4,h5];rfl)
 cases h6:(sameG a.sig ⟨[],[],[],.mk [] [] 0,0⟩)
 refine sr fun Z z=>?_
 simp[len_is0,h4,h5]
 refine RVn_call ((by have h:=c_ref06x_Sig g rnd a.sig ⟨[],[],[],.mk [] [] 0,0⟩ (by omega);simp only[encG, List.map_nil,Ty.name,Ty.args,Ty.pos] at h ⊢;exact h)) ?_
 simp[h6]
 repeat refine sg ?_
 apply z
 cases h8:(a.kind==1)
 cases h10:(a.kind==2)
 refine sr fun Z z=>?_
 simp
 apply z
 refine AT_ret ?_
 simp[Tryz.f21]
 rw[rightD_eq]
 (rw[rightDR_no h1 h2 h3 hS hV hk3,h4,h5,h6];rfl)
 refine sr fun Z z=>?_
 simp
 apply z
 refine AT_ret ?_
 simp[Tryz.f21]
 rw[rightD_eq]
 (rw[rightDR_no h1 h2 h3 hS hV hk3,h4,h5,h6];rfl)
 cases h9:a.sigs.isEmpty
 cases h10:(a.kind==2)
 refine sr fun Z z=>?_
 simp
 apply z
 refine AT_ret ?_
 simp[Tryz.f21]
 rw[rightD_eq]
 (rw[rightDR_no h1 h2 h3 hS hV hk3,h4,h5,h6];rfl)
 refine sr fun Z z=>?_
 simp
 apply z
 refine AT_ret ?_
 simp[Tryz.f21]
 rw[rightD_eq]
 (rw[rightDR_no h1 h2 h3 hS hV hk3,h4,h5,h6];rfl)
 refine sr fun Z z=>?_
 simp
 apply z
 refine AT_ret ?_
 simp[Tryz.f21]
 rw[rightD_eq]
 (rw[rightDR_no h1 h2 h3 hS hV hk3,h4,h5,h6];rfl)
 cases h7:(sameE a.body (.mk 0 [] (.mk [] [] 0) [] [] 0))
 refine sr fun Z z=>?_
 simp[len_is0,h4,h5]
 refine RVn_call ((by have h:=c_ref06x_Sig g rnd a.sig ⟨[],[],[],.mk [] [] 0,0⟩ (by omega);simp only[encG, List.map_nil,Ty.name,Ty.args,Ty.pos] at h ⊢;exact h)) ?_
 simp[h6]
 repeat refine sg ?_
 refine RVn_call ((by have h:=c_ref05x_Same g rnd a.body (.mk 0 [] (.mk [] [] 0) [] [] 0) (by omega);simp only[encE_def, List.map_nil,Ty.name,Ty.args,Ty.pos,Exp.kind,Exp.name,Exp.ty,Exp.ta,Exp.kids,Exp.pos] at h ⊢;exact h)) ?_
 simp[h7]
 repeat refine sg ?_
 apply z
 cases h8:(a.kind==1)
 cases h10:(a.kind==2)
 refine sr fun Z z=>?_
 simp
 apply z
 refine AT_ret ?_
 simp[Tryz.f21]
 rw[rightD_eq]
 (rw[rightDR_no h1 h2 h3 hS hV hk3,h4,h5,h6,h7];rfl)
 refine sr fun Z z=>?_
 simp
 apply z
 refine AT_ret ?_
 simp[Tryz.f21]
 rw[rightD_eq]
 (rw[rightDR_no h1 h2 h3 hS hV hk3,h4,h5,h6,h7];rfl)
 cases h9:a.sigs.isEmpty
 cases h10:(a.kind==2)
 refine sr fun Z z=>?_
 simp
 apply z
 refine AT_ret ?_
 simp[Tryz.f21]
 rw[rightD_eq]
 (rw[rightDR_no h1 h2 h3 hS hV hk3,h4,h5,h6,h7];rfl)
 refine sr fun Z z=>?_
 simp
 apply z
 refine AT_ret ?_
 simp[Tryz.f21]
 rw[rightD_eq]
 (rw[rightDR_no h1 h2 h3 hS hV hk3,h4,h5,h6,h7];rfl)
 refine sr fun Z z=>?_
 simp
 apply z
 refine AT_ret ?_
 simp[Tryz.f21]
 rw[rightD_eq]
 (rw[rightDR_no h1 h2 h3 hS hV hk3,h4,h5,h6,h7];rfl)
 refine sr fun Z z=>?_
 simp[len_is0,h4,h5]
 refine RVn_call ((by have h:=c_ref06x_Sig g rnd a.sig ⟨[],[],[],.mk [] [] 0,0⟩ (by omega);simp only[encG, List.map_nil,Ty.name,Ty.args,Ty.pos] at h ⊢;exact h)) ?_
 simp[h6]
 repeat refine sg ?_
 refine RVn_call ((by have h:=c_ref05x_Same g rnd a.body (.mk 0 [] (.mk [] [] 0) [] [] 0) (by omega);simp only[encE_def, List.map_nil,Ty.name,Ty.args,Ty.pos,Exp.kind,Exp.name,Exp.ty,Exp.ta,Exp.kids,Exp.pos] at h ⊢;exact h)) ?_
 simp[h7]
 repeat refine sg ?_
 apply z
 cases h8:(a.kind==1)
 cases h10:(a.kind==2)
 refine sr fun Z z=>?_
 simp[h8,h10]
 apply z
 refine AT_ret ?_
 simp[Tryz.f21]
 rw[rightD_eq]
 (rw[rightDR_no h1 h2 h3 hS hV hk3,h4,h5,h6,h7,h8,h10];rfl)
 refine sr fun Z z=>?_
 simp[len_is0,h8,h10]
 apply z
 refine AT_ret ?_
 simp[Tryz.f21]
 rw[rightD_eq]
 (rw[rightDR_no h1 h2 h3 hS hV hk3,h4,h5,h6,h7,h8,h10];rfl)
 cases h9:a.sigs.isEmpty
 cases h10:(a.kind==2)
 refine sr fun Z z=>?_
 simp[len_is0,h8,h9,h10]
 apply z
 refine AT_ret ?_
 simp[Tryz.f21]
 rw[rightD_eq]
 (rw[rightDR_no h1 h2 h3 hS hV hk3,h4,h5,h6,h7,h8,h9,h10];rfl)
 refine sr fun Z z=>?_
 simp[len_is0,h8,h9,h10]
 apply z
 refine AT_ret ?_
 simp[Tryz.f21]
 rw[rightD_eq]
 (rw[rightDR_no h1 h2 h3 hS hV hk3,h4,h5,h6,h7,h8,h9,h10];rfl)
 refine sr fun Z z=>?_
 simp[len_is0,h8,h9]
 apply z
 refine AT_ret ?_
 simp[Tryz.f21]
 rw[rightD_eq]
 (rw[rightDR_no h1 h2 h3 hS hV hk3,h4,h5,h6,h7,h8,h9];rfl)
 refine sr fun Z z=>?_
 have hV:a.vars.all isName=true:=by rw[hv,List.drop_eq_nil_of_le (by omega)];rfl
 simp[hk3]
 apply z
 refine cT (by simp) ?_
 cases h4:(isName a.recv)
 refine sr fun Z z=>?_
 simp
 refine RVn_call (c_ref01x_Is g rnd a.recv (by omega)) ?_
 simp[h4]
 repeat refine sg ?_
 apply z
 refine AT_ret ?_
 simp[Tryz.f21]
 rw[rightD_eq]
 (rw[rightDR_yes h1 h2 h3 hS hV hk3,h4];rfl)
 cases h5:((a.fms.length:Int)+a.flds.length+a.sigs.length==0)
 refine sr fun Z z=>?_
 simp
 refine RVn_call (c_ref01x_Is g rnd a.recv (by omega)) ?_
 simp[h4,h5]
 repeat refine sg ?_
 apply z
 refine AT_ret ?_
 simp[Tryz.f21]
 rw[rightD_eq]
 (rw[rightDR_yes h1 h2 h3 hS hV hk3,h4,h5];rfl)
 cases h6:(rightG a.sig)
 refine sr fun Z z=>?_
 simp
 refine RVn_call (c_ref01x_Is g rnd a.recv (by omega)) ?_
 simp[h4,h5]
 repeat refine sg ?_
 refine RVn_call ((by have h:=c_ref06x_rightSig g rnd a.sig (by omega);simp only[encG] at h;exact h)) ?_
 simp[h6]
 repeat refine sg ?_
 apply z
 refine AT_ret ?_
 simp[Tryz.f21]
 rw[rightD_eq]
 (rw[rightDR_yes h1 h2 h3 hS hV hk3,h4,h5,h6];rfl)
 refine sr fun Z z=>?_
 simp
 refine RVn_call (c_ref01x_Is g rnd a.recv (by omega)) ?_
 simp[h4,h5]
 repeat refine sg ?_
 refine RVn_call ((by have h:=c_ref06x_rightSig g rnd a.sig (by omega);simp only[encG] at h;exact h)) ?_
 simp[h6]
 repeat refine sg ?_
 refine RVn_call ((by have h:=c_ref05x_Right g rnd a.body (by omega);simp only[encE_def] at h;exact h)) ?_
 simp
 repeat refine sg ?_
 apply z
 refine AT_ret ?_
 simp[Tryz.f21]
 rw[rightD_eq]
 (rw[rightDR_yes h1 h2 h3 hS hV hk3,h4,h5,h6];rfl)

end Go.Proofs.YtfgafcjebfjepaaGreatDoor
end

section
/- Contracts: the reference compares programs. -/
set_option linter.all false
set_option maxHeartbeats 1000000
set_option maxRecDepth 10000
namespace Go.Proofs.YtfgafcjebfjepaaGreatDoor
open Go Go.Pv
variable (g:Nat→Option (List AV)) (rnd:Bool)

end Go.Proofs.YtfgafcjebfjepaaGreatDoor
end

section
/- Contracts: the reference compares a program with itself, offsets too. -/
set_option linter.all false
set_option maxHeartbeats 1000000
set_option maxRecDepth 10000
namespace Go.Proofs.YtfgafcjebfjepaaGreatDoor
open Go Go.Pv
variable (g:Nat→Option (List AV)) (rnd:Bool)

theorem c_ref06x_formals_x (a:List Fm) (hw:wtFs a≤1000000000) (hl:a.length≤1000000000):Valid Tryz.prog (G0 g rnd) 44 [.slice (a.map encF),.slice (a.map encF),.bool true] (.bool true):=by

 refine valid_of [] Tryz.func44 rfl (by kernel_rfl) ?_
 refine sr fun Z z=>?_
 simp[Tryz.f44]
 apply z
 refine AT_seq_k fun K1 hK1=>?_
 refine sr fun Z z=>?_
 simp
 apply z
 refine cF (by simp) ?_
 refine AT_skip ?_
 refine hK1 _ ?_
 refine AT_seq_k fun K2 hK2=>?_
 refine sr fun Z z=>?_
 simp
 apply z
 refine AT_block ?_
 refine AT_loop_q [0,1,2,7] [] (fun j s=>∃ k,k≤a.length∧j=a.length - k∧s={ n:=72,tm:=[(0,.v (.slice (a.map encF)) none),(1,.v (.slice (a.map encF)) none),(2,.v (.bool true) none),(7,.v (.int .i64 k) none)],bx:=[],tb:=[],sh:=[],hint:=[] }) (a.length) (by first|rfl|simp) ?_ ?_
 exact ⟨0,by simp⟩
 rintro j s ⟨k,hk,rfl,rfl⟩ K3 hK3
 refine AT_seq_k fun K4 hK4=>?_
 refine sr fun Z z=>?_
 simp
 apply z
 refine AT_cond (g:=none) rfl (fun hb16=>?_) (fun hb16=>?_)
 simp at hb16
 refine AT_skip ?_
 refine hK4 _ ?_
 refine AT_seq_k fun K5 hK5=>?_
 refine AT_block ?_
 refine AT_seq_k fun K6 hK6=>?_
 refine AT_seq_draw Pt.mixed (by kernel_rfl) fun Z z=>?_
 have hka:k < a.length:=by omega
 have hm9:=wtFs_mem (l:=a) (f:=a[k]) (by simp)
 have hm8:wtF a[k]=a[k].name.length+1+wt a[k].ty:=rfl
 have h2:=cmpT_refl a[k].ty
 have h3:=eqT_refl a[k].ty
 simp[row_map,encF,hb16]
 refine RVdn_call ((by have h:=c_ref04x_Same g rnd a[k].ty a[k].ty (by omega);simp only[encTy_def] at h;exact h)) ?_
 simp[h2]
 repeat refine sg ?_
 apply z
 refine cF (by simp) ?_
 refine AT_skip ?_
 refine hK6 _ ?_
 refine AT_seq_draw Pt.mixed (by kernel_rfl) fun Z z=>?_
 simp[row_map,encF,hb16]
 refine RVdn_call ((by have h:=c_ref04x_Equal g rnd a[k].ty a[k].ty (by omega);simp only[encTy_def] at h;exact h)) ?_
 simp[h3]
 repeat refine sg ?_
 apply z
 refine cF (by simp) ?_
 refine AT_skip ?_
 refine hK5 _ ?_
 refine AT_region_q fun Z z=>?_
 simp
 repeat refine sg ?_
 apply z
 refine hK3 _ (by first|rfl|simp) (a.length - (k+1)) (by omega) ?_
 exact ⟨k+1,by omega,by omega,by simp⟩
 simp at hb16
 refine AT_exit ?_
 refine hK2 _ ?_
 refine sr fun Z z=>?_
 simp
 apply z
 refine AT_ret ?_
 simp[Tryz.f44]
 skip

theorem c_ref06x_params_x (a:List Fm) (hw:wtFs a≤1000000000) (hl:a.length≤1000000000):Valid Tryz.prog (G0 g rnd) 45 [.slice (a.map encF),.slice (a.map encF),.bool true] (.bool true):=by

 refine valid_of [] Tryz.func45 rfl (by kernel_rfl) ?_
 refine sr fun Z z=>?_
 simp[Tryz.f45]
 apply z
 refine AT_seq_k fun K1 hK1=>?_
 refine sr fun Z z=>?_
 simp
 apply z
 refine cF (by simp) ?_
 refine AT_skip ?_
 refine hK1 _ ?_
 refine AT_seq_k fun K2 hK2=>?_
 refine sr fun Z z=>?_
 simp
 apply z
 refine AT_block ?_
 refine AT_loop_q [0,1,2,7] [] (fun j s=>∃ k,k≤a.length∧j=a.length - k∧s={ n:=72,tm:=[(0,.v (.slice (a.map encF)) none),(1,.v (.slice (a.map encF)) none),(2,.v (.bool true) none),(7,.v (.int .i64 k) none)],bx:=[],tb:=[],sh:=[],hint:=[] }) (a.length) (by first|rfl|simp) ?_ ?_
 exact ⟨0,by simp⟩
 rintro j s ⟨k,hk,rfl,rfl⟩ K3 hK3
 refine AT_seq_k fun K4 hK4=>?_
 refine sr fun Z z=>?_
 simp
 apply z
 refine AT_cond (g:=none) rfl (fun hb16=>?_) (fun hb16=>?_)
 simp at hb16
 refine AT_skip ?_
 refine hK4 _ ?_
 refine AT_seq_k fun K5 hK5=>?_
 refine AT_block ?_
 refine AT_seq_k fun K6 hK6=>?_
 refine AT_seq_draw Pt.mixed (by kernel_rfl) fun Z z=>?_
 have hka:k < a.length:=by omega
 have hm9:=wtFs_mem (l:=a) (f:=a[k]) (by simp)
 have hm8:wtF a[k]=a[k].name.length+1+wt a[k].ty:=rfl
 have h2:=cmpT_refl a[k].ty
 have h3:=eqT_refl a[k].ty
 simp[row_map,encF,hb16]
 refine RVdn_call ((by have h:=c_ref04x_Same g rnd a[k].ty a[k].ty (by omega);simp only[encTy_def] at h;exact h)) ?_
 simp[h2]
 repeat refine sg ?_
 apply z
 refine cF (by simp) ?_
 refine AT_skip ?_
 refine hK6 _ ?_
 refine AT_seq_draw Pt.mixed (by kernel_rfl) fun Z z=>?_
 simp[row_map,encF,hb16]
 refine RVdn_call ((by have h:=c_ref04x_Equal g rnd a[k].ty a[k].ty (by omega);simp only[encTy_def] at h;exact h)) ?_
 simp[h3]
 repeat refine sg ?_
 apply z
 refine cF (by simp) ?_
 refine AT_skip ?_
 refine hK5 _ ?_
 refine AT_region_q fun Z z=>?_
 simp
 repeat refine sg ?_
 apply z
 refine hK3 _ (by first|rfl|simp) (a.length - (k+1)) (by omega) ?_
 exact ⟨k+1,by omega,by omega,by simp⟩
 simp at hb16
 refine AT_exit ?_
 refine hK2 _ ?_
 refine sr fun Z z=>?_
 simp
 apply z
 refine AT_ret ?_
 simp[Tryz.f45]
 skip

theorem c_ref06x_Sig_x (a:Sg) (hw:wtG a≤1000000000):Valid Tryz.prog (G0 g rnd) 46 [.agg (encG a),.agg (encG a),.bool true] (.bool true):=by
 have hw2:a.name.length+1+wtFs a.fms+wtFs a.pms+wt a.res≤1000000000:=hw
 have h2:=cmpT_refl a.res
 have h3:=eqT_refl a.res
 refine valid_of [] Tryz.func46 rfl (by kernel_rfl) ?_
 refine sr fun Z z=>?_
 simp[encG,Tryz.f46]
 apply z
 refine AT_seq_k fun K1 hK1=>?_
 refine sr fun Z z=>?_
 simp
 refine RVn_call (c_ref06x_formals_x g rnd a.fms (by omega) (by have:=wtFs_len a.fms;omega)) ?_
 simp
 repeat refine sg ?_
 refine RVn_call (c_ref06x_params_x g rnd a.pms (by omega) (by have:=wtFs_len a.pms;omega)) ?_
 simp
 repeat refine sg ?_
 refine RVn_call ((by have h:=c_ref04x_Same g rnd a.res a.res (by omega);simp only[encTy_def] at h;exact h)) ?_
 simp[h2]
 repeat refine sg ?_
 apply z
 refine cF (by simp) ?_
 refine AT_skip ?_
 refine hK1 _ ?_
 refine sr fun Z z=>?_
 simp
 refine RVn_call ((by have h:=c_ref04x_Equal g rnd a.res a.res (by omega);simp only[encTy_def] at h;exact h)) ?_
 simp[h3]
 repeat refine sg ?_
 apply z
 refine AT_ret ?_
 simp[Tryz.f46]
 skip

theorem c_ref06x_Decl_x (a:Dc) (hw:wtD a≤400000000):Valid Tryz.prog (G0 g rnd) 19 [.agg (encD a),.agg (encD a),.bool true] (.bool true):=by
 have hw2:a.name.length+1+wtFs a.fms+wtFs a.flds+wtGs a.sigs+a.recv.length+wtSs a.vars+wtG a.sig+wtE a.body≤400000000:=hw
 have hl1:=wtFs_len a.fms
 have hl2:=wtFs_len a.flds
 have hl3:=wtGs_len a.sigs
 have hl4:=wtSs_len a.vars
 have h2:=sameE_refl a.body
 have h3:=eqE_refl a.body
 refine valid_of [] Tryz.func19 rfl (by kernel_rfl) ?_
 refine sr fun Z z=>?_
 simp[encD,Tryz.f19]
 apply z
 refine AT_seq_k fun K1 hK1=>?_
 refine sr fun Z z=>?_
 simp
 refine RVn_call (c_ref06x_formals_x g rnd a.fms (by omega) (by have:=wtFs_len a.fms;omega)) ?_
 simp
 repeat refine sg ?_
 refine RVn_call (c_ref06x_params_x g rnd a.flds (by omega) (by have:=wtFs_len a.flds;omega)) ?_
 simp
 repeat refine sg ?_
 apply z
 refine cF (by simp) ?_
 refine AT_skip ?_
 refine hK1 _ ?_
 refine AT_seq_k fun K2 hK2=>?_
 refine sr fun Z z=>?_
 simp
 apply z
 refine AT_block ?_
 refine AT_loop_q [2,3,4,7] [3,4] (fun j s=>∃ k,k≤a.sigs.length∧j=a.sigs.length - k∧s={ n:=133,tm:=[(2,.v (.bool true) none),(3,.lp 3 0),(4,.lp 4 0),(7,.v (.int .i64 k) none)],bx:=[(3,encD a),(4,encD a)],tb:=[],sh:=[],hint:=[] }) (a.sigs.length) (by first|rfl|simp) ?_ ?_
 exact ⟨0,by simp[encD]⟩
 rintro j s ⟨k,hk,rfl,rfl⟩ K3 hK3
 refine AT_seq_k fun K4 hK4=>?_
 refine sr fun Z z=>?_
 simp[encD]
 apply z
 refine AT_cond (g:=none) rfl (fun hb68=>?_) (fun hb68=>?_)
 simp at hb68
 refine AT_skip ?_
 refine hK4 _ ?_
 refine AT_seq_k fun K5 hK5=>?_
 refine AT_block ?_
 refine AT_seq_draw Pt.mixed (by kernel_rfl) fun Z z=>?_
 have hka:k < a.sigs.length:=by omega
 have hm9:=wtGs_mem (l:=a.sigs) (f:=a.sigs[k]) (by simp)
 simp[row_map,encG,hb68]
 refine RVdn_call ((by have h:=c_ref06x_Sig_x g rnd a.sigs[k] (by omega);simp only[encG] at h;exact h)) ?_
 simp
 apply z
 refine cF (by simp) ?_
 refine AT_skip ?_
 refine hK5 _ ?_
 refine AT_region_q fun Z z=>?_
 simp
 repeat refine sg ?_
 apply z
 refine hK3 _ (by first|rfl|simp) (a.sigs.length - (k+1)) (by omega) ?_
 exact ⟨k+1,by omega,by omega,by simp[encD]⟩
 simp at hb68
 refine AT_exit ?_
 refine hK2 _ ?_
 refine AT_seq_k fun K6 hK6=>?_
 refine sr fun Z z=>?_
 simp
 apply z
 refine AT_block ?_
 refine AT_loop_q [2,3,4,8] [3,4] (fun j s=>∃ k,k≤a.vars.length∧j=a.vars.length - k∧s={ n:=133,tm:=[(2,.v (.bool true) none),(3,.lp 3 0),(4,.lp 4 0),(8,.v (.int .i64 k) none)],bx:=[(3,encD a),(4,encD a)],tb:=[],sh:=[],hint:=[] }) (a.vars.length) (by first|rfl|simp) ?_ ?_
 exact ⟨0,by simp[encD]⟩
 rintro j s ⟨k,hk,rfl,rfl⟩ K7 hK7
 refine AT_seq_k fun K8 hK8=>?_
 refine sr fun Z z=>?_
 simp[encD]
 apply z
 refine AT_cond (g:=none) rfl (fun hb88=>?_) (fun hb88=>?_)
 simp at hb88
 refine AT_skip ?_
 refine hK8 _ ?_
 refine AT_seq_k fun K9 hK9=>?_
 refine AT_block ?_
 refine AT_seq_draw Pt.mixed (by kernel_rfl) fun Z z=>?_
 have hka:k < a.vars.length:=by omega
 simp[row_map,encS,hb88]
 apply z
 refine cF (by simp) ?_
 refine AT_skip ?_
 refine hK9 _ ?_
 refine AT_region_q fun Z z=>?_
 simp
 repeat refine sg ?_
 apply z
 refine hK7 _ (by first|rfl|simp) (a.vars.length - (k+1)) (by omega) ?_
 exact ⟨k+1,by omega,by omega,by simp[encD]⟩
 simp at hb88
 refine AT_exit ?_
 refine hK6 _ ?_
 refine AT_seq_k fun K10 hK10=>?_
 refine sr fun Z z=>?_
 simp
 refine RVn_call ((by have h:=c_ref06x_Sig_x g rnd a.sig (by omega);simp only[encG] at h;exact h)) ?_
 simp
 repeat refine sg ?_
 refine RVn_call ((by have h:=c_ref05x_Same g rnd a.body a.body (by omega);simp only[encE_def] at h;exact h)) ?_
 simp[h2]
 repeat refine sg ?_
 apply z
 refine cF (by simp) ?_
 refine AT_skip ?_
 refine hK10 _ ?_
 refine sr fun Z z=>?_
 simp
 refine RVn_call ((by have h:=c_ref05x_Equal g rnd a.body a.body (by omega);simp only[encE_def] at h;exact h)) ?_
 simp[h3]
 repeat refine sg ?_
 apply z
 refine AT_ret ?_
 simp[Tryz.f19]
 skip

end Go.Proofs.YtfgafcjebfjepaaGreatDoor
end

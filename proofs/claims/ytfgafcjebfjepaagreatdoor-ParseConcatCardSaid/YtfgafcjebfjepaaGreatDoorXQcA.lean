import Derived.Test.YtfgafcjebfjepaaGreatDoorPt
import Derived.Test.YtfgafcjebfjepaaGreatDoorPvPb
import Derived.Test.YtfgafcjebfjepaaGreatDoorPvLa
import Derived.Test.YtfgafcjebfjepaaGreatDoorPvDc
import Derived.Test.YtfgafcjebfjepaaGreatDoorPvEb
import Derived.Test.YtfgafcjebfjepaaGreatDoorXDcE
import Derived.Test.YtfgafcjebfjepaaGreatDoorPvOe
import Derived.Test.YtfgafcjebfjepaaGreatDoorXDcB
import Derived.Test.YtfgafcjebfjepaaGreatDoorXExA
import Derived.Test.YtfgafcjebfjepaaGreatDoorXNaB
import Derived.Test.YtfgafcjebfjepaaGreatDoorXDcC
import Derived.Test.YtfgafcjebfjepaaGreatDoorXTyD
import Derived.Test.YtfgafcjebfjepaaGreatDoorXRdH
section
/- Contracts: the reference compares declarations. -/
set_option linter.all false
set_option maxHeartbeats 1000000
set_option maxRecDepth 10000
namespace Go.Proofs.YtfgafcjebfjepaaGreatDoor
open Go Go.Pv
variable (g:Nat→Option (List AV)) (rnd:Bool)

theorem c_ref06x_formals (a b:List Fm) (hw:wtFs a≤1000000000) (hl:a.length≤1000000000):Valid Tryz.prog (G0 g rnd) 44 [.slice (a.map encF),.slice (b.map encF),.bool false] (.bool (eqL sameF a b)):=by

 refine valid_of [] Tryz.func44 rfl (by kernel_rfl) ?_
 refine sr fun Z z=>?_
 simp[Tryz.f44]
 apply z
 refine AT_seq_k fun K1 hK1=>?_
 refine sr fun Z z=>?_
 simp
 apply z
 refine AT_cond (g:=none) rfl (fun hb12=>?_) (fun hb12=>?_)
 simp at hb12
 refine sr fun Z z=>?_
 simp
 apply z
 refine AT_ret ?_
 simp[Tryz.f44]
 (·rw[eqL_len (show a.length≠b.length by omega)])
 simp at hb12
 have hab:a.length=b.length:=by omega
 refine AT_skip ?_
 refine hK1 _ ?_
 refine AT_seq_k fun K2 hK2=>?_
 refine sr fun Z z=>?_
 simp
 apply z
 refine AT_block ?_
 refine AT_loop_q [0,1,2,7] [] (fun j s=>∃ k,k≤a.length∧eqL sameF a b=eqL sameF (a.drop k) (b.drop k)∧j=a.length - k∧s={ n:=72,tm:=[(0,.v (.slice (a.map encF)) none),(1,.v (.slice (b.map encF)) none),(2,.v (.bool false) none),(7,.v (.int .i64 k) none)],bx:=[],tb:=[],sh:=[],hint:=[] }) (a.length) (by first|rfl|simp) ?_ ?_
 exact ⟨0,by simp⟩
 rintro j s ⟨k,hk,hc,rfl,rfl⟩ K3 hK3
 refine AT_seq_k fun K4 hK4=>?_
 refine sr fun Z z=>?_
 simp
 apply z
 refine AT_cond (g:=none) rfl (fun hb16=>?_) (fun hb16=>?_)
 simp at hb16
 refine AT_skip ?_
 refine hK4 _ ?_
 refine AT_seq_k fun K5 hK5=>?_
 refine AT_block ?_
 refine AT_seq_k fun K6 hK6=>?_
 cases h1:(a[k].name==b[k].name)
 refine AT_seq_draw Pt.mixed (by kernel_rfl) fun Z z=>?_
 have hkb:k < b.length:=by omega
 have hka:k < a.length:=by omega
 have hda:=List.drop_eq_getElem_cons hka
 have hdb:=List.drop_eq_getElem_cons hkb
 have hm9:=wtFs_mem (l:=a) (f:=a[k]) (by simp)
 have hm8:wtF a[k]=a[k].name.length+1+wt a[k].ty:=rfl
 simp[row_map,encF,hkb,hb16,h1]
 apply z
 refine cT (by simp) ?_
 refine sr fun Z z=>?_
 simp
 apply z
 refine AT_ret ?_
 simp[Tryz.f44]
 (rw[hc,hda,hdb,eqL_cons,sameF,h1];rfl)
 cases h2:(cmpT a[k].ty b[k].ty==0)
 refine AT_seq_draw Pt.mixed (by kernel_rfl) fun Z z=>?_
 have hkb:k < b.length:=by omega
 have hka:k < a.length:=by omega
 have hda:=List.drop_eq_getElem_cons hka
 have hdb:=List.drop_eq_getElem_cons hkb
 have hm9:=wtFs_mem (l:=a) (f:=a[k]) (by simp)
 have hm8:wtF a[k]=a[k].name.length+1+wt a[k].ty:=rfl
 simp[row_map,encF,hkb,hb16,h1]
 refine RVdn_call ((by have h:=c_ref04x_Same g rnd a[k].ty b[k].ty (by omega);simp only[encTy_def] at h;exact h)) ?_
 simp[h2]
 repeat refine sg ?_
 apply z
 refine cT (by simp) ?_
 refine sr fun Z z=>?_
 simp
 apply z
 refine AT_ret ?_
 simp[Tryz.f44]
 (rw[hc,hda,hdb,eqL_cons,sameF,h2,h1];rfl)
 refine AT_seq_draw Pt.mixed (by kernel_rfl) fun Z z=>?_
 have hkb:k < b.length:=by omega
 have hka:k < a.length:=by omega
 have hda:=List.drop_eq_getElem_cons hka
 have hdb:=List.drop_eq_getElem_cons hkb
 have hm9:=wtFs_mem (l:=a) (f:=a[k]) (by simp)
 have hm8:wtF a[k]=a[k].name.length+1+wt a[k].ty:=rfl
 simp[row_map,encF,hkb,hb16,h1]
 refine RVdn_call ((by have h:=c_ref04x_Same g rnd a[k].ty b[k].ty (by omega);simp only[encTy_def] at h;exact h)) ?_
 simp[h2]
 repeat refine sg ?_
 apply z
 refine cF (by simp) ?_
 refine AT_skip ?_
 refine hK6 _ ?_
 refine AT_seq_draw Pt.mixed (by kernel_rfl) fun Z z=>?_
 simp
 apply z
 refine cF (by simp) ?_
 refine AT_skip ?_
 refine hK5 _ ?_
 refine AT_region_q fun Z z=>?_
 simp
 repeat refine sg ?_
 apply z
 refine hK3 _ (by first|rfl|simp) (a.length - (k+1)) (by omega) ?_
 refine ⟨k+1,by omega,?_,by omega,by simp⟩
 rw[hc,hda,hdb,eqL_cons,sameF,h2,h1];rfl
 simp at hb16
 refine AT_exit ?_
 refine hK2 _ ?_
 refine sr fun Z z=>?_
 simp
 apply z
 refine AT_ret ?_
 simp[Tryz.f44]
 (rw[hc,List.drop_eq_nil_of_le (by omega),List.drop_eq_nil_of_le (show b.length≤k by omega)];rfl)

theorem c_ref06x_params (a b:List Fm) (hw:wtFs a≤1000000000) (hl:a.length≤1000000000):Valid Tryz.prog (G0 g rnd) 45 [.slice (a.map encF),.slice (b.map encF),.bool false] (.bool (eqL sameF a b)):=by

 refine valid_of [] Tryz.func45 rfl (by kernel_rfl) ?_
 refine sr fun Z z=>?_
 simp[Tryz.f45]
 apply z
 refine AT_seq_k fun K1 hK1=>?_
 refine sr fun Z z=>?_
 simp
 apply z
 refine AT_cond (g:=none) rfl (fun hb12=>?_) (fun hb12=>?_)
 simp at hb12
 refine sr fun Z z=>?_
 simp
 apply z
 refine AT_ret ?_
 simp[Tryz.f45]
 (·rw[eqL_len (show a.length≠b.length by omega)])
 simp at hb12
 have hab:a.length=b.length:=by omega
 refine AT_skip ?_
 refine hK1 _ ?_
 refine AT_seq_k fun K2 hK2=>?_
 refine sr fun Z z=>?_
 simp
 apply z
 refine AT_block ?_
 refine AT_loop_q [0,1,2,7] [] (fun j s=>∃ k,k≤a.length∧eqL sameF a b=eqL sameF (a.drop k) (b.drop k)∧j=a.length - k∧s={ n:=72,tm:=[(0,.v (.slice (a.map encF)) none),(1,.v (.slice (b.map encF)) none),(2,.v (.bool false) none),(7,.v (.int .i64 k) none)],bx:=[],tb:=[],sh:=[],hint:=[] }) (a.length) (by first|rfl|simp) ?_ ?_
 exact ⟨0,by simp⟩
 rintro j s ⟨k,hk,hc,rfl,rfl⟩ K3 hK3
 refine AT_seq_k fun K4 hK4=>?_
 refine sr fun Z z=>?_
 simp
 apply z
 refine AT_cond (g:=none) rfl (fun hb16=>?_) (fun hb16=>?_)
 simp at hb16
 refine AT_skip ?_
 refine hK4 _ ?_
 refine AT_seq_k fun K5 hK5=>?_
 refine AT_block ?_
 refine AT_seq_k fun K6 hK6=>?_
 cases h1:(a[k].name==b[k].name)
 refine AT_seq_draw Pt.mixed (by kernel_rfl) fun Z z=>?_
 have hkb:k < b.length:=by omega
 have hka:k < a.length:=by omega
 have hda:=List.drop_eq_getElem_cons hka
 have hdb:=List.drop_eq_getElem_cons hkb
 have hm9:=wtFs_mem (l:=a) (f:=a[k]) (by simp)
 have hm8:wtF a[k]=a[k].name.length+1+wt a[k].ty:=rfl
 simp[row_map,encF,hkb,hb16,h1]
 apply z
 refine cT (by simp) ?_
 refine sr fun Z z=>?_
 simp
 apply z
 refine AT_ret ?_
 simp[Tryz.f45]
 (rw[hc,hda,hdb,eqL_cons,sameF,h1];rfl)
 cases h2:(cmpT a[k].ty b[k].ty==0)
 refine AT_seq_draw Pt.mixed (by kernel_rfl) fun Z z=>?_
 have hkb:k < b.length:=by omega
 have hka:k < a.length:=by omega
 have hda:=List.drop_eq_getElem_cons hka
 have hdb:=List.drop_eq_getElem_cons hkb
 have hm9:=wtFs_mem (l:=a) (f:=a[k]) (by simp)
 have hm8:wtF a[k]=a[k].name.length+1+wt a[k].ty:=rfl
 simp[row_map,encF,hkb,hb16,h1]
 refine RVdn_call ((by have h:=c_ref04x_Same g rnd a[k].ty b[k].ty (by omega);simp only[encTy_def] at h;exact h)) ?_
 simp[h2]
 repeat refine sg ?_
 apply z
 refine cT (by simp) ?_
 refine sr fun Z z=>?_
 simp
 apply z
 refine AT_ret ?_
 simp[Tryz.f45]
 (rw[hc,hda,hdb,eqL_cons,sameF,h2,h1];rfl)
 refine AT_seq_draw Pt.mixed (by kernel_rfl) fun Z z=>?_
 have hkb:k < b.length:=by omega
 have hka:k < a.length:=by omega
 have hda:=List.drop_eq_getElem_cons hka
 have hdb:=List.drop_eq_getElem_cons hkb
 have hm9:=wtFs_mem (l:=a) (f:=a[k]) (by simp)
 have hm8:wtF a[k]=a[k].name.length+1+wt a[k].ty:=rfl
 simp[row_map,encF,hkb,hb16,h1]
 refine RVdn_call ((by have h:=c_ref04x_Same g rnd a[k].ty b[k].ty (by omega);simp only[encTy_def] at h;exact h)) ?_
 simp[h2]
 repeat refine sg ?_
 apply z
 refine cF (by simp) ?_
 refine AT_skip ?_
 refine hK6 _ ?_
 refine AT_seq_draw Pt.mixed (by kernel_rfl) fun Z z=>?_
 simp
 apply z
 refine cF (by simp) ?_
 refine AT_skip ?_
 refine hK5 _ ?_
 refine AT_region_q fun Z z=>?_
 simp
 repeat refine sg ?_
 apply z
 refine hK3 _ (by first|rfl|simp) (a.length - (k+1)) (by omega) ?_
 refine ⟨k+1,by omega,?_,by omega,by simp⟩
 rw[hc,hda,hdb,eqL_cons,sameF,h2,h1];rfl
 simp at hb16
 refine AT_exit ?_
 refine hK2 _ ?_
 refine sr fun Z z=>?_
 simp
 apply z
 refine AT_ret ?_
 simp[Tryz.f45]
 (rw[hc,List.drop_eq_nil_of_le (by omega),List.drop_eq_nil_of_le (show b.length≤k by omega)];rfl)

theorem c_ref06x_Sig (a b:Sg) (hw:wtG a≤1000000000):Valid Tryz.prog (G0 g rnd) 46 [.agg (encG a),.agg (encG b),.bool false] (.bool (sameG a b)):=by
 have hw2:a.name.length+1+wtFs a.fms+wtFs a.pms+wt a.res≤1000000000:=hw
 refine valid_of [] Tryz.func46 rfl (by kernel_rfl) ?_
 refine sr fun Z z=>?_
 simp[encG,Tryz.f46]
 apply z
 refine AT_seq_k fun K1 hK1=>?_
 cases h1:(a.name==b.name)
 refine sr fun Z z=>?_
 simp[h1]
 apply z
 refine cT (by simp) ?_
 refine sr fun Z z=>?_
 simp
 apply z
 refine AT_ret ?_
 simp[Tryz.f46]
 (simp only[sameG,h1];rfl)
 cases h2:(eqL sameF a.fms b.fms)
 refine sr fun Z z=>?_
 simp[h1]
 refine RVn_call (c_ref06x_formals g rnd a.fms b.fms (by omega) (by have:=wtFs_len a.fms;omega)) ?_
 simp[h2]
 repeat refine sg ?_
 apply z
 refine cT (by simp) ?_
 refine sr fun Z z=>?_
 simp
 apply z
 refine AT_ret ?_
 simp[Tryz.f46]
 (simp only[sameG,h1,h2];rfl)
 cases h3:(eqL sameF a.pms b.pms)
 refine sr fun Z z=>?_
 simp[h1]
 refine RVn_call (c_ref06x_formals g rnd a.fms b.fms (by omega) (by have:=wtFs_len a.fms;omega)) ?_
 simp[h2]
 repeat refine sg ?_
 refine RVn_call (c_ref06x_params g rnd a.pms b.pms (by omega) (by have:=wtFs_len a.pms;omega)) ?_
 simp[h3]
 repeat refine sg ?_
 apply z
 refine cT (by simp) ?_
 refine sr fun Z z=>?_
 simp
 apply z
 refine AT_ret ?_
 simp[Tryz.f46]
 (simp only[sameG,h1,h2,h3];rfl)
 cases h4:(cmpT a.res b.res==0)
 refine sr fun Z z=>?_
 simp[h1]
 refine RVn_call (c_ref06x_formals g rnd a.fms b.fms (by omega) (by have:=wtFs_len a.fms;omega)) ?_
 simp[h2]
 repeat refine sg ?_
 refine RVn_call (c_ref06x_params g rnd a.pms b.pms (by omega) (by have:=wtFs_len a.pms;omega)) ?_
 simp[h3]
 repeat refine sg ?_
 refine RVn_call ((by have h:=c_ref04x_Same g rnd a.res b.res (by omega);simp only[encTy_def] at h;exact h)) ?_
 simp[h4]
 repeat refine sg ?_
 apply z
 refine cT (by simp) ?_
 refine sr fun Z z=>?_
 simp
 apply z
 refine AT_ret ?_
 simp[Tryz.f46]
 (simp only[sameG,h1,h2,h3,h4];rfl)
 refine sr fun Z z=>?_
 simp[h1]
 refine RVn_call (c_ref06x_formals g rnd a.fms b.fms (by omega) (by have:=wtFs_len a.fms;omega)) ?_
 simp[h2]
 repeat refine sg ?_
 refine RVn_call (c_ref06x_params g rnd a.pms b.pms (by omega) (by have:=wtFs_len a.pms;omega)) ?_
 simp[h3]
 repeat refine sg ?_
 refine RVn_call ((by have h:=c_ref04x_Same g rnd a.res b.res (by omega);simp only[encTy_def] at h;exact h)) ?_
 simp[h4]
 repeat refine sg ?_
 apply z
 refine cF (by simp) ?_
 refine AT_skip ?_
 refine hK1 _ ?_
 refine sr fun Z z=>?_
 simp
 apply z
 refine AT_ret ?_
 simp[Tryz.f46]
 (simp only[sameG,h1,h2,h3,h4];rfl)

end Go.Proofs.YtfgafcjebfjepaaGreatDoor
end

section
/- Contracts: the reference on declarations. -/
set_option linter.all false
set_option maxHeartbeats 1000000
set_option maxRecDepth 10000
namespace Go.Proofs.YtfgafcjebfjepaaGreatDoor
open Go Go.Pv
variable (g:Nat→Option (List AV)) (rnd:Bool)

theorem c_ref06x_Decl (a b:Dc) (hw:wtD a≤400000000):Valid Tryz.prog (G0 g rnd) 19 [.agg (encD a),.agg (encD b),.bool false] (.bool (sameD a b)):=by
 have hw2:a.name.length+1+wtFs a.fms+wtFs a.flds+wtGs a.sigs+a.recv.length+wtSs a.vars+wtG a.sig+wtE a.body≤400000000:=hw
 have hl1:=wtFs_len a.fms
 have hl2:=wtFs_len a.flds
 have hl3:=wtGs_len a.sigs
 have hl4:=wtSs_len a.vars
 refine valid_of [] Tryz.func19 rfl (by kernel_rfl) ?_
 refine sr fun Z z=>?_
 simp[encD,Tryz.f19]
 apply z
 refine AT_seq_k fun K1 hK1=>?_
 cases h1:(a.kind != b.kind)
 cases h2:(a.name==b.name)
 refine sr fun Z z=>?_
 simp[h1,h2]
 apply z
 refine cT (by simp) ?_
 refine sr fun Z z=>?_
 simp
 apply z
 refine AT_ret ?_
 simp[Tryz.f19]
 have h1b:(a.kind==b.kind)=!(a.kind != b.kind):=by rw[bne,Bool.not_not]
 rw[h1] at h1b
 simp only[Bool.not_false] at h1b
 (· simp only[sameD,h2,Bool.false_and,Bool.and_false])
 cases h3:(a.recv==b.recv)
 refine sr fun Z z=>?_
 simp[h1,h2,h3]
 apply z
 refine cT (by simp) ?_
 refine sr fun Z z=>?_
 simp
 apply z
 refine AT_ret ?_
 simp[Tryz.f19]
 have h1b:(a.kind==b.kind)=!(a.kind != b.kind):=by rw[bne,Bool.not_not]
 rw[h1] at h1b
 simp only[Bool.not_false] at h1b
 (· simp only[sameD,h3,Bool.false_and,Bool.and_false])
 cases h4:(eqL sameF a.fms b.fms)
 refine sr fun Z z=>?_
 simp[h1,h2,h3]
 refine RVn_call (c_ref06x_formals g rnd a.fms b.fms (by omega) (by have:=wtFs_len a.fms;omega)) ?_
 simp[h4]
 repeat refine sg ?_
 apply z
 refine cT (by simp) ?_
 refine sr fun Z z=>?_
 simp
 apply z
 refine AT_ret ?_
 simp[Tryz.f19]
 have h1b:(a.kind==b.kind)=!(a.kind != b.kind):=by rw[bne,Bool.not_not]
 rw[h1] at h1b
 simp only[Bool.not_false] at h1b
 (· simp only[sameD,h4,Bool.false_and,Bool.and_false])
 cases h5:(eqL sameF a.flds b.flds)
 refine sr fun Z z=>?_
 simp[h1,h2,h3]
 refine RVn_call (c_ref06x_formals g rnd a.fms b.fms (by omega) (by have:=wtFs_len a.fms;omega)) ?_
 simp[h4]
 repeat refine sg ?_
 refine RVn_call (c_ref06x_params g rnd a.flds b.flds (by omega) (by have:=wtFs_len a.flds;omega)) ?_
 simp[h5]
 repeat refine sg ?_
 apply z
 refine cT (by simp) ?_
 refine sr fun Z z=>?_
 simp
 apply z
 refine AT_ret ?_
 simp[Tryz.f19]
 have h1b:(a.kind==b.kind)=!(a.kind != b.kind):=by rw[bne,Bool.not_not]
 rw[h1] at h1b
 simp only[Bool.not_false] at h1b
 (· simp only[sameD,h5,Bool.false_and,Bool.and_false])
 cases h6:((a.sigs.length:Int) != b.sigs.length)
 cases h7:((a.vars.length:Int) != b.vars.length)
 refine sr fun Z z=>?_
 simp[h1,h2,h3]
 refine RVn_call (c_ref06x_formals g rnd a.fms b.fms (by omega) (by have:=wtFs_len a.fms;omega)) ?_
 simp[h4]
 repeat refine sg ?_
 refine RVn_call (c_ref06x_params g rnd a.flds b.flds (by omega) (by have:=wtFs_len a.flds;omega)) ?_
 simp[h5,h6,h7]
 repeat refine sg ?_
 apply z
 refine cF (by simp) ?_
 refine AT_skip ?_
 refine hK1 _ ?_
 refine AT_seq_k fun K2 hK2=>?_
 refine sr fun Z z=>?_
 have h6c:(a.sigs.length:Int)=b.sigs.length:=by simpa using h6
 have h7c:(a.vars.length:Int)=b.vars.length:=by simpa using h7
 have h6b:a.sigs.length=b.sigs.length:=by omega
 have h7b:a.vars.length=b.vars.length:=by omega
 simp
 apply z
 refine AT_block ?_
 refine AT_loop_q [2,3,4,7] [3,4] (fun j s=>∃ k,k≤a.sigs.length∧eqL sameG a.sigs b.sigs=eqL sameG (a.sigs.drop k) (b.sigs.drop k)∧j=a.sigs.length - k∧s={ n:=133,tm:=[(2,.v (.bool false) none),(3,.lp 3 0),(4,.lp 4 0),(7,.v (.int .i64 k) none)],bx:=[(3,encD a),(4,encD b)],tb:=[],sh:=[],hint:=[] }) (a.sigs.length) (by first|rfl|simp) ?_ ?_
 exact ⟨0,by simp[encD]⟩
 rintro j s ⟨k,hk,hc,rfl,rfl⟩ K3 hK3
 refine AT_seq_k fun K4 hK4=>?_
 refine sr fun Z z=>?_
 simp[encD]
 apply z
 refine AT_cond (g:=none) rfl (fun hb68=>?_) (fun hb68=>?_)
 simp at hb68
 refine AT_skip ?_
 refine hK4 _ ?_
 refine AT_seq_k fun K5 hK5=>?_
 refine AT_block ?_
 refine AT_seq_draw Pt.mixed (by kernel_rfl) fun Z z=>?_
 have hkb:k < b.sigs.length:=by omega
 have hka:k < a.sigs.length:=by omega
 have hda:=List.drop_eq_getElem_cons hka
 have hdb:=List.drop_eq_getElem_cons hkb
 have hm9:=wtGs_mem (l:=a.sigs) (f:=a.sigs[k]) (by simp)
 simp[row_map,hkb,encG,hb68]
 refine RVdn_call ((by have h:=c_ref06x_Sig g rnd a.sigs[k] b.sigs[k] (by omega);simp only[encG] at h;exact h)) ?_
 simp
 apply z
 refine AT_cond (g:=none) rfl (fun hb83=>?_) (fun hb83=>?_)
 simp at hb83
 refine sr fun Z z=>?_
 simp
 apply z
 refine AT_ret ?_
 simp[Tryz.f19]
 have h1b:(a.kind==b.kind)=!(a.kind != b.kind):=by rw[bne,Bool.not_not]
 rw[h1] at h1b
 simp only[Bool.not_false] at h1b
 (· simp only[sameD,hc,hda,hdb,eqL_cons,hb83,Bool.false_and,Bool.and_false])
 simp at hb83
 refine AT_skip ?_
 refine hK5 _ ?_
 refine AT_region_q fun Z z=>?_
 simp
 repeat refine sg ?_
 apply z
 refine hK3 _ (by first|rfl|simp) (a.sigs.length - (k+1)) (by omega) ?_
 refine ⟨k+1,by omega,?_,by omega,by simp[encD]⟩
 rw[hc,hda,hdb,eqL_cons,hb83];rfl
 simp at hb68
 refine AT_exit ?_
 refine hK2 _ ?_
 refine AT_seq_k fun K6 hK6=>?_
 refine sr fun Z z=>?_
 have hS:eqL sameG a.sigs b.sigs=true:=by rw[hc,List.drop_eq_nil_of_le (by omega),List.drop_eq_nil_of_le (show b.sigs.length≤k by omega)];rfl
 simp
 apply z
 refine AT_block ?_
 refine AT_loop_q [2,3,4,8] [3,4] (fun j s=>∃ k,k≤a.vars.length∧eqL (·==·) a.vars b.vars=eqL (·==·) (a.vars.drop k) (b.vars.drop k)∧j=a.vars.length - k∧s={ n:=133,tm:=[(2,.v (.bool false) none),(3,.lp 3 0),(4,.lp 4 0),(8,.v (.int .i64 k) none)],bx:=[(3,encD a),(4,encD b)],tb:=[],sh:=[],hint:=[] }) (a.vars.length) (by first|rfl|simp) ?_ ?_
 exact ⟨0,by simp[encD]⟩
 rintro j s ⟨k,hk,hv,rfl,rfl⟩ K7 hK7
 refine AT_seq_k fun K8 hK8=>?_
 refine sr fun Z z=>?_
 simp[encD]
 apply z
 refine AT_cond (g:=none) rfl (fun hb88=>?_) (fun hb88=>?_)
 simp at hb88
 refine AT_skip ?_
 refine hK8 _ ?_
 refine AT_seq_k fun K9 hK9=>?_
 refine AT_block ?_
 cases hq:(a.vars[k]==b.vars[k])
 refine AT_seq_draw Pt.mixed (by kernel_rfl) fun Z z=>?_
 have hkb:k < b.vars.length:=by omega
 have hka:k < a.vars.length:=by omega
 have hda:=List.drop_eq_getElem_cons hka
 have hdb:=List.drop_eq_getElem_cons hkb
 simp[row_map,hkb,encS,hb88,hq]
 apply z
 refine cT (by simp) ?_
 refine sr fun Z z=>?_
 simp
 apply z
 refine AT_ret ?_
 simp[Tryz.f19]
 have h1b:(a.kind==b.kind)=!(a.kind != b.kind):=by rw[bne,Bool.not_not]
 rw[h1] at h1b
 simp only[Bool.not_false] at h1b
 (· simp only[sameD,hv,hda,hdb,eqL_cons,hq,Bool.false_and,Bool.and_false])
 refine AT_seq_draw Pt.mixed (by kernel_rfl) fun Z z=>?_
 have hkb:k < b.vars.length:=by omega
 have hka:k < a.vars.length:=by omega
 have hda:=List.drop_eq_getElem_cons hka
 have hdb:=List.drop_eq_getElem_cons hkb
 simp[row_map,hkb,encS,hb88,hq]
 apply z
 refine cF (by simp) ?_
 refine AT_skip ?_
 refine hK9 _ ?_
 refine AT_region_q fun Z z=>?_
 simp
 repeat refine sg ?_
 apply z
 refine hK7 _ (by first|rfl|simp) (a.vars.length - (k+1)) (by omega) ?_
 refine ⟨k+1,by omega,?_,by omega,by simp[encD]⟩
 rw[hv,hda,hdb,eqL_cons,hq];rfl
 simp at hb88
 refine AT_exit ?_
 refine hK6 _ ?_
 refine AT_seq_k fun K10 hK10=>?_
 cases h8:(sameG a.sig b.sig)
 refine sr fun Z z=>?_
 have hV:eqL (·==·) a.vars b.vars=true:=by rw[hv,List.drop_eq_nil_of_le (by omega),List.drop_eq_nil_of_le (show b.vars.length≤k by omega)];rfl
 simp
 refine RVn_call ((by have h:=c_ref06x_Sig g rnd a.sig b.sig (by omega);simp only[encG] at h;exact h)) ?_
 simp[h8]
 repeat refine sg ?_
 apply z
 refine cT (by simp) ?_
 refine sr fun Z z=>?_
 simp
 apply z
 refine AT_ret ?_
 simp[Tryz.f19]
 have h1b:(a.kind==b.kind)=!(a.kind != b.kind):=by rw[bne,Bool.not_not]
 rw[h1] at h1b
 simp only[Bool.not_false] at h1b
 (simp only[sameD,h1b,h2,h3,h4,h5,hS,hV,h8];rfl)
 cases h9:(sameE a.body b.body)
 refine sr fun Z z=>?_
 have hV:eqL (·==·) a.vars b.vars=true:=by rw[hv,List.drop_eq_nil_of_le (by omega),List.drop_eq_nil_of_le (show b.vars.length≤k by omega)];rfl
 simp
 refine RVn_call ((by have h:=c_ref06x_Sig g rnd a.sig b.sig (by omega);simp only[encG] at h;exact h)) ?_
 simp[h8]
 repeat refine sg ?_
 refine RVn_call ((by have h:=c_ref05x_Same g rnd a.body b.body (by omega);simp only[encE_def] at h;exact h)) ?_
 simp[h9]
 repeat refine sg ?_
 apply z
 refine cT (by simp) ?_
 refine sr fun Z z=>?_
 simp
 apply z
 refine AT_ret ?_
 simp[Tryz.f19]
 have h1b:(a.kind==b.kind)=!(a.kind != b.kind):=by rw[bne,Bool.not_not]
 rw[h1] at h1b
 simp only[Bool.not_false] at h1b
 (simp only[sameD,h1b,h2,h3,h4,h5,hS,hV,h8,h9];rfl)
 refine sr fun Z z=>?_
 have hV:eqL (·==·) a.vars b.vars=true:=by rw[hv,List.drop_eq_nil_of_le (by omega),List.drop_eq_nil_of_le (show b.vars.length≤k by omega)];rfl
 simp
 refine RVn_call ((by have h:=c_ref06x_Sig g rnd a.sig b.sig (by omega);simp only[encG] at h;exact h)) ?_
 simp[h8]
 repeat refine sg ?_
 refine RVn_call ((by have h:=c_ref05x_Same g rnd a.body b.body (by omega);simp only[encE_def] at h;exact h)) ?_
 simp[h9]
 repeat refine sg ?_
 apply z
 refine cF (by simp) ?_
 refine AT_skip ?_
 refine hK10 _ ?_
 refine sr fun Z z=>?_
 simp
 apply z
 refine AT_ret ?_
 simp[Tryz.f19]
 have h1b:(a.kind==b.kind)=!(a.kind != b.kind):=by rw[bne,Bool.not_not]
 rw[h1] at h1b
 simp only[Bool.not_false] at h1b
 (simp only[sameD,h1b,h2,h3,h4,h5,hS,hV,h8,h9];rfl)
 refine sr fun Z z=>?_
 simp[h1,h2,h3]
 refine RVn_call (c_ref06x_formals g rnd a.fms b.fms (by omega) (by have:=wtFs_len a.fms;omega)) ?_
 simp[h4]
 repeat refine sg ?_
 refine RVn_call (c_ref06x_params g rnd a.flds b.flds (by omega) (by have:=wtFs_len a.flds;omega)) ?_
 simp[h5,h6,h7]
 repeat refine sg ?_
 apply z
 refine cT (by simp) ?_
 refine sr fun Z z=>?_
 simp
 apply z
 refine AT_ret ?_
 simp[Tryz.f19]
 have h1b:(a.kind==b.kind)=!(a.kind != b.kind):=by rw[bne,Bool.not_not]
 rw[h1] at h1b
 simp only[Bool.not_false] at h1b
 (· rw[sameD,eqL_len (a:=a.vars) (b:=b.vars) (int_ne h7)];simp only[Bool.false_and,Bool.and_false])
 refine sr fun Z z=>?_
 simp[h1,h2,h3]
 refine RVn_call (c_ref06x_formals g rnd a.fms b.fms (by omega) (by have:=wtFs_len a.fms;omega)) ?_
 simp[h4]
 repeat refine sg ?_
 refine RVn_call (c_ref06x_params g rnd a.flds b.flds (by omega) (by have:=wtFs_len a.flds;omega)) ?_
 simp[h5,h6]
 repeat refine sg ?_
 apply z
 refine cT (by simp) ?_
 refine sr fun Z z=>?_
 simp
 apply z
 refine AT_ret ?_
 simp[Tryz.f19]
 have h1b:(a.kind==b.kind)=!(a.kind != b.kind):=by rw[bne,Bool.not_not]
 rw[h1] at h1b
 simp only[Bool.not_false] at h1b
 (· rw[sameD,eqL_len (a:=a.sigs) (b:=b.sigs) (int_ne h6)];simp only[Bool.false_and,Bool.and_false])
 refine sr fun Z z=>?_
 simp[h1]
 apply z
 refine cT (by simp) ?_
 refine sr fun Z z=>?_
 simp
 apply z
 refine AT_ret ?_
 simp[Tryz.f19]
 have h1b:(a.kind==b.kind)=!(a.kind != b.kind):=by rw[bne,Bool.not_not]
 rw[h1] at h1b
 simp only[Bool.not_true] at h1b
 (· simp only[sameD,h1b,Bool.false_and])

end Go.Proofs.YtfgafcjebfjepaaGreatDoor
end

section
/- Contracts: the reference compares programs. -/
set_option linter.all false
set_option maxHeartbeats 1000000
set_option maxRecDepth 10000
namespace Go.Proofs.YtfgafcjebfjepaaGreatDoor
open Go Go.Pv
variable (g:Nat→Option (List AV)) (rnd:Bool)

theorem c_ref06x_Program (a b:Pg) (hw:wtPg a≤400000000):Valid Tryz.prog (G0 g rnd) 11 [.agg (encPg a),.agg (encPg b),.bool false] (.bool (sameP a b)):=by
 have hw2:wtDs a.decls+wtE a.main≤400000000:=hw
 have hlD:=wtDs_len a.decls
 refine valid_of [] Tryz.func11 rfl (by kernel_rfl) ?_
 refine sr fun Z z=>?_
 simp[encPg,Tryz.f11]
 apply z
 refine AT_seq_k fun K1 hK1=>?_
 cases h1:((a.decls.length:Int) != b.decls.length)
 cases h2:(sameE a.main b.main)
 refine sr fun Z z=>?_
 simp[h1]
 refine RVn_call ((by have h:=c_ref05x_Same g rnd a.main b.main (by omega);simp only[encE_def] at h;exact h)) ?_
 simp[h2]
 repeat refine sg ?_
 apply z
 refine cT (by simp) ?_
 refine sr fun Z z=>?_
 simp
 apply z
 refine AT_ret ?_
 simp[Tryz.f11]
 (· rw[sameP,h2,Bool.and_false])
 refine sr fun Z z=>?_
 simp[h1]
 refine RVn_call ((by have h:=c_ref05x_Same g rnd a.main b.main (by omega);simp only[encE_def] at h;exact h)) ?_
 simp[h2]
 repeat refine sg ?_
 apply z
 refine cF (by simp) ?_
 refine AT_skip ?_
 refine hK1 _ ?_
 refine AT_seq_k fun K2 hK2=>?_
 refine sr fun Z z=>?_
 have h1c:(a.decls.length:Int)=b.decls.length:=by simpa using h1
 have h1b:a.decls.length=b.decls.length:=by omega
 simp
 apply z
 refine AT_block ?_
 refine AT_loop_q [2,3,4,7] [3,4] (fun j s=>∃ k,k≤a.decls.length∧eqL sameD a.decls b.decls=eqL sameD (a.decls.drop k) (b.decls.drop k)∧j=a.decls.length - k∧s={ n:=54,tm:=[(2,.v (.bool false) none),(3,.lp 3 0),(4,.lp 4 0),(7,.v (.int .i64 k) none)],bx:=[(3,encPg a),(4,encPg b)],tb:=[],sh:=[],hint:=[] }) (a.decls.length) (by first|rfl|simp) ?_ ?_
 exact ⟨0,by simp[encPg]⟩
 rintro j s ⟨k,hk,hc,rfl,rfl⟩ K3 hK3
 refine AT_seq_k fun K4 hK4=>?_
 refine sr fun Z z=>?_
 simp[encPg]
 apply z
 refine AT_cond (g:=none) rfl (fun hb38=>?_) (fun hb38=>?_)
 simp at hb38
 refine AT_skip ?_
 refine hK4 _ ?_
 refine AT_seq_k fun K5 hK5=>?_
 refine AT_block ?_
 refine AT_seq_draw Pt.mixed (by kernel_rfl) fun Z z=>?_
 have hkb:k < b.decls.length:=by omega
 have hka:k < a.decls.length:=by omega
 have hda:=List.drop_eq_getElem_cons hka
 have hdb:=List.drop_eq_getElem_cons hkb
 have hm9:=wtDs_mem (l:=a.decls) (f:=a.decls[k]) (by simp)
 simp[row_map,hkb,hb38]
 refine RVdn_call (c_ref06x_Decl g rnd a.decls[k] b.decls[k] (by omega)) ?_
 simp
 apply z
 refine AT_cond (g:=none) rfl (fun hb53=>?_) (fun hb53=>?_)
 simp at hb53
 refine sr fun Z z=>?_
 simp
 apply z
 refine AT_ret ?_
 simp[Tryz.f11]
 (rw[sameP,hc,hda,hdb,eqL_cons,hb53];rfl)
 simp at hb53
 refine AT_skip ?_
 refine hK5 _ ?_
 refine AT_region_q fun Z z=>?_
 simp
 repeat refine sg ?_
 apply z
 refine hK3 _ (by first|rfl|simp) (a.decls.length - (k+1)) (by omega) ?_
 refine ⟨k+1,by omega,?_,by omega,by simp[encPg]⟩
 rw[hc,hda,hdb,eqL_cons,hb53];rfl
 simp at hb38
 refine AT_exit ?_
 refine hK2 _ ?_
 refine sr fun Z z=>?_
 simp
 apply z
 refine AT_ret ?_
 simp[Tryz.f11]
 (have hS:eqL sameD a.decls b.decls=true:=by rw[hc,List.drop_eq_nil_of_le (by omega),List.drop_eq_nil_of_le (show b.decls.length≤k by omega)];rfl
  rw[sameP,hS,h2];rfl)
 refine sr fun Z z=>?_
 simp[h1]
 apply z
 refine cT (by simp) ?_
 refine sr fun Z z=>?_
 simp
 apply z
 refine AT_ret ?_
 simp[Tryz.f11]
 (rw[sameP,eqL_len (a:=a.decls) (b:=b.decls) (int_ne h1)];rfl)

theorem c_ref06x_Same (a b:Pg) (hw:wtPg a≤400000000):Valid Tryz.prog (G0 g rnd) 15 [.agg (encPg a),.agg (encPg b)] (.bool (sameP a b)):=by

 refine valid_of [] Tryz.func15 rfl (by kernel_rfl) ?_
 refine sr fun Z z=>?_
 simp[encPg,Tryz.f15]
 apply z
 refine sr fun Z z=>?_
 simp
 refine RVn_call ((by have h:=c_ref06x_Program g rnd a b hw;simp only[encPg] at h;exact h)) ?_
 simp
 apply z
 refine AT_ret ?_
 simp[Tryz.f15]
 skip

end Go.Proofs.YtfgafcjebfjepaaGreatDoor
end

section
/- Contracts: the reference compares a program with itself, offsets too. -/
set_option linter.all false
set_option maxHeartbeats 1000000
set_option maxRecDepth 10000
namespace Go.Proofs.YtfgafcjebfjepaaGreatDoor
open Go Go.Pv
variable (g:Nat→Option (List AV)) (rnd:Bool)

end Go.Proofs.YtfgafcjebfjepaaGreatDoor
end

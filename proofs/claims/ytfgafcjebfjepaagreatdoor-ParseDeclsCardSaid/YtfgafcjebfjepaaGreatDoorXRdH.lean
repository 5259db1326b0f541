import Derived.Test.YtfgafcjebfjepaaGreatDoorPt
import Derived.Test.YtfgafcjebfjepaaGreatDoorPvPb
import Derived.Test.YtfgafcjebfjepaaGreatDoorPvLa
import Derived.Test.YtfgafcjebfjepaaGreatDoorXTyD
import Derived.Test.YtfgafcjebfjepaaGreatDoorXNaB
import Derived.Test.YtfgafcjebfjepaaGreatDoorXRdB
import Derived.Test.YtfgafcjebfjepaaGreatDoorXRdE
import Derived.Test.YtfgafcjebfjepaaGreatDoorXLxE
import Derived.Test.YtfgafcjebfjepaaGreatDoorXShelf
import Derived.Test.YtfgafcjebfjepaaGreatDoorPvRf
section
/- Contracts. -/
set_option linter.all false
set_option maxHeartbeats 1000000
set_option maxRecDepth 10000
namespace Go.Proofs.YtfgafcjebfjepaaGreatDoor
open Go Go.Pv
variable (g:Nat→Option (List AV)) (rnd:Bool)

theorem c_slices_IndexFunc_api_Type_api_Type (Y:Ys) (hP:Y.P=Tryz.prog) (L:Ty→List AV) (caps:List AV) (l:List Ty) (s:List AV) (hl:l.length≤1099511627776) (he:elOk Y s (l.flatMap L)) (hcl:∀ a∈l,∀ s,elOk Y s (L a)→ValidY Tryz.prog (G1 g Y) Y 176 ([.agg (encTy a)]++caps) (s,true) (.bool (!(feed Y s (L a)).2)) (feed Y s (L a))):ValidY Tryz.prog (G1 g Y) Y 173 [.slice (l.map encTy),.func 176 caps] (s,true) (.int .i64 (visI Y L s l 0)) (feed Y s (l.flatMap L)):=by

 refine validY_of [] Tryz.func173 rfl (by kernel_rfl) rfl hP ?_
 refine sr fun Z z=>?_
 simp[Tryz.f173]
 apply z
 refine AT_seq_k fun K1 hK1=>?_
 refine sr fun Z z=>?_
 simp
 apply z
 refine AT_block ?_
 refine AT_loop_q [0,1,7,8] [] (fun j st=>∃ k s1,k≤l.length∧feed Y s (l.flatMap L)=feed Y s1 ((l.drop k).flatMap L)∧visI Y L s l 0=visI Y L s1 (l.drop k) k∧elOk Y s1 ((l.drop k).flatMap L)∧j=l.length - k∧st={ n:=19,tm:=[(0,.v (.slice (l.map encTy)) none),(1,.v (.func 176 caps) none),(7,.v (.int .i64 l.length) none),(8,.v (.int .i64 k) none)],bx:=[],tb:=[],sh:=[],hint:=[],ys:=(s1,true) }) (l.length) (by first|rfl|simp) ?_ ?_
 exact ⟨0,s,by simp[he]⟩
 rintro j st ⟨k,s1,hk,hf,hv,hel,rfl,rfl⟩ K2 hK2
 refine sr fun Z z=>?_
 simp
 apply z
 refine AT_seq_k fun K3 hK3=>?_
 refine AT_cond (g:=none) rfl (fun hb9=>?_) (fun hb9=>?_)
 simp at hb9
 refine AT_skip ?_
 refine hK3 _ ?_
 refine AT_seq_k fun K4 hK4=>?_
 refine AT_block ?_
 refine sr fun Z z=>?_
 simp[hb9]
 apply z
 refine sr fun Z z=>?_
 have hk9:k < l.length:=by omega
 have hda:=List.drop_eq_getElem_cons hk9
 simp[row_map,hb9]
 refine RVn_callY rfl (by simp) (hcl l[k] (by simp) s1 (by rw[hda,List.flatMap_cons,elOk_app] at hel;exact hel.1)) ?_
 simp
 apply z
 refine AT_cond (g:=none) rfl (fun hb16=>?_) (fun hb16=>?_)
 simp at hb16
 refine sr fun Z z=>?_
 simp
 apply z
 refine AT_ret ?_
 simp[Tryz.f173]
 (refine ⟨?_,?_⟩
  · rw[hv,hda,visI,if_neg (by simp[hb16])]
  · rw[hf,hda,List.flatMap_cons,feed_app,if_neg (by simp[hb16])])
 simp at hb16
 refine AT_skip ?_
 refine hK4 _ ?_
 refine AT_region_q fun Z z=>?_
 simp
 repeat refine sg ?_
 apply z
 refine hK2 _ (by first|rfl|simp) (l.length - (k+1)) (by omega) ?_
 refine ⟨k+1,(feed Y s1 (L l[k])).1,by omega,?_,?_,?_,by omega,?_⟩
 · rw[hf,hda,List.flatMap_cons,feed_app,if_pos hb16]
 · rw[hv,hda,visI,if_pos hb16]
 · rw[hda,List.flatMap_cons,elOk_app] at hel;exact hel.2 hb16
 · simp;exact Prod.ext rfl hb16
 simp at hb9
 refine AT_exit ?_
 refine hK1 _ ?_
 refine sr fun Z z=>?_
 simp
 apply z
 refine AT_ret ?_
 simp[Tryz.f173]
 (have hnil:=List.drop_eq_nil_of_le (show l.length≤k by omega)
  rw[hf,hv,hnil];simp[visI,feed])

theorem c_slices_ContainsFunc_api_Type_api_Type (Y:Ys) (hP:Y.P=Tryz.prog) (L:Ty→List AV) (caps:List AV) (l:List Ty) (s:List AV) (hl:l.length≤1099511627776) (he:elOk Y s (l.flatMap L)) (hcl:∀ a∈l,∀ s,elOk Y s (L a)→ValidY Tryz.prog (G1 g Y) Y 176 ([.agg (encTy a)]++caps) (s,true) (.bool (!(feed Y s (L a)).2)) (feed Y s (L a))):ValidY Tryz.prog (G1 g Y) Y 146 [.slice (l.map encTy),.func 176 caps] (s,true) (.bool (!(feed Y s (l.flatMap L)).2)) (feed Y s (l.flatMap L)):=by

 refine validY_of [] Tryz.func146 rfl (by kernel_rfl) rfl hP ?_
 refine sr fun Z z=>?_
 simp[Tryz.f146]
 apply z
 refine sr fun Z z=>?_
 simp
 refine RVn_callY rfl (by simp) (c_slices_IndexFunc_api_Type_api_Type g Y hP L caps l s hl he hcl) ?_
 simp
 apply z
 refine AT_ret ?_
 simp[Tryz.f146]
 exact visI_feed Y L s l 0

end Go.Proofs.YtfgafcjebfjepaaGreatDoor
end

section
/- Contracts. -/
set_option linter.all false
set_option maxHeartbeats 1000000
set_option maxRecDepth 10000
namespace Go.Proofs.YtfgafcjebfjepaaGreatDoor
open Go Go.Pv
variable (g:Nat→Option (List AV)) (rnd:Bool)

theorem c_types_visit_1 (Y:Ys) (hP:Y.P=Tryz.prog) (t:Ty) (s:List AV) (r:Bool) (ys:List AV×Bool) (hv:ValidY Tryz.prog (G1 g Y) Y 168 [.agg (encTy t),.yld Y.l] (s,true) (.bool r) ys):ValidY Tryz.prog (G1 g Y) Y 176 [.agg (encTy t),.ro [.yld Y.l]] (s,true) (.bool (!r)) ys:=by

 refine validY_of [(200002,0)] Tryz.func176 rfl (by kernel_rfl) rfl hP ?_
 refine sr fun Z z=>?_
 simp[Tryz.f176]
 apply z
 refine sr fun Z z=>?_
 simp
 refine RVn_callY rfl (by simp) (hv) ?_
 simp
 apply z
 refine AT_ret ?_
 simp[Tryz.f176]

theorem c_types_visit (Y:Ys) (hP:Y.P=Tryz.prog):∀ t:Ty,wt t≤1099511627776→∀ s:List AV,elOk Y s ((lst t).map AV.str)→ValidY Tryz.prog (G1 g Y) Y 168 [.agg (encTy t),.yld Y.l] (s,true) (.bool (feed Y s ((lst t).map AV.str)).2) (feed Y s ((lst t).map AV.str)):=by
 intro t
 induction t using Ty.ind with
 | h n ts p ih=>
 intro hw
 have hw2:n.length+1+wts ts≤1099511627776:=by simpa[wt] using hw
 have hln:=wts_len ts
 intro s he
 have hfl:(lsts ts).map AV.str=ts.flatMap (fun t=>(lst t).map AV.str):=by rw[lsts_flat,List.map_flatten,List.map_map,List.flatMap_def];rfl
 have hlst:(lst (.mk n ts p)).map AV.str=.str n :: ts.flatMap (fun t=>(lst t).map AV.str):=by simp[lst,hfl]
 rw[hlst] at he ⊢
 have he1:Y.el s (.str n):=he.1
 refine validY_of [(200002,0),(200003,0)] Tryz.func168 rfl (by kernel_rfl) rfl hP ?_
 refine sr fun Z z=>?_
 simp[encTy_mk,Tryz.f168]
 apply z
 refine AT_seq_k fun K1 hK1=>?_
 cases hgo:Y.go s (.str n)
 refine sr fun Z z=>?_
 simp
 refine RVn_yld rfl rfl (by simp) rfl (he1) ?_
 simp[hgo]
 apply z
 refine cT (by simp) ?_
 refine sr fun Z z=>?_
 simp
 apply z
 refine AT_ret ?_
 simp[Tryz.f168]
 simp[feed,hgo]
 refine sr fun Z z=>?_
 simp
 refine RVn_yld rfl rfl (by simp) rfl (he1) ?_
 simp[hgo]
 apply z
 refine cF (by simp) ?_
 refine AT_skip ?_
 refine hK1 _ ?_
 refine sr fun Z z=>?_
 simp
 apply z
 refine sr fun Z z=>?_
 simp
 refine RVn_callY rfl (by simp) (c_slices_ContainsFunc_api_Type_api_Type g Y hP (fun t=>(lst t).map AV.str) [.ro [.yld Y.l]] ts (s++[.str n]) (by omega) (he.2 hgo) (fun a ha s2 hs2=>c_types_visit_1 g Y hP a s2 _ _ (ih a ha (Nat.le_trans (wts_mem ha) (by omega)) s2 hs2))) ?_
 simp
 apply z
 refine AT_ret ?_
 simp[Tryz.f168]
 simp[feed,hgo]

theorem c_types_Names_1 (Y:Ys) (hP:Y.P=Tryz.prog) (t:Ty) (hw:wt t≤1099511627776) (s:List AV) (he:elOk Y s ((lst t).map AV.str)):ValidY Tryz.prog (G1 g Y) Y 167 [.yld Y.l,.ro (encTy t)] (s,true) (.tup []) (feed Y s ((lst t).map AV.str)):=by

 refine validY_of [] Tryz.func167 rfl (by kernel_rfl) rfl hP ?_
 refine AT_region_q fun Z z=>?_
 simp[Tryz.f167]
 refine RVn_callY rfl (by simp) (c_types_visit g Y hP t hw s he) ?_
 simp
 apply z
 simp[Tryz.f167]

theorem c_types_Names (t:Ty):Valid Tryz.prog (G0 g rnd) 141 [.agg (encTy t)] (.func 167 [.ro (encTy t)]):=by

 refine valid_of [(200001,0)] Tryz.func141 rfl (by kernel_rfl) ?_
 refine sr fun Z z=>?_
 simp[Tryz.f141]
 apply z
 refine sr fun Z z=>?_
 simp
 apply z
 refine AT_ret ?_
 simp[Tryz.f141]

theorem rightT_len {t:Ty} (hw:wt t≤1099511627776):∀ s∈lst t,s.length≤1099511627776:=fun s hs=>Nat.le_trans (Nat.le_of_lt (lst_mem_wt t s hs)) hw

theorem c_ref04x_Right (t:Ty) (hw:wt t≤1099511627776):Valid Tryz.prog (G0 g rnd) 96 [.agg (encTy t)] (.bool (rightT t)):=by

 refine valid_of [] Tryz.func96 rfl (by kernel_rfl) ?_
 refine sr fun Z z=>?_
 simp[Tryz.f96]
 apply z
 refine sr fun Z z=>?_
 have hll:=lst_wt t
 simp
 refine RVn_call (c_ref04x_List g rnd t hw) ?_
 simp
 apply z
 refine AT_seq_k fun K1 hK1=>?_
 refine sr fun Z z=>?_
 simp
 apply z
 refine AT_block ?_
 refine AT_loop_q [3,4] [] (fun j s=>∃ k,k≤(lst t).length∧rightT t=((lst t).drop k).all isName∧j=(lst t).length - k∧s={ n:=19,tm:=[(3,.v (.slice ((lst t).map encS)) none),(4,.v (.int .i64 k) none)],bx:=[],tb:=[],sh:=[],hint:=[] }) ((lst t).length) (by first|rfl|simp) ?_ ?_
 exact ⟨0,by simp[rightT]⟩
 rintro j s ⟨k,hk,hc,rfl,rfl⟩ K2 hK2
 refine AT_seq_k fun K3 hK3=>?_
 refine sr fun Z z=>?_
 have hll:=lst_wt t
 simp
 apply z
 refine AT_cond (g:=none) rfl (fun hb10=>?_) (fun hb10=>?_)
 simp at hb10
 refine AT_skip ?_
 refine hK3 _ ?_
 refine AT_seq_k fun K4 hK4=>?_
 refine AT_block ?_
 refine sr fun Z z=>?_
 have hda:=List.drop_eq_getElem_cons hb10
 simp[row_map,hb10]
 refine RVn_call (c_ref01x_Is g rnd _ (rightT_len hw _ (by simp))) ?_
 simp
 apply z
 refine AT_cond (g:=none) rfl (fun hb18=>?_) (fun hb18=>?_)
 simp at hb18
 refine sr fun Z z=>?_
 simp
 apply z
 refine AT_ret ?_
 simp[Tryz.f96]
 (rw[hc,hda,List.all_cons,hb18];rfl)
 simp at hb18
 refine AT_skip ?_
 refine hK4 _ ?_
 refine AT_region_q fun Z z=>?_
 simp
 repeat refine sg ?_
 apply z
 refine hK2 _ (by first|rfl|simp) ((lst t).length - (k+1)) (by omega) ?_
 refine ⟨k+1,by omega,?_,by omega,by simp⟩
 rw[hc,hda,List.all_cons,hb18,Bool.true_and]
 simp at hb10
 refine AT_exit ?_
 refine hK1 _ ?_
 refine sr fun Z z=>?_
 simp
 apply z
 refine AT_ret ?_
 simp[Tryz.f96]
 (rw[hc,List.drop_eq_nil_of_le hb10];rfl)

end Go.Proofs.YtfgafcjebfjepaaGreatDoor
end

section
/- Contracts. -/
set_option linter.all false
set_option maxHeartbeats 1000000
set_option maxRecDepth 10000
namespace Go.Proofs.YtfgafcjebfjepaaGreatDoor
open Go Go.Pv
variable (g:Nat→Option (List AV)) (rnd:Bool)

theorem c_types_Right_z (t:Ty) (hw:wt t≤1099511627776) (hres:g 1=some reservedA):Valid Tryz.prog (G0 g false) 103 [.agg (encTy t)] (.bool (rightT t)):=by

 refine valid_of [] Tryz.func103 rfl (by kernel_rfl) ?_
 refine sr fun Z z=>?_
 simp[Tryz.f103]
 apply z
 refine AT_seq_k fun K1 hK1=>?_
 refine sr fun Z z=>?_
 simp
 refine RVn_call (c_types_Names g false t) ?_
 simp
 apply z
 refine AT_block ?_
 refine AT_keep [2,5] [2] (by first|rfl|simp) ?_
 refine AT_rangeFunc rfl rfl (by first|rfl|simp) (by first|decide|simp) [2] (by decide) (elP ((lst t).map AV.str)) (goN) (feedG goN [] ((lst t).map AV.str)) (fun Y hP hgo hel=>⟨_,by have h:=c_types_Names_1 g Y hP t hw [] (elOk_P hel _ _ (by simp));rw[feed_G,hgo] at h;exact h⟩) (fun s=>{ n:=10,tm:=[(2,.lp 2 0),(5,.v (.func 167 [.ro (encTy t)]) none)],bx:=[(2,[.bool false])],tb:=[],sh:=[],hint:=[] }) (by first|rfl|simp) ?_ ?_
 intro s x hel
 obtain ⟨n,rfl,hn⟩:=elP_str hel
 refine AT_region_q fun Z z=>?_
 simp
 apply z
 refine AT_block ?_
 refine sr fun Z z=>?_
 simp
 refine RVn_call (c_name_Is g true n (rightT_len hw n hn) hres) ?_
 simp
 apply z
 refine AT_cond (g:=none) rfl (fun hb9=>?_) (fun hb9=>?_)
 simp at hb9
 refine sr fun Z z=>?_
 simp[hb9]
 apply z
 refine AT_ret ?_
 refine ⟨by simpa[goN] using hb9,by first|rfl|simp[tmOk],[2],by first|rfl|simp,?_⟩
 refine AT_ret ?_
 simp[Tryz.f103]
 (· have hz:rightT t=false:=by rw[rightT,List.all_eq_false];exact ⟨n,hn,by simp[hb9]⟩
    simp[hz,AS.out])
 simp at hb9
 refine AT_skip ?_
 refine ⟨by simpa[goN] using hb9,by first|rfl|simp[tmOk],[2],by first|rfl|simp,?_⟩
 simp[AS.out]
 intro hfin
 rw[feedG_goN] at hfin
 refine hK1 _ ?_
 refine sr fun Z z=>?_
 simp
 apply z
 refine AT_ret ?_
 simp[Tryz.f103]
 (· simp[rightT,hfin])

theorem c_types_Right (t:Ty) (hw:wt t≤1099511627776) (hres:g 1=some reservedA):Valid Tryz.prog (G0 g rnd) 103 [.agg (encTy t)] (.bool (rightT t)):=(c_types_Right_z g t hw hres).gl rfl

end Go.Proofs.YtfgafcjebfjepaaGreatDoor
end

section
/- Contracts: whole texts, errors, what every law of reading asks first. -/
set_option linter.all false
set_option maxHeartbeats 1000000
set_option maxRecDepth 10000
namespace Go.Proofs.YtfgafcjebfjepaaGreatDoor
open Go Go.Pv
variable (g:Nat→Option (List AV)) (rnd:Bool)

theorem c_ref07x_Begin (s:Str) (hs:s.length≤1000000):Valid Tryz.prog (G0 g false) 25 [.str s] (match lexT s with|(none,m)=>.tup [.agg (encP [] ⟨0,false⟩),.int .i64 1,.int .i64 m]|(some l,_)=>.tup [.agg (encP l ⟨0,false⟩),.int .i64 0,.int .i64 0]):=by

 refine valid_of [] Tryz.func25 rfl (by kernel_rfl) ?_
 refine sr fun Z z=>?_
 simp[Tryz.f25]
 apply z
 rcases hx:lexT s with ⟨_|l,m⟩
 refine sr fun Z z=>?_
 simp
 refine RVn_call ((by have h:=c_ref03x_Tokens g false s (by omega);rw[hx] at h;exact h)) ?_
 simp[lexR]
 apply z
 refine AT_seq_k fun K1 hK1=>?_
 refine sr fun Z z=>?_
 simp
 apply z
 refine cT (by simp) ?_
 refine AT_seq_draw_m false [(2,2),(5,5),(12,5)] Pt.mixed (by kernel_rfl) ⟨by simp[Im,okP,AS.get,TV.strip],fun h=>by cases h⟩ fun Z z=>?_
 simp
 apply z
 refine AT_ret ?_
 simp[encP,Tryz.f25]
 refine sr fun Z z=>?_
 simp
 refine RVn_call ((by have h:=c_ref03x_Tokens g false s (by omega);rw[hx] at h;exact h)) ?_
 simp[lexR]
 apply z
 refine AT_seq_k fun K2 hK2=>?_
 refine sr fun Z z=>?_
 simp
 apply z
 refine cF (by simp) ?_
 refine AT_skip ?_
 refine hK2 _ ?_
 refine sr fun Z z=>?_
 simp
 apply z
 refine AT_ret ?_
 simp[encP,Tryz.f25]

def rdX:Exp:=.mk 5 [] (.mk [84] [] 8) [] [.mk 2 [102] ty0 [] [.mk 1 [120] ty0 [] [] 0,.mk 1 [121] ty0 [] [] 4] 2] 7
def rdM:Ty:=.mk [77,97,112] [.mk [97] [] 4,.mk [76,105,115,116] [.mk [98] [] 12] 7] 0
def rdK:List Tk:=[(2,[44],1),(1,[98],3),(3,[],4)]
def rdL:List Tk:=(1,[97],0) :: rdK
def rdN:List Tk:=[(1,[98],3),(3,[],4)]
end Go.Proofs.YtfgafcjebfjepaaGreatDoor
end

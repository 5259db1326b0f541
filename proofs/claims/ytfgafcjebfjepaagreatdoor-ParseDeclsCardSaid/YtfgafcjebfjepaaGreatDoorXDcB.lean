import Derived.Test.YtfgafcjebfjepaaGreatDoorPt
import Derived.Test.YtfgafcjebfjepaaGreatDoorPvPb
import Derived.Test.YtfgafcjebfjepaaGreatDoorPvLa
import Derived.Test.YtfgafcjebfjepaaGreatDoorXQaC
import Derived.Test.YtfgafcjebfjepaaGreatDoorXRdH
import Derived.Test.YtfgafcjebfjepaaGreatDoorPvHe
import Derived.Test.YtfgafcjebfjepaaGreatDoorPvMc
import Derived.Test.YtfgafcjebfjepaaGreatDoorXExA
import Derived.Test.YtfgafcjebfjepaaGreatDoorPvDc
import Derived.Test.YtfgafcjebfjepaaGreatDoorXTyD
section
/- Contracts: castingsref08: whole texts. -/
set_option linter.all false
set_option maxHeartbeats 1000000
set_option maxRecDepth 10000
namespace Go.Proofs.YtfgafcjebfjepaaGreatDoor
open Go Go.Pv
variable (g:Nat→Option (List AV)) (rnd:Bool)

theorem c_ref08x_Decl (s:Str) (hs:s.length≤1000000):Valid Tryz.prog (G0 g false) 12 [.str s] (.tup [.agg (encD (wholeR dc0 rdR s).1),.int .i64 (wholeR dc0 rdR s).2.1,.int .i64 (wholeR dc0 rdR s).2.2]):=by

 refine valid_of [] Tryz.func12 rfl (by kernel_rfl) ?_
 refine sr fun Z z=>?_
 simp[Tryz.f12]
 apply z
 rcases hx:lexT s with ⟨_|l,m⟩
 ·
  refine sr fun Z z=>?_
  simp
  refine RVn_call ((by have h:=c_ref07x_Begin g s hs;rw[hx] at h;simp only[encP] at h;exact h)) ?_
  simp
  apply z
  refine AT_seq_k fun K1 hK1=>?_
  refine sr fun Z z=>?_
  simp
  apply z
  refine cT (by simp) ?_
  refine sr fun Z z=>?_
  simp
  apply z
  refine AT_ret ?_
  simp[encD,dc0,sg0,ex0,ty0,Tryz.f12]
  all_goals first|(· simp[wholeR,hx])|(· have hw:wholeR dc0 rdR s=((methodR l (typeR l (l.length+1)) (exprR l (l.length+1)) (⟨0,false⟩:Pl)).1,0,0):=(by unfold wholeR;rw[hx];simp only[hpr,← hf9,h0,if_true]);simp only[dc0,sg0,ex0,ty0] at hw;simp[hw])|(· have hw:wholeR dc0 rdR s=((typedR l (typeR l (l.length+1)) (⟨0,false⟩:Pl)).1,0,0):=(by unfold wholeR;rw[hx];simp only[hpr,← hf9,h0,if_true]);simp only[dc0,sg0,ex0,ty0] at hw;simp[hw])|(· have hw:wholeR dc0 rdR s=(dc0,f9.1,f9.2):=(by unfold wholeR;rw[hx];simp only[hpr,← hf9,if_neg h0]);simp only[dc0,sg0,ex0,ty0] at hw;simp[hw])|skip
 ·
  obtain ⟨hsl,hll,hlt⟩:=lexT_bounds hx
  have hE:=lexT_ends hx
  have hn:l.length≤1000000:=by omega
  have hk0:(⟨0,false⟩:Pl).k < l.length:=hE.1
  have hgt:=g_typed hE _ hk0
  have hgm:=g_method hE _ hk0
  refine sr fun Z z=>?_
  simp
  refine RVn_call ((by have h:=c_ref07x_Begin g s hs;rw[hx] at h;simp only[encP] at h;exact h)) ?_
  simp
  apply z
  refine AT_seq_k fun K2 hK2=>?_
  refine sr fun Z z=>?_
  simp
  apply z
  refine cF (by simp) ?_
  refine AT_skip ?_
  refine hK2 _ ?_
  refine sr fun Z z=>?_
  simp
  apply z
  refine AT_seq_k fun K3 hK3=>?_
  cases hfn:(⟨0,false⟩:Pl).is l wFunc
  ·
   have hpr:rdR l=(typedR l (typeR l (l.length+1)) (⟨0,false⟩:Pl)):=by unfold rdR declR;rw[if_neg (by rw[hfn];exact Bool.false_ne_true)]
   refine sr fun Z z=>?_
   simp
   refine RVn_call ((by have h:=c_ref07x_Is g l hn (⟨0,false⟩:Pl) hk0 wFunc;simp only[encP] at h;first|exact h|(simp only[hub] at h;exact h)|(simp only[hnb] at h;exact h)|(rw[hb] at h;exact h))) ?_
   simp[hfn]
   apply z
   refine cF (by simp) ?_
   refine AT_region_q fun Z z=>?_
   simp
   refine RVn_call ((by have h:=c_ref08x_typed g l hE hn (fun t ht=>by have:=hlt t ht;omega) (⟨0,false⟩:Pl) hk0;simp only[encP] at h;first|exact h|(simp only[hub] at h;exact h)|(simp only[hnb] at h;exact h)|(rw[hb] at h;exact h))) ?_
   simp[encD]
   apply z
   refine hK3 _ ?_
   refine sr fun Z z=>?_
   obtain ⟨f9,hf9⟩:∃ f9,f9=finR l (typedR l (typeR l (l.length+1)) (⟨0,false⟩:Pl)).2:=⟨_,rfl⟩
   simp
   refine RVn_call ((by have h:=c_ref07x_Finish g l hn (typedR l (typeR l (l.length+1)) (⟨0,false⟩:Pl)).2 hgt.2;rw[←hf9] at h;simp only[encP] at h;first|exact h|(simp only[hub] at h;exact h)|(simp only[hnb] at h;exact h)|(rw[hb] at h;exact h))) ?_
   simp
   apply z
   refine AT_seq_k fun K4 hK4=>?_
   by_cases h0:f9.1=0
   ·
    refine sr fun Z z=>?_
    simp[h0]
    apply z
    refine cF (by simp) ?_
    refine AT_skip ?_
    refine hK4 _ ?_
    refine sr fun Z z=>?_
    simp
    apply z
    refine AT_ret ?_
    simp[encD,dc0,sg0,ex0,ty0,Tryz.f12]
    all_goals first|(· simp[wholeR,hx])|(· have hw:wholeR dc0 rdR s=((methodR l (typeR l (l.length+1)) (exprR l (l.length+1)) (⟨0,false⟩:Pl)).1,0,0):=(by unfold wholeR;rw[hx];simp only[hpr,← hf9,h0,if_true]);simp only[dc0,sg0,ex0,ty0] at hw;simp[hw])|(· have hw:wholeR dc0 rdR s=((typedR l (typeR l (l.length+1)) (⟨0,false⟩:Pl)).1,0,0):=(by unfold wholeR;rw[hx];simp only[hpr,← hf9,h0,if_true]);simp only[dc0,sg0,ex0,ty0] at hw;simp[hw])|(· have hw:wholeR dc0 rdR s=(dc0,f9.1,f9.2):=(by unfold wholeR;rw[hx];simp only[hpr,← hf9,if_neg h0]);simp only[dc0,sg0,ex0,ty0] at hw;simp[hw])|skip
   ·
    refine sr fun Z z=>?_
    simp
    apply z
    refine cT (by simp[h0]) ?_
    refine sr fun Z z=>?_
    simp
    apply z
    refine AT_ret ?_
    simp[encD,dc0,sg0,ex0,ty0,Tryz.f12]
    all_goals first|(· simp[wholeR,hx])|(· have hw:wholeR dc0 rdR s=((methodR l (typeR l (l.length+1)) (exprR l (l.length+1)) (⟨0,false⟩:Pl)).1,0,0):=(by unfold wholeR;rw[hx];simp only[hpr,← hf9,h0]);simp only[dc0,sg0,ex0,ty0] at hw;simp[hw])|(· have hw:wholeR dc0 rdR s=((typedR l (typeR l (l.length+1)) (⟨0,false⟩:Pl)).1,0,0):=(by unfold wholeR;rw[hx];simp only[hpr,← hf9,h0]);simp only[dc0,sg0,ex0,ty0] at hw;simp[hw])|(· have hw:wholeR dc0 rdR s=(dc0,f9.1,f9.2):=(by unfold wholeR;rw[hx];simp only[hpr,← hf9,if_neg h0]);simp only[dc0,sg0,ex0,ty0] at hw;simp[hw])|skip
  ·
   have hpr:rdR l=(methodR l (typeR l (l.length+1)) (exprR l (l.length+1)) (⟨0,false⟩:Pl)):=by unfold rdR declR;rw[if_pos hfn]
   refine sr fun Z z=>?_
   simp
   refine RVn_call ((by have h:=c_ref07x_Is g l hn (⟨0,false⟩:Pl) hk0 wFunc;simp only[encP] at h;first|exact h|(simp only[hub] at h;exact h)|(simp only[hnb] at h;exact h)|(rw[hb] at h;exact h))) ?_
   simp[hfn]
   apply z
   refine cT (by simp) ?_
   refine AT_region_q fun Z z=>?_
   simp
   refine RVn_call ((by have h:=c_ref08x_method g l hE hn (fun t ht=>by have:=hlt t ht;omega) (⟨0,false⟩:Pl) hk0;simp only[encP] at h;first|exact h|(simp only[hub] at h;exact h)|(simp only[hnb] at h;exact h)|(rw[hb] at h;exact h))) ?_
   simp[encD]
   apply z
   refine hK3 _ ?_
   refine sr fun Z z=>?_
   obtain ⟨f9,hf9⟩:∃ f9,f9=finR l (methodR l (typeR l (l.length+1)) (exprR l (l.length+1)) (⟨0,false⟩:Pl)).2:=⟨_,rfl⟩
   simp
   refine RVn_call ((by have h:=c_ref07x_Finish g l hn (methodR l (typeR l (l.length+1)) (exprR l (l.length+1)) (⟨0,false⟩:Pl)).2 hgm.2;rw[←hf9] at h;simp only[encP] at h;first|exact h|(simp only[hub] at h;exact h)|(simp only[hnb] at h;exact h)|(rw[hb] at h;exact h))) ?_
   simp
   apply z
   refine AT_seq_k fun K5 hK5=>?_
   by_cases h0:f9.1=0
   ·
    refine sr fun Z z=>?_
    simp[h0]
    apply z
    refine cF (by simp) ?_
    refine AT_skip ?_
    refine hK5 _ ?_
    refine sr fun Z z=>?_
    simp
    apply z
    refine AT_ret ?_
    simp[encD,dc0,sg0,ex0,ty0,Tryz.f12]
    all_goals first|(· simp[wholeR,hx])|(· have hw:wholeR dc0 rdR s=((methodR l (typeR l (l.length+1)) (exprR l (l.length+1)) (⟨0,false⟩:Pl)).1,0,0):=(by unfold wholeR;rw[hx];simp only[hpr,← hf9,h0,if_true]);simp only[dc0,sg0,ex0,ty0] at hw;simp[hw])|(· have hw:wholeR dc0 rdR s=((typedR l (typeR l (l.length+1)) (⟨0,false⟩:Pl)).1,0,0):=(by unfold wholeR;rw[hx];simp only[hpr,← hf9,h0,if_true]);simp only[dc0,sg0,ex0,ty0] at hw;simp[hw])|(· have hw:wholeR dc0 rdR s=(dc0,f9.1,f9.2):=(by unfold wholeR;rw[hx];simp only[hpr,← hf9,if_neg h0]);simp only[dc0,sg0,ex0,ty0] at hw;simp[hw])|skip
   ·
    refine sr fun Z z=>?_
    simp
    apply z
    refine cT (by simp[h0]) ?_
    refine sr fun Z z=>?_
    simp
    apply z
    refine AT_ret ?_
    simp[encD,dc0,sg0,ex0,ty0,Tryz.f12]
    all_goals first|(· simp[wholeR,hx])|(· have hw:wholeR dc0 rdR s=((methodR l (typeR l (l.length+1)) (exprR l (l.length+1)) (⟨0,false⟩:Pl)).1,0,0):=(by unfold wholeR;rw[hx];simp only[hpr,← hf9,h0]);simp only[dc0,sg0,ex0,ty0] at hw;simp[hw])|(· have hw:wholeR dc0 rdR s=((typedR l (typeR l (l.length+1)) (⟨0,false⟩:Pl)).1,0,0):=(by unfold wholeR;rw[hx];simp only[hpr,← hf9,h0]);simp only[dc0,sg0,ex0,ty0] at hw;simp[hw])|(· have hw:wholeR dc0 rdR s=(dc0,f9.1,f9.2):=(by unfold wholeR;rw[hx];simp only[hpr,← hf9,if_neg h0]);simp only[dc0,sg0,ex0,ty0] at hw;simp[hw])|skip

end Go.Proofs.YtfgafcjebfjepaaGreatDoor
end

section
/- Contracts: expressions handed out. -/
set_option linter.all false
set_option maxHeartbeats 1000000
set_option maxRecDepth 10000
namespace Go.Proofs.YtfgafcjebfjepaaGreatDoor
open Go Go.Pv
variable (g:Nat→Option (List AV)) (rnd:Bool)

theorem c_slices_IndexFunc_api_Type_api_Type_q (fid:Nat) (caps:List AV) (q:Ty→Bool) (l:List Ty) (hl:l.length≤1099511627776) (hq:∀ x∈l,Valid Tryz.prog (G0 g rnd) fid ([.agg (encTy x)]++caps) (.bool (q x))):Valid Tryz.prog (G0 g rnd) 173 [.slice (l.map encTy),.func fid caps] (.int .i64 (idxQ q l 0)):=by

 refine valid_of [] Tryz.func173 rfl (by kernel_rfl) ?_
 refine sr fun Z z=>?_
 simp[Tryz.f173]
 apply z
 refine AT_seq_k fun K1 hK1=>?_
 refine sr fun Z z=>?_
 simp
 apply z
 refine AT_block ?_
 refine AT_loop_q [0,1,7,8] [] (fun j s=>∃ k,k≤l.length∧idxQ q l 0=idxQ q (l.drop k) k∧j=l.length - k∧s={ n:=19,tm:=[(0,.v (.slice (l.map encTy)) none),(1,.v (.func fid caps) none),(7,.v (.int .i64 l.length) none),(8,.v (.int .i64 k) none)],bx:=[],tb:=[],sh:=[],hint:=[] }) (l.length) (by first|rfl|simp) ?_ ?_
 exact ⟨0,by simp⟩
 rintro j s ⟨k,hk,hc,rfl,rfl⟩ K2 hK2
 refine sr fun Z z=>?_
 simp
 apply z
 refine AT_seq_k fun K3 hK3=>?_
 refine AT_cond (g:=none) rfl (fun hb9=>?_) (fun hb9=>?_)
 simp at hb9
 refine AT_skip ?_
 refine hK3 _ ?_
 refine AT_seq_k fun K4 hK4=>?_
 refine AT_block ?_
 refine sr fun Z z=>?_
 simp[hb9]
 apply z
 refine sr fun Z z=>?_
 have hk9:k < l.length:=by omega
 have hda:=List.drop_eq_getElem_cons hk9
 simp[row_map,hb9]
 refine RVn_call (hq l[k] (by simp)) ?_
 simp
 apply z
 refine AT_cond (g:=none) rfl (fun hb16=>?_) (fun hb16=>?_)
 refine sr fun Z z=>?_
 simp[hb16]
 apply z
 refine AT_ret ?_
 simp[Tryz.f173]
 (· rw[hc,hda,idxQ,if_pos hb16])
 refine AT_skip ?_
 refine hK4 _ ?_
 refine AT_region_q fun Z z=>?_
 simp[hb16]
 repeat refine sg ?_
 apply z
 refine hK2 _ (by first|rfl|simp) (l.length - (k+1)) (by omega) ?_
 refine ⟨k+1,by omega,?_,by omega,by simp⟩
 rw[hc,hda,idxQ,if_neg (by simp[hb16])]
 simp at hb9
 refine AT_exit ?_
 refine hK1 _ ?_
 refine sr fun Z z=>?_
 simp
 apply z
 refine AT_ret ?_
 simp[Tryz.f173]
 (rw[hc,List.drop_eq_nil_of_le (by omega)];rfl)

theorem c_slices_ContainsFunc_api_Type_api_Type_q (fid:Nat) (caps:List AV) (q:Ty→Bool) (l:List Ty) (hl:l.length≤1099511627776) (hq:∀ x∈l,Valid Tryz.prog (G0 g rnd) fid ([.agg (encTy x)]++caps) (.bool (q x))):Valid Tryz.prog (G0 g rnd) 146 [.slice (l.map encTy),.func fid caps] (.bool (l.any q)):=by

 refine valid_of [] Tryz.func146 rfl (by kernel_rfl) ?_
 refine sr fun Z z=>?_
 simp[Tryz.f146]
 apply z
 refine sr fun Z z=>?_
 simp
 refine RVn_call (c_slices_IndexFunc_api_Type_api_Type_q g rnd fid caps q l hl hq) ?_
 simp
 apply z
 refine AT_ret ?_
 simp[Tryz.f146]
 exact idxQ_any q l 0

theorem c_slices_IndexFunc_api_Expr_api_Expr (Y:Ys) (hP:Y.P=Tryz.prog) (L:Exp→List AV) (caps:List AV) (l:List Exp) (s:List AV) (hl:l.length≤1099511627776) (he:elOk Y s (l.flatMap L)) (hcl:∀ a∈l,∀ s,elOk Y s (L a)→ValidY Tryz.prog (G1 g Y) Y 169 ([.agg (encE a)]++caps) (s,true) (.bool (!(feed Y s (L a)).2)) (feed Y s (L a))):ValidY Tryz.prog (G1 g Y) Y 177 [.slice (l.map encE),.func 169 caps] (s,true) (.int .i64 (visI Y L s l 0)) (feed Y s (l.flatMap L)):=by

 refine validY_of [] Tryz.func177 rfl (by kernel_rfl) rfl hP ?_
 refine sr fun Z z=>?_
 simp[Tryz.f177]
 apply z
 refine AT_seq_k fun K1 hK1=>?_
 refine sr fun Z z=>?_
 simp
 apply z
 refine AT_block ?_
 refine AT_loop_q [0,1,7,8] [] (fun j st=>∃ k s1,k≤l.length∧feed Y s (l.flatMap L)=feed Y s1 ((l.drop k).flatMap L)∧visI Y L s l 0=visI Y L s1 (l.drop k) k∧elOk Y s1 ((l.drop k).flatMap L)∧j=l.length - k∧st={ n:=19,tm:=[(0,.v (.slice (l.map encE)) none),(1,.v (.func 169 caps) none),(7,.v (.int .i64 l.length) none),(8,.v (.int .i64 k) none)],bx:=[],tb:=[],sh:=[],hint:=[],ys:=(s1,true) }) (l.length) (by first|rfl|simp) ?_ ?_
 exact ⟨0,s,by simp[he]⟩
 rintro j st ⟨k,s1,hk,hf,hv,hel,rfl,rfl⟩ K2 hK2
 refine sr fun Z z=>?_
 simp
 apply z
 refine AT_seq_k fun K3 hK3=>?_
 refine AT_cond (g:=none) rfl (fun hb9=>?_) (fun hb9=>?_)
 simp at hb9
 refine AT_skip ?_
 refine hK3 _ ?_
 refine AT_seq_k fun K4 hK4=>?_
 refine AT_block ?_
 refine sr fun Z z=>?_
 simp[hb9]
 apply z
 refine sr fun Z z=>?_
 have hk9:k < l.length:=by omega
 have hda:=List.drop_eq_getElem_cons hk9
 simp[row_map,hb9]
 refine RVn_callY rfl (by simp) (hcl l[k] (by simp) s1 (by rw[hda,List.flatMap_cons,elOk_app] at hel;exact hel.1)) ?_
 simp
 apply z
 refine AT_cond (g:=none) rfl (fun hb16=>?_) (fun hb16=>?_)
 simp at hb16
 refine sr fun Z z=>?_
 simp
 apply z
 refine AT_ret ?_
 simp[Tryz.f177]
 (refine ⟨?_,?_⟩
  · rw[hv,hda,visI,if_neg (by simp[hb16])]
  · rw[hf,hda,List.flatMap_cons,feed_app,if_neg (by simp[hb16])])
 simp at hb16
 refine AT_skip ?_
 refine hK4 _ ?_
 refine AT_region_q fun Z z=>?_
 simp
 repeat refine sg ?_
 apply z
 refine hK2 _ (by first|rfl|simp) (l.length - (k+1)) (by omega) ?_
 refine ⟨k+1,(feed Y s1 (L l[k])).1,by omega,?_,?_,?_,by omega,?_⟩
 · rw[hf,hda,List.flatMap_cons,feed_app,if_pos hb16]
 · rw[hv,hda,visI,if_pos hb16]
 · rw[hda,List.flatMap_cons,elOk_app] at hel;exact hel.2 hb16
 · simp;exact Prod.ext rfl hb16
 simp at hb9
 refine AT_exit ?_
 refine hK1 _ ?_
 refine sr fun Z z=>?_
 simp
 apply z
 refine AT_ret ?_
 simp[Tryz.f177]
 (have hnil:=List.drop_eq_nil_of_le (show l.length≤k by omega)
  rw[hf,hv,hnil];simp[visI,feed])

theorem c_slices_ContainsFunc_api_Expr_api_Expr (Y:Ys) (hP:Y.P=Tryz.prog) (L:Exp→List AV) (caps:List AV) (l:List Exp) (s:List AV) (hl:l.length≤1099511627776) (he:elOk Y s (l.flatMap L)) (hcl:∀ a∈l,∀ s,elOk Y s (L a)→ValidY Tryz.prog (G1 g Y) Y 169 ([.agg (encE a)]++caps) (s,true) (.bool (!(feed Y s (L a)).2)) (feed Y s (L a))):ValidY Tryz.prog (G1 g Y) Y 170 [.slice (l.map encE),.func 169 caps] (s,true) (.bool (!(feed Y s (l.flatMap L)).2)) (feed Y s (l.flatMap L)):=by

 refine validY_of [] Tryz.func170 rfl (by kernel_rfl) rfl hP ?_
 refine sr fun Z z=>?_
 simp[Tryz.f170]
 apply z
 refine sr fun Z z=>?_
 simp
 refine RVn_callY rfl (by simp) (c_slices_IndexFunc_api_Expr_api_Expr g Y hP L caps l s hl he hcl) ?_
 simp
 apply z
 refine AT_ret ?_
 simp[Tryz.f170]
 exact visI_feed Y L s l 0

theorem c_expr_visit_1 (Y:Ys) (hP:Y.P=Tryz.prog) (e:Exp) (s:List AV) (r:Bool) (ys:List AV×Bool) (hv:ValidY Tryz.prog (G1 g Y) Y 143 [.agg (encE e),.yld Y.l] (s,true) (.bool r) ys):ValidY Tryz.prog (G1 g Y) Y 169 [.agg (encE e),.ro [.yld Y.l]] (s,true) (.bool (!r)) ys:=by

 refine validY_of [(200002,0)] Tryz.func169 rfl (by kernel_rfl) rfl hP ?_
 refine sr fun Z z=>?_
 simp[Tryz.f169]
 apply z
 refine sr fun Z z=>?_
 simp
 refine RVn_callY rfl (by simp) (hv) ?_
 simp
 apply z
 refine AT_ret ?_
 simp[Tryz.f169]

theorem c_expr_visit (Y:Ys) (hP:Y.P=Tryz.prog):∀ e:Exp,wtE e≤1000000000→∀ s:List AV,elOk Y s ((lstE e).map avE)→ValidY Tryz.prog (G1 g Y) Y 143 [.agg (encE e),.yld Y.l] (s,true) (.bool (feed Y s ((lstE e).map avE)).2) (feed Y s ((lstE e).map avE)):=by
 intro e
 induction e using Exp.ind with
 | h kd n t ta l p ih=>
 intro hw
 have hw2:n.length+1+wt t+wts ta+wtEs l≤1000000000:=by simpa[wtE_mk] using hw
 have hln:=wtEs_len l
 have hla:=wts_len ta
 intro s he
 have hfl:(lstEs l).map avE=l.flatMap (fun e=>(lstE e).map avE):=by rw[lstEs_flat,List.map_flatten,List.map_map,List.flatMap_def];rfl
 have hlst:(lstE (.mk kd n t ta l p)).map avE=.agg (encE (.mk kd n t ta l p)) :: l.flatMap (fun e=>(lstE e).map avE):=by simp[lstE,hfl]
 rw[hlst] at he ⊢
 have he1:Y.el s (.agg (encE (.mk kd n t ta l p))):=he.1
 refine validY_of [(200002,0),(200003,0)] Tryz.func143 rfl (by kernel_rfl) rfl hP ?_
 refine sr fun Z z=>?_
 simp[Tryz.f143]
 apply z
 refine AT_seq_k fun K1 hK1=>?_
 cases hgo:Y.go s (.agg (encE (.mk kd n t ta l p)))
 refine sr fun Z z=>?_
 simp
 refine RVn_yld rfl rfl (by simp) rfl (he1) ?_
 simp[hgo]
 apply z
 refine cT (by simp) ?_
 refine sr fun Z z=>?_
 simp
 apply z
 refine AT_ret ?_
 simp[Tryz.f143]
 simp[feed,hgo]
 refine sr fun Z z=>?_
 simp
 refine RVn_yld rfl rfl (by simp) rfl (he1) ?_
 simp[hgo]
 apply z
 refine cF (by simp) ?_
 refine AT_skip ?_
 refine hK1 _ ?_
 refine sr fun Z z=>?_
 simp
 apply z
 refine sr fun Z z=>?_
 simp
 refine RVn_callY rfl (by simp) (c_slices_ContainsFunc_api_Expr_api_Expr g Y hP (fun e=>(lstE e).map avE) [.ro [.yld Y.l]] l (s++[.agg (encE (.mk kd n t ta l p))]) (by omega) (he.2 hgo) (fun a ha s2 hs2=>c_expr_visit_1 g Y hP a s2 _ _ (ih a ha (Nat.le_trans (wtEs_mem ha) (by omega)) s2 hs2))) ?_
 simp
 apply z
 refine AT_ret ?_
 simp[Tryz.f143]
 simp[feed,hgo]

theorem c_expr_All_1 (Y:Ys) (hP:Y.P=Tryz.prog) (e:Exp) (hw:wtE e≤1000000000) (s:List AV) (he:elOk Y s ((lstE e).map avE)):ValidY Tryz.prog (G1 g Y) Y 142 [.yld Y.l,.ro (encE e)] (s,true) (.tup []) (feed Y s ((lstE e).map avE)):=by

 refine validY_of [] Tryz.func142 rfl (by kernel_rfl) rfl hP ?_
 refine AT_region_q fun Z z=>?_
 simp[Tryz.f142]
 refine RVn_callY rfl (by simp) (c_expr_visit g Y hP e hw s he) ?_
 simp
 apply z
 simp[Tryz.f142]

theorem c_expr_All (e:Exp):Valid Tryz.prog (G0 g rnd) 104 [.agg (encE e)] (.func 142 [.ro (encE e)]):=by

 refine valid_of [(200001,0)] Tryz.func104 rfl (by kernel_rfl) ?_
 refine sr fun Z z=>?_
 simp[Tryz.f104]
 apply z
 refine sr fun Z z=>?_
 simp
 apply z
 refine AT_ret ?_
 simp[Tryz.f104]

end Go.Proofs.YtfgafcjebfjepaaGreatDoor
end

section
/- Contracts: declarations, compared. -/
set_option linter.all false
set_option maxHeartbeats 1000000
set_option maxRecDepth 10000
namespace Go.Proofs.YtfgafcjebfjepaaGreatDoor
open Go Go.Pv
variable (g:Nat→Option (List AV)) (rnd:Bool)

theorem c_decl_sameFormal (a b:Fm) (hw:wt a.ty≤1000000000):Valid Tryz.prog (G0 g rnd) 85 [.agg (encF a),.agg (encF b)] (.bool (sameF a b)):=by

 refine valid_of [] Tryz.func85 rfl (by kernel_rfl) ?_
 refine sr fun Z z=>?_
 simp[encF,Tryz.f85]
 apply z
 cases h1:(a.name==b.name)
 refine sr fun Z z=>?_
 simp[h1]
 apply z
 refine AT_ret ?_
 simp[Tryz.f85]
 simp[sameF,h1]
 refine sr fun Z z=>?_
 simp[h1]
 refine RVn_call ((by have h:=c_types_Same g rnd a.ty b.ty (by omega);simp only[encTy_def] at h;exact h)) ?_
 simp
 repeat refine sg ?_
 apply z
 refine AT_ret ?_
 simp[Tryz.f85]
 simp[sameF,h1]

theorem c_slices_EqualFunc_api_Formal_api_Formal_api_Formal_api_Formal (a b:List Fm) (hl:a.length≤1099511627776) (hs:∀ x∈a,∀ y∈b,Valid Tryz.prog (G0 g rnd) 85 [.agg (encF x),.agg (encF y)] (.bool (sameF x y))):Valid Tryz.prog (G0 g rnd) 84 [.slice (a.map encF),.slice (b.map encF),.func 85 []] (.bool (eqL sameF a b)):=by

 refine valid_of [] Tryz.func84 rfl (by kernel_rfl) ?_
 refine sr fun Z z=>?_
 simp[Tryz.f84]
 apply z
 refine AT_seq_k fun K1 hK1=>?_
 refine sr fun Z z=>?_
 simp
 apply z
 refine AT_cond (g:=none) rfl (fun hb14=>?_) (fun hb14=>?_)
 simp at hb14
 refine sr fun Z z=>?_
 simp
 apply z
 refine AT_ret ?_
 simp[Tryz.f84]
 (·rw[eqL_len (show a.length≠b.length by omega)])
 simp at hb14
 have hab:a.length=b.length:=by omega
 refine AT_skip ?_
 refine hK1 _ ?_
 refine AT_seq_k fun K2 hK2=>?_
 refine sr fun Z z=>?_
 simp
 apply z
 refine AT_block ?_
 refine AT_loop_q [0,1,2,15,16,17] [] (fun j s=>∃ k,k≤a.length∧eqL sameF a b=eqL sameF (a.drop k) (b.drop k)∧j=a.length - k∧s={ n:=32,tm:=[(0,.v (.slice (a.map encF)) none),(1,.v (.slice (b.map encF)) none),(2,.v (.func 85 []) none),(15,.v (.slice (a.map encF)) none),(16,.v (.int .i64 a.length) none),(17,.v (.int .i64 k) none)],bx:=[],tb:=[],sh:=[],hint:=[] }) (a.length) (by first|rfl|simp) ?_ ?_
 exact ⟨0,by simp⟩
 rintro j s ⟨k,hk,hc,rfl,rfl⟩ K3 hK3
 refine sr fun Z z=>?_
 simp
 apply z
 refine AT_seq_k fun K4 hK4=>?_
 refine AT_cond (g:=none) rfl (fun hb18=>?_) (fun hb18=>?_)
 simp at hb18
 refine AT_skip ?_
 refine hK4 _ ?_
 refine AT_seq_k fun K5 hK5=>?_
 refine AT_block ?_
 refine sr fun Z z=>?_
 simp[row_map,hb18]
 apply z
 refine sr fun Z z=>?_
 have hkb:k < b.length:=by omega
 have hda:=List.drop_eq_getElem_cons hb18
 have hdb:=List.drop_eq_getElem_cons hkb
 simp[row_map,hkb]
 apply z
 refine sr fun Z z=>?_
 simp
 refine RVn_call (hs a[k] (by simp) b[k] (by simp)) ?_
 simp
 apply z
 refine AT_cond (g:=none) rfl (fun hb30=>?_) (fun hb30=>?_)
 simp at hb30
 refine sr fun Z z=>?_
 simp[hb30]
 apply z
 refine AT_ret ?_
 simp[Tryz.f84]
 (·rw[hc,hda,hdb,eqL_cons];simp[hb30])
 simp at hb30
 refine AT_skip ?_
 refine hK5 _ ?_
 refine AT_region_q fun Z z=>?_
 simp[hb30]
 repeat refine sg ?_
 apply z
 refine hK3 _ (by first|rfl|simp) (a.length - (k+1)) (by omega) ?_
 refine ⟨k+1,by omega,?_,by omega,by simp⟩
 rw[hc,hda,hdb,eqL_cons];simp[hb30]
 simp at hb18
 refine AT_exit ?_
 refine hK2 _ ?_
 refine sr fun Z z=>?_
 simp
 apply z
 refine AT_ret ?_
 simp[Tryz.f84]
 (·rw[hc,List.drop_eq_nil_of_le hb18,List.drop_eq_nil_of_le (show b.length≤k by omega)];simp[eqL])

theorem c_decl_sameParam (a b:Fm) (hw:wt a.ty≤1000000000):Valid Tryz.prog (G0 g rnd) 87 [.agg (encF a),.agg (encF b)] (.bool (sameF a b)):=by

 refine valid_of [] Tryz.func87 rfl (by kernel_rfl) ?_
 refine sr fun Z z=>?_
 simp[encF,Tryz.f87]
 apply z
 cases h1:(a.name==b.name)
 refine sr fun Z z=>?_
 simp[h1]
 apply z
 refine AT_ret ?_
 simp[Tryz.f87]
 simp[sameF,h1]
 refine sr fun Z z=>?_
 simp[h1]
 refine RVn_call ((by have h:=c_types_Same g rnd a.ty b.ty (by omega);simp only[encTy_def] at h;exact h)) ?_
 simp
 repeat refine sg ?_
 apply z
 refine AT_ret ?_
 simp[Tryz.f87]
 simp[sameF,h1]

theorem c_slices_EqualFunc_api_Param_api_Param_api_Param_api_Param (a b:List Fm) (hl:a.length≤1099511627776) (hs:∀ x∈a,∀ y∈b,Valid Tryz.prog (G0 g rnd) 87 [.agg (encF x),.agg (encF y)] (.bool (sameF x y))):Valid Tryz.prog (G0 g rnd) 86 [.slice (a.map encF),.slice (b.map encF),.func 87 []] (.bool (eqL sameF a b)):=by

 refine valid_of [] Tryz.func86 rfl (by kernel_rfl) ?_
 refine sr fun Z z=>?_
 simp[Tryz.f86]
 apply z
 refine AT_seq_k fun K1 hK1=>?_
 refine sr fun Z z=>?_
 simp
 apply z
 refine AT_cond (g:=none) rfl (fun hb14=>?_) (fun hb14=>?_)
 simp at hb14
 refine sr fun Z z=>?_
 simp
 apply z
 refine AT_ret ?_
 simp[Tryz.f86]
 (·rw[eqL_len (show a.length≠b.length by omega)])
 simp at hb14
 have hab:a.length=b.length:=by omega
 refine AT_skip ?_
 refine hK1 _ ?_
 refine AT_seq_k fun K2 hK2=>?_
 refine sr fun Z z=>?_
 simp
 apply z
 refine AT_block ?_
 refine AT_loop_q [0,1,2,15,16,17] [] (fun j s=>∃ k,k≤a.length∧eqL sameF a b=eqL sameF (a.drop k) (b.drop k)∧j=a.length - k∧s={ n:=32,tm:=[(0,.v (.slice (a.map encF)) none),(1,.v (.slice (b.map encF)) none),(2,.v (.func 87 []) none),(15,.v (.slice (a.map encF)) none),(16,.v (.int .i64 a.length) none),(17,.v (.int .i64 k) none)],bx:=[],tb:=[],sh:=[],hint:=[] }) (a.length) (by first|rfl|simp) ?_ ?_
 exact ⟨0,by simp⟩
 rintro j s ⟨k,hk,hc,rfl,rfl⟩ K3 hK3
 refine sr fun Z z=>?_
 simp
 apply z
 refine AT_seq_k fun K4 hK4=>?_
 refine AT_cond (g:=none) rfl (fun hb18=>?_) (fun hb18=>?_)
 simp at hb18
 refine AT_skip ?_
 refine hK4 _ ?_
 refine AT_seq_k fun K5 hK5=>?_
 refine AT_block ?_
 refine sr fun Z z=>?_
 simp[row_map,hb18]
 apply z
 refine sr fun Z z=>?_
 have hkb:k < b.length:=by omega
 have hda:=List.drop_eq_getElem_cons hb18
 have hdb:=List.drop_eq_getElem_cons hkb
 simp[row_map,hkb]
 apply z
 refine sr fun Z z=>?_
 simp
 refine RVn_call (hs a[k] (by simp) b[k] (by simp)) ?_
 simp
 apply z
 refine AT_cond (g:=none) rfl (fun hb30=>?_) (fun hb30=>?_)
 simp at hb30
 refine sr fun Z z=>?_
 simp[hb30]
 apply z
 refine AT_ret ?_
 simp[Tryz.f86]
 (·rw[hc,hda,hdb,eqL_cons];simp[hb30])
 simp at hb30
 refine AT_skip ?_
 refine hK5 _ ?_
 refine AT_region_q fun Z z=>?_
 simp[hb30]
 repeat refine sg ?_
 apply z
 refine hK3 _ (by first|rfl|simp) (a.length - (k+1)) (by omega) ?_
 refine ⟨k+1,by omega,?_,by omega,by simp⟩
 rw[hc,hda,hdb,eqL_cons];simp[hb30]
 simp at hb18
 refine AT_exit ?_
 refine hK2 _ ?_
 refine sr fun Z z=>?_
 simp
 apply z
 refine AT_ret ?_
 simp[Tryz.f86]
 (·rw[hc,List.drop_eq_nil_of_le hb18,List.drop_eq_nil_of_le (show b.length≤k by omega)];simp[eqL])

theorem c_decl_SameSig (a b:Sg) (hw:wtG a≤1000000000):Valid Tryz.prog (G0 g rnd) 89 [.agg (encG a),.agg (encG b)] (.bool (sameG a b)):=by
 have hw2:a.name.length+1+wtFs a.fms+wtFs a.pms+wt a.res≤1000000000:=hw
 refine valid_of [] Tryz.func89 rfl (by kernel_rfl) ?_
 refine sr fun Z z=>?_
 simp[encG,Tryz.f89]
 apply z
 cases h1:(a.name==b.name)
 refine sr fun Z z=>?_
 simp[h1]
 apply z
 refine AT_ret ?_
 simp[Tryz.f89]
 (·simp[sameG,h1])
 cases h2:(eqL sameF a.fms b.fms)
 refine sr fun Z z=>?_
 simp[h1]
 refine RVn_call (c_slices_EqualFunc_api_Formal_api_Formal_api_Formal_api_Formal g rnd a.fms b.fms (by have:=wtFs_len a.fms;omega) (fun x hx y _=>c_decl_sameFormal g rnd x y (by have:=wtFs_mem hx;unfold wtF at this;omega))) ?_
 simp[h2]
 repeat refine sg ?_
 apply z
 refine AT_ret ?_
 simp[Tryz.f89]
 (·simp[sameG,h1,h2])
 cases h3:(eqL sameF a.pms b.pms)
 refine sr fun Z z=>?_
 simp[h1]
 refine RVn_call (c_slices_EqualFunc_api_Formal_api_Formal_api_Formal_api_Formal g rnd a.fms b.fms (by have:=wtFs_len a.fms;omega) (fun x hx y _=>c_decl_sameFormal g rnd x y (by have:=wtFs_mem hx;unfold wtF at this;omega))) ?_
 simp[h2]
 repeat refine sg ?_
 refine RVn_call (c_slices_EqualFunc_api_Param_api_Param_api_Param_api_Param g rnd a.pms b.pms (by have:=wtFs_len a.pms;omega) (fun x hx y _=>c_decl_sameParam g rnd x y (by have:=wtFs_mem hx;unfold wtF at this;omega))) ?_
 simp[h3]
 repeat refine sg ?_
 apply z
 refine AT_ret ?_
 simp[Tryz.f89]
 (·simp[sameG,h1,h2,h3])
 refine sr fun Z z=>?_
 simp[h1]
 refine RVn_call (c_slices_EqualFunc_api_Formal_api_Formal_api_Formal_api_Formal g rnd a.fms b.fms (by have:=wtFs_len a.fms;omega) (fun x hx y _=>c_decl_sameFormal g rnd x y (by have:=wtFs_mem hx;unfold wtF at this;omega))) ?_
 simp[h2]
 repeat refine sg ?_
 refine RVn_call (c_slices_EqualFunc_api_Param_api_Param_api_Param_api_Param g rnd a.pms b.pms (by have:=wtFs_len a.pms;omega) (fun x hx y _=>c_decl_sameParam g rnd x y (by have:=wtFs_mem hx;unfold wtF at this;omega))) ?_
 simp[h3]
 repeat refine sg ?_
 refine RVn_call ((by have h:=c_types_Same g rnd a.res b.res (by omega);simp only[encTy_def] at h;exact h)) ?_
 simp
 repeat refine sg ?_
 apply z
 refine AT_ret ?_
 simp[Tryz.f89]
 (·simp[sameG,h1,h2,h3])

theorem c_slices_EqualFunc_api_Sig_api_Sig_api_Sig_api_Sig (a b:List Sg) (hl:a.length≤1099511627776) (hs:∀ x∈a,∀ y∈b,Valid Tryz.prog (G0 g rnd) 89 [.agg (encG x),.agg (encG y)] (.bool (sameG x y))):Valid Tryz.prog (G0 g rnd) 88 [.slice (a.map encG),.slice (b.map encG),.func 89 []] (.bool (eqL sameG a b)):=by

 refine valid_of [] Tryz.func88 rfl (by kernel_rfl) ?_
 refine sr fun Z z=>?_
 simp[Tryz.f88]
 apply z
 refine AT_seq_k fun K1 hK1=>?_
 refine sr fun Z z=>?_
 simp
 apply z
 refine AT_cond (g:=none) rfl (fun hb14=>?_) (fun hb14=>?_)
 simp at hb14
 refine sr fun Z z=>?_
 simp
 apply z
 refine AT_ret ?_
 simp[Tryz.f88]
 (·rw[eqL_len (show a.length≠b.length by omega)])
 simp at hb14
 have hab:a.length=b.length:=by omega
 refine AT_skip ?_
 refine hK1 _ ?_
 refine AT_seq_k fun K2 hK2=>?_
 refine sr fun Z z=>?_
 simp
 apply z
 refine AT_block ?_
 refine AT_loop_q [0,1,2,15,16,17] [] (fun j s=>∃ k,k≤a.length∧eqL sameG a b=eqL sameG (a.drop k) (b.drop k)∧j=a.length - k∧s={ n:=32,tm:=[(0,.v (.slice (a.map encG)) none),(1,.v (.slice (b.map encG)) none),(2,.v (.func 89 []) none),(15,.v (.slice (a.map encG)) none),(16,.v (.int .i64 a.length) none),(17,.v (.int .i64 k) none)],bx:=[],tb:=[],sh:=[],hint:=[] }) (a.length) (by first|rfl|simp) ?_ ?_
 exact ⟨0,by simp⟩
 rintro j s ⟨k,hk,hc,rfl,rfl⟩ K3 hK3
 refine sr fun Z z=>?_
 simp
 apply z
 refine AT_seq_k fun K4 hK4=>?_
 refine AT_cond (g:=none) rfl (fun hb18=>?_) (fun hb18=>?_)
 simp at hb18
 refine AT_skip ?_
 refine hK4 _ ?_
 refine AT_seq_k fun K5 hK5=>?_
 refine AT_block ?_
 refine sr fun Z z=>?_
 simp[row_map,hb18]
 apply z
 refine sr fun Z z=>?_
 have hkb:k < b.length:=by omega
 have hda:=List.drop_eq_getElem_cons hb18
 have hdb:=List.drop_eq_getElem_cons hkb
 simp[row_map,hkb]
 apply z
 refine sr fun Z z=>?_
 simp
 refine RVn_call (hs a[k] (by simp) b[k] (by simp)) ?_
 simp
 apply z
 refine AT_cond (g:=none) rfl (fun hb30=>?_) (fun hb30=>?_)
 simp at hb30
 refine sr fun Z z=>?_
 simp[hb30]
 apply z
 refine AT_ret ?_
 simp[Tryz.f88]
 (·rw[hc,hda,hdb,eqL_cons];simp[hb30])
 simp at hb30
 refine AT_skip ?_
 refine hK5 _ ?_
 refine AT_region_q fun Z z=>?_
 simp[hb30]
 repeat refine sg ?_
 apply z
 refine hK3 _ (by first|rfl|simp) (a.length - (k+1)) (by omega) ?_
 refine ⟨k+1,by omega,?_,by omega,by simp⟩
 rw[hc,hda,hdb,eqL_cons];simp[hb30]
 simp at hb18
 refine AT_exit ?_
 refine hK2 _ ?_
 refine sr fun Z z=>?_
 simp
 apply z
 refine AT_ret ?_
 simp[Tryz.f88]
 (·rw[hc,List.drop_eq_nil_of_le hb18,List.drop_eq_nil_of_le (show b.length≤k by omega)];simp[eqL])

theorem c_slices_Equal_string_string (a b:List Str) (hl:a.length≤1099511627776):Valid Tryz.prog (G0 g rnd) 90 [.slice (a.map encS),.slice (b.map encS)] (.bool (eqL (·==·) a b)):=by

 refine valid_of [] Tryz.func90 rfl (by kernel_rfl) ?_
 refine sr fun Z z=>?_
 simp[Tryz.f90]
 apply z
 refine AT_seq_k fun K1 hK1=>?_
 refine sr fun Z z=>?_
 simp
 apply z
 refine AT_cond (g:=none) rfl (fun hb10=>?_) (fun hb10=>?_)
 simp at hb10
 refine sr fun Z z=>?_
 simp
 apply z
 refine AT_ret ?_
 simp[Tryz.f90]
 (·rw[eqL_len (show a.length≠b.length by omega)])
 simp at hb10
 have hab:a.length=b.length:=by omega
 refine AT_skip ?_
 refine hK1 _ ?_
 refine AT_seq_k fun K2 hK2=>?_
 refine sr fun Z z=>?_
 simp
 apply z
 refine AT_block ?_
 refine AT_loop_q [0,1,12,13] [] (fun j s=>∃ k,k≤a.length∧eqL (·==·) a b=eqL (·==·) (a.drop k) (b.drop k)∧j=a.length - k∧s={ n:=26,tm:=[(0,.v (.slice (a.map encS)) none),(1,.v (.slice (b.map encS)) none),(12,.v (.int .i64 a.length) none),(13,.v (.int .i64 k) none)],bx:=[],tb:=[],sh:=[],hint:=[] }) (a.length) (by first|rfl|simp) ?_ ?_
 exact ⟨0,by simp⟩
 rintro j s ⟨k,hk,hc,rfl,rfl⟩ K3 hK3
 refine sr fun Z z=>?_
 simp
 apply z
 refine AT_seq_k fun K4 hK4=>?_
 refine AT_cond (g:=none) rfl (fun hb14=>?_) (fun hb14=>?_)
 simp at hb14
 refine AT_skip ?_
 refine hK4 _ ?_
 refine AT_seq_k fun K5 hK5=>?_
 refine AT_block ?_
 refine sr fun Z z=>?_
 simp[hb14]
 apply z
 refine AT_seq_draw Pt.mixed (by kernel_rfl) fun Z z=>?_
 have hkb:k < b.length:=by omega
 have hda:=List.drop_eq_getElem_cons hb14
 have hdb:=List.drop_eq_getElem_cons hkb
 simp[row_map,hkb,encS,hb14]
 apply z
 refine AT_cond (g:=none) rfl (fun hb24=>?_) (fun hb24=>?_)
 simp at hb24
 refine sr fun Z z=>?_
 simp
 apply z
 refine AT_ret ?_
 simp[Tryz.f90]
 (·rw[hc,hda,hdb,eqL_cons];simp[hb24])
 simp at hb24
 refine AT_skip ?_
 refine hK5 _ ?_
 refine AT_region_q fun Z z=>?_
 simp[hb24]
 repeat refine sg ?_
 apply z
 refine hK3 _ (by first|rfl|simp) (a.length - (k+1)) (by omega) ?_
 refine ⟨k+1,by omega,?_,by omega,by simp⟩
 rw[hc,hda,hdb,eqL_cons];simp[hb24]
 simp at hb14
 refine AT_exit ?_
 refine hK2 _ ?_
 refine sr fun Z z=>?_
 simp
 apply z
 refine AT_ret ?_
 simp[Tryz.f90]
 (·rw[hc,List.drop_eq_nil_of_le hb14,List.drop_eq_nil_of_le (show b.length≤k by omega)];simp[eqL])

theorem c_decl_SameDecl (a b:Dc) (hw:wtD a≤1000000000):Valid Tryz.prog (G0 g rnd) 42 [.agg (encD a),.agg (encD b)] (.bool (sameD a b)):=by
 have hw2:a.name.length+1+wtFs a.fms+wtFs a.flds+wtGs a.sigs+a.recv.length+wtSs a.vars+wtG a.sig+wtE a.body≤1000000000:=hw
 refine valid_of [] Tryz.func42 rfl (by kernel_rfl) ?_
 refine sr fun Z z=>?_
 simp[encD,Tryz.f42]
 apply z
 cases h1:(a.kind==b.kind)
 refine sr fun Z z=>?_
 simp[h1]
 apply z
 cases h5:(eqL sameG a.sigs b.sigs)
 refine sr fun Z z=>?_
 simp
 apply z
 refine AT_ret ?_
 simp[Tryz.f42]
 (·simp[sameD,h1])
 cases h6:(a.recv==b.recv)
 refine sr fun Z z=>?_
 simp
 apply z
 refine AT_ret ?_
 simp[Tryz.f42]
 (·simp[sameD,h1])
 cases h7:(eqL (·==·) a.vars b.vars)
 refine sr fun Z z=>?_
 simp
 apply z
 refine AT_ret ?_
 simp[Tryz.f42]
 (·simp[sameD,h1])
 cases h8:(sameG a.sig b.sig)
 refine sr fun Z z=>?_
 simp
 apply z
 refine AT_ret ?_
 simp[Tryz.f42]
 (·simp[sameD,h1])
 refine sr fun Z z=>?_
 simp
 apply z
 refine AT_ret ?_
 simp[Tryz.f42]
 (·simp[sameD,h1])
 cases h2:(a.name==b.name)
 refine sr fun Z z=>?_
 simp[h1,h2]
 apply z
 cases h5:(eqL sameG a.sigs b.sigs)
 refine sr fun Z z=>?_
 simp
 apply z
 refine AT_ret ?_
 simp[Tryz.f42]
 (·simp[sameD,h1,h2])
 cases h6:(a.recv==b.recv)
 refine sr fun Z z=>?_
 simp
 apply z
 refine AT_ret ?_
 simp[Tryz.f42]
 (·simp[sameD,h1,h2])
 cases h7:(eqL (·==·) a.vars b.vars)
 refine sr fun Z z=>?_
 simp
 apply z
 refine AT_ret ?_
 simp[Tryz.f42]
 (·simp[sameD,h1,h2])
 cases h8:(sameG a.sig b.sig)
 refine sr fun Z z=>?_
 simp
 apply z
 refine AT_ret ?_
 simp[Tryz.f42]
 (·simp[sameD,h1,h2])
 refine sr fun Z z=>?_
 simp
 apply z
 refine AT_ret ?_
 simp[Tryz.f42]
 (·simp[sameD,h1,h2])
 cases h3:(eqL sameF a.fms b.fms)
 refine sr fun Z z=>?_
 simp[h1,h2]
 refine RVn_call (c_slices_EqualFunc_api_Formal_api_Formal_api_Formal_api_Formal g rnd a.fms b.fms (by have:=wtFs_len a.fms;omega) (fun x hx y _=>c_decl_sameFormal g rnd x y (by have:=wtFs_mem hx;unfold wtF at this;omega))) ?_
 simp[h3]
 repeat refine sg ?_
 apply z
 cases h5:(eqL sameG a.sigs b.sigs)
 refine sr fun Z z=>?_
 simp
 apply z
 refine AT_ret ?_
 simp[Tryz.f42]
 (·simp[sameD,h1,h2,h3])
 cases h6:(a.recv==b.recv)
 refine sr fun Z z=>?_
 simp
 apply z
 refine AT_ret ?_
 simp[Tryz.f42]
 (·simp[sameD,h1,h2,h3])
 cases h7:(eqL (·==·) a.vars b.vars)
 refine sr fun Z z=>?_
 simp
 apply z
 refine AT_ret ?_
 simp[Tryz.f42]
 (·simp[sameD,h1,h2,h3])
 cases h8:(sameG a.sig b.sig)
 refine sr fun Z z=>?_
 simp
 apply z
 refine AT_ret ?_
 simp[Tryz.f42]
 (·simp[sameD,h1,h2,h3])
 refine sr fun Z z=>?_
 simp
 apply z
 refine AT_ret ?_
 simp[Tryz.f42]
 (·simp[sameD,h1,h2,h3])
 cases h4:(eqL sameF a.flds b.flds)
 refine sr fun Z z=>?_
 simp[h1,h2]
 refine RVn_call (c_slices_EqualFunc_api_Formal_api_Formal_api_Formal_api_Formal g rnd a.fms b.fms (by have:=wtFs_len a.fms;omega) (fun x hx y _=>c_decl_sameFormal g rnd x y (by have:=wtFs_mem hx;unfold wtF at this;omega))) ?_
 simp[h3]
 repeat refine sg ?_
 refine RVn_call (c_slices_EqualFunc_api_Param_api_Param_api_Param_api_Param g rnd a.flds b.flds (by have:=wtFs_len a.flds;omega) (fun x hx y _=>c_decl_sameParam g rnd x y (by have:=wtFs_mem hx;unfold wtF at this;omega))) ?_
 simp[h4]
 repeat refine sg ?_
 apply z
 cases h5:(eqL sameG a.sigs b.sigs)
 refine sr fun Z z=>?_
 simp
 apply z
 refine AT_ret ?_
 simp[Tryz.f42]
 (·simp[sameD,h1,h2,h3,h4])
 cases h6:(a.recv==b.recv)
 refine sr fun Z z=>?_
 simp
 apply z
 refine AT_ret ?_
 simp[Tryz.f42]
 (·simp[sameD,h1,h2,h3,h4])
 cases h7:(eqL (·==·) a.vars b.vars)
 refine sr fun Z z=>?_
 simp
 apply z
 refine AT_ret ?_
 simp[Tryz.f42]
 (·simp[sameD,h1,h2,h3,h4])
 cases h8:(sameG a.sig b.sig)
 refine sr fun Z z=>?_
 simp
 apply z
 refine AT_ret ?_
 simp[Tryz.f42]
 (·simp[sameD,h1,h2,h3,h4])
 refine sr fun Z z=>?_
 simp
 apply z
 refine AT_ret ?_
 simp[Tryz.f42]
 (·simp[sameD,h1,h2,h3,h4])
 refine sr fun Z z=>?_
 simp[h1,h2]
 refine RVn_call (c_slices_EqualFunc_api_Formal_api_Formal_api_Formal_api_Formal g rnd a.fms b.fms (by have:=wtFs_len a.fms;omega) (fun x hx y _=>c_decl_sameFormal g rnd x y (by have:=wtFs_mem hx;unfold wtF at this;omega))) ?_
 simp[h3]
 repeat refine sg ?_
 refine RVn_call (c_slices_EqualFunc_api_Param_api_Param_api_Param_api_Param g rnd a.flds b.flds (by have:=wtFs_len a.flds;omega) (fun x hx y _=>c_decl_sameParam g rnd x y (by have:=wtFs_mem hx;unfold wtF at this;omega))) ?_
 simp[h4]
 repeat refine sg ?_
 apply z
 cases h5:(eqL sameG a.sigs b.sigs)
 refine sr fun Z z=>?_
 simp
 refine RVn_call (c_slices_EqualFunc_api_Sig_api_Sig_api_Sig_api_Sig g rnd a.sigs b.sigs (by have:=wtGs_len a.sigs;omega) (fun x hx y _=>c_decl_SameSig g rnd x y (by have:=wtGs_mem hx;omega))) ?_
 simp[h5]
 repeat refine sg ?_
 apply z
 refine AT_ret ?_
 simp[Tryz.f42]
 (·simp[sameD,h1,h2,h3,h4,h5])
 cases h6:(a.recv==b.recv)
 refine sr fun Z z=>?_
 simp
 refine RVn_call (c_slices_EqualFunc_api_Sig_api_Sig_api_Sig_api_Sig g rnd a.sigs b.sigs (by have:=wtGs_len a.sigs;omega) (fun x hx y _=>c_decl_SameSig g rnd x y (by have:=wtGs_mem hx;omega))) ?_
 simp[h5,h6]
 repeat refine sg ?_
 apply z
 refine AT_ret ?_
 simp[Tryz.f42]
 (·simp[sameD,h1,h2,h3,h4,h5,h6])
 cases h7:(eqL (·==·) a.vars b.vars)
 refine sr fun Z z=>?_
 simp
 refine RVn_call (c_slices_EqualFunc_api_Sig_api_Sig_api_Sig_api_Sig g rnd a.sigs b.sigs (by have:=wtGs_len a.sigs;omega) (fun x hx y _=>c_decl_SameSig g rnd x y (by have:=wtGs_mem hx;omega))) ?_
 simp[h5,h6]
 repeat refine sg ?_
 refine RVn_call (c_slices_Equal_string_string g rnd a.vars b.vars (by have:=wtSs_len a.vars;omega)) ?_
 simp[h7]
 repeat refine sg ?_
 apply z
 refine AT_ret ?_
 simp[Tryz.f42]
 (·simp[sameD,h1,h2,h3,h4,h5,h6,h7])
 cases h8:(sameG a.sig b.sig)
 refine sr fun Z z=>?_
 simp
 refine RVn_call (c_slices_EqualFunc_api_Sig_api_Sig_api_Sig_api_Sig g rnd a.sigs b.sigs (by have:=wtGs_len a.sigs;omega) (fun x hx y _=>c_decl_SameSig g rnd x y (by have:=wtGs_mem hx;omega))) ?_
 simp[h5,h6]
 repeat refine sg ?_
 refine RVn_call (c_slices_Equal_string_string g rnd a.vars b.vars (by have:=wtSs_len a.vars;omega)) ?_
 simp[h7]
 repeat refine sg ?_
 refine RVn_call (c_decl_SameSig g rnd a.sig b.sig (by omega)) ?_
 simp[h8]
 repeat refine sg ?_
 apply z
 refine AT_ret ?_
 simp[Tryz.f42]
 (·simp[sameD,h1,h2,h3,h4,h5,h6,h7,h8])
 refine sr fun Z z=>?_
 simp
 refine RVn_call (c_slices_EqualFunc_api_Sig_api_Sig_api_Sig_api_Sig g rnd a.sigs b.sigs (by have:=wtGs_len a.sigs;omega) (fun x hx y _=>c_decl_SameSig g rnd x y (by have:=wtGs_mem hx;omega))) ?_
 simp[h5,h6]
 repeat refine sg ?_
 refine RVn_call (c_slices_Equal_string_string g rnd a.vars b.vars (by have:=wtSs_len a.vars;omega)) ?_
 simp[h7]
 repeat refine sg ?_
 refine RVn_call (c_decl_SameSig g rnd a.sig b.sig (by omega)) ?_
 simp[h8]
 repeat refine sg ?_
 refine RVn_call ((by have h:=c_expr_Same g rnd a.body b.body (by omega);simp only[encE_def] at h;exact h)) ?_
 simp
 repeat refine sg ?_
 apply z
 refine AT_ret ?_
 simp[Tryz.f42]
 (·simp[sameD,h1,h2,h3,h4,h5,h6,h7,h8])

end Go.Proofs.YtfgafcjebfjepaaGreatDoor
end

section
/- Contracts: every. -/
set_option linter.all false
set_option maxHeartbeats 1000000
set_option maxRecDepth 10000
namespace Go.Proofs.YtfgafcjebfjepaaGreatDoor
open Go Go.Pv
variable (g:Nat→Option (List AV)) (rnd:Bool)

theorem c_slices_IndexFunc_api_Formal_api_Formal_q (fid:Nat) (caps:List AV) (q:Fm→Bool) (l:List Fm) (hl:l.length≤1099511627776) (hq:∀ x∈l,Valid Tryz.prog (G0 g rnd) fid ([.agg (encF x)]++caps) (.bool (q x))):Valid Tryz.prog (G0 g rnd) 147 [.slice (l.map encF),.func fid caps] (.int .i64 (idxQ q l 0)):=by

 refine valid_of [] Tryz.func147 rfl (by kernel_rfl) ?_
 refine sr fun Z z=>?_
 simp[Tryz.f147]
 apply z
 refine AT_seq_k fun K1 hK1=>?_
 refine sr fun Z z=>?_
 simp
 apply z
 refine AT_block ?_
 refine AT_loop_q [0,1,7,8] [] (fun j s=>∃ k,k≤l.length∧idxQ q l 0=idxQ q (l.drop k) k∧j=l.length - k∧s={ n:=19,tm:=[(0,.v (.slice (l.map encF)) none),(1,.v (.func fid caps) none),(7,.v (.int .i64 l.length) none),(8,.v (.int .i64 k) none)],bx:=[],tb:=[],sh:=[],hint:=[] }) (l.length) (by first|rfl|simp) ?_ ?_
 exact ⟨0,by simp⟩
 rintro j s ⟨k,hk,hc,rfl,rfl⟩ K2 hK2
 refine sr fun Z z=>?_
 simp
 apply z
 refine AT_seq_k fun K3 hK3=>?_
 refine AT_cond (g:=none) rfl (fun hb9=>?_) (fun hb9=>?_)
 simp at hb9
 refine AT_skip ?_
 refine hK3 _ ?_
 refine AT_seq_k fun K4 hK4=>?_
 refine AT_block ?_
 refine sr fun Z z=>?_
 simp[hb9]
 apply z
 refine sr fun Z z=>?_
 have hk9:k < l.length:=by omega
 have hda:=List.drop_eq_getElem_cons hk9
 simp[row_map,hb9]
 refine RVn_call (hq l[k] (by simp)) ?_
 simp
 apply z
 refine AT_cond (g:=none) rfl (fun hb16=>?_) (fun hb16=>?_)
 refine sr fun Z z=>?_
 simp[hb16]
 apply z
 refine AT_ret ?_
 simp[Tryz.f147]
 (·rw[hc,hda,idxQ,if_pos hb16])
 refine AT_skip ?_
 refine hK4 _ ?_
 refine AT_region_q fun Z z=>?_
 simp[hb16]
 repeat refine sg ?_
 apply z
 refine hK2 _ (by first|rfl|simp) (l.length - (k+1)) (by omega) ?_
 refine ⟨k+1,by omega,?_,by omega,by simp⟩
 rw[hc,hda,idxQ,if_neg (by simp[hb16])]
 simp at hb9
 refine AT_exit ?_
 refine hK1 _ ?_
 refine sr fun Z z=>?_
 simp
 apply z
 refine AT_ret ?_
 simp[Tryz.f147]
 (rw[hc,List.drop_eq_nil_of_le (by omega)];rfl)

theorem c_slices_ContainsFunc_api_Formal_api_Formal_q (fid:Nat) (caps:List AV) (q:Fm→Bool) (l:List Fm) (hl:l.length≤1099511627776) (hq:∀ x∈l,Valid Tryz.prog (G0 g rnd) fid ([.agg (encF x)]++caps) (.bool (q x))):Valid Tryz.prog (G0 g rnd) 107 [.slice (l.map encF),.func fid caps] (.bool (l.any q)):=by

 refine valid_of [] Tryz.func107 rfl (by kernel_rfl) ?_
 refine sr fun Z z=>?_
 simp[Tryz.f107]
 apply z
 refine sr fun Z z=>?_
 simp
 refine RVn_call (c_slices_IndexFunc_api_Formal_api_Formal_q g rnd fid caps q l hl hq) ?_
 simp
 apply z
 refine AT_ret ?_
 simp[Tryz.f107]
 exact idxQ_any q l 0

theorem c_decl_every_api_Formal_1 (fid:Nat) (caps:List AV) (v:Bool) (x:Fm) (hx:Valid Tryz.prog (G0 g rnd) fid ([.agg (encF x)]++caps) (.bool v)):Valid Tryz.prog (G0 g rnd) 108 [.agg (encF x),.ro [.func fid caps]] (.bool (!v)):=by

 refine valid_of [] Tryz.func108 rfl (by kernel_rfl) ?_
 refine sr fun Z z=>?_
 simp[Tryz.f108]
 apply z
 refine sr fun Z z=>?_
 simp
 refine RVn_call (hx) ?_
 simp
 apply z
 refine AT_ret ?_
 simp[Tryz.f108]

theorem c_decl_every_api_Formal (fid:Nat) (caps:List AV) (q:Fm→Bool) (l:List Fm) (hl:l.length≤1099511627776) (hq:∀ x∈l,Valid Tryz.prog (G0 g rnd) fid ([.agg (encF x)]++caps) (.bool (q x))):Valid Tryz.prog (G0 g rnd) 58 [.slice (l.map encF),.func fid caps] (.bool (l.all q)):=by

 refine valid_of [(200003,0)] Tryz.func58 rfl (by kernel_rfl) ?_
 refine sr fun Z z=>?_
 simp[Tryz.f58]
 apply z
 refine sr fun Z z=>?_
 simp
 refine RVn_call (c_slices_ContainsFunc_api_Formal_api_Formal_q g rnd 108 [.ro [.func fid caps]] (fun x=>!q x) l hl (fun x hx=>c_decl_every_api_Formal_1 g rnd fid caps (q x) x (hq x hx))) ?_
 simp
 apply z
 refine AT_ret ?_
 simp[Tryz.f58]
 simp[List.all_eq_not_any_not]

theorem c_slices_IndexFunc_api_Param_api_Param_q (fid:Nat) (caps:List AV) (q:Fm→Bool) (l:List Fm) (hl:l.length≤1099511627776) (hq:∀ x∈l,Valid Tryz.prog (G0 g rnd) fid ([.agg (encF x)]++caps) (.bool (q x))):Valid Tryz.prog (G0 g rnd) 148 [.slice (l.map encF),.func fid caps] (.int .i64 (idxQ q l 0)):=by

 refine valid_of [] Tryz.func148 rfl (by kernel_rfl) ?_
 refine sr fun Z z=>?_
 simp[Tryz.f148]
 apply z
 refine AT_seq_k fun K1 hK1=>?_
 refine sr fun Z z=>?_
 simp
 apply z
 refine AT_block ?_
 refine AT_loop_q [0,1,7,8] [] (fun j s=>∃ k,k≤l.length∧idxQ q l 0=idxQ q (l.drop k) k∧j=l.length - k∧s={ n:=19,tm:=[(0,.v (.slice (l.map encF)) none),(1,.v (.func fid caps) none),(7,.v (.int .i64 l.length) none),(8,.v (.int .i64 k) none)],bx:=[],tb:=[],sh:=[],hint:=[] }) (l.length) (by first|rfl|simp) ?_ ?_
 exact ⟨0,by simp⟩
 rintro j s ⟨k,hk,hc,rfl,rfl⟩ K2 hK2
 refine sr fun Z z=>?_
 simp
 apply z
 refine AT_seq_k fun K3 hK3=>?_
 refine AT_cond (g:=none) rfl (fun hb9=>?_) (fun hb9=>?_)
 simp at hb9
 refine AT_skip ?_
 refine hK3 _ ?_
 refine AT_seq_k fun K4 hK4=>?_
 refine AT_block ?_
 refine sr fun Z z=>?_
 simp[hb9]
 apply z
 refine sr fun Z z=>?_
 have hk9:k < l.length:=by omega
 have hda:=List.drop_eq_getElem_cons hk9
 simp[row_map,hb9]
 refine RVn_call (hq l[k] (by simp)) ?_
 simp
 apply z
 refine AT_cond (g:=none) rfl (fun hb16=>?_) (fun hb16=>?_)
 refine sr fun Z z=>?_
 simp[hb16]
 apply z
 refine AT_ret ?_
 simp[Tryz.f148]
 (·rw[hc,hda,idxQ,if_pos hb16])
 refine AT_skip ?_
 refine hK4 _ ?_
 refine AT_region_q fun Z z=>?_
 simp[hb16]
 repeat refine sg ?_
 apply z
 refine hK2 _ (by first|rfl|simp) (l.length - (k+1)) (by omega) ?_
 refine ⟨k+1,by omega,?_,by omega,by simp⟩
 rw[hc,hda,idxQ,if_neg (by simp[hb16])]
 simp at hb9
 refine AT_exit ?_
 refine hK1 _ ?_
 refine sr fun Z z=>?_
 simp
 apply z
 refine AT_ret ?_
 simp[Tryz.f148]
 (rw[hc,List.drop_eq_nil_of_le (by omega)];rfl)

theorem c_slices_ContainsFunc_api_Param_api_Param_q (fid:Nat) (caps:List AV) (q:Fm→Bool) (l:List Fm) (hl:l.length≤1099511627776) (hq:∀ x∈l,Valid Tryz.prog (G0 g rnd) fid ([.agg (encF x)]++caps) (.bool (q x))):Valid Tryz.prog (G0 g rnd) 109 [.slice (l.map encF),.func fid caps] (.bool (l.any q)):=by

 refine valid_of [] Tryz.func109 rfl (by kernel_rfl) ?_
 refine sr fun Z z=>?_
 simp[Tryz.f109]
 apply z
 refine sr fun Z z=>?_
 simp
 refine RVn_call (c_slices_IndexFunc_api_Param_api_Param_q g rnd fid caps q l hl hq) ?_
 simp
 apply z
 refine AT_ret ?_
 simp[Tryz.f109]
 exact idxQ_any q l 0

theorem c_decl_every_api_Param_1 (fid:Nat) (caps:List AV) (v:Bool) (x:Fm) (hx:Valid Tryz.prog (G0 g rnd) fid ([.agg (encF x)]++caps) (.bool v)):Valid Tryz.prog (G0 g rnd) 110 [.agg (encF x),.ro [.func fid caps]] (.bool (!v)):=by

 refine valid_of [] Tryz.func110 rfl (by kernel_rfl) ?_
 refine sr fun Z z=>?_
 simp[Tryz.f110]
 apply z
 refine sr fun Z z=>?_
 simp
 refine RVn_call (hx) ?_
 simp
 apply z
 refine AT_ret ?_
 simp[Tryz.f110]

theorem c_decl_every_api_Param (fid:Nat) (caps:List AV) (q:Fm→Bool) (l:List Fm) (hl:l.length≤1099511627776) (hq:∀ x∈l,Valid Tryz.prog (G0 g rnd) fid ([.agg (encF x)]++caps) (.bool (q x))):Valid Tryz.prog (G0 g rnd) 60 [.slice (l.map encF),.func fid caps] (.bool (l.all q)):=by

 refine valid_of [(200003,0)] Tryz.func60 rfl (by kernel_rfl) ?_
 refine sr fun Z z=>?_
 simp[Tryz.f60]
 apply z
 refine sr fun Z z=>?_
 simp
 refine RVn_call (c_slices_ContainsFunc_api_Param_api_Param_q g rnd 110 [.ro [.func fid caps]] (fun x=>!q x) l hl (fun x hx=>c_decl_every_api_Param_1 g rnd fid caps (q x) x (hq x hx))) ?_
 simp
 apply z
 refine AT_ret ?_
 simp[Tryz.f60]
 simp[List.all_eq_not_any_not]

theorem c_slices_IndexFunc_api_Sig_api_Sig_q (fid:Nat) (caps:List AV) (q:Sg→Bool) (l:List Sg) (hl:l.length≤1099511627776) (hq:∀ x∈l,Valid Tryz.prog (G0 g rnd) fid ([.agg (encG x)]++caps) (.bool (q x))):Valid Tryz.prog (G0 g rnd) 149 [.slice (l.map encG),.func fid caps] (.int .i64 (idxQ q l 0)):=by

 refine valid_of [] Tryz.func149 rfl (by kernel_rfl) ?_
 refine sr fun Z z=>?_
 simp[Tryz.f149]
 apply z
 refine AT_seq_k fun K1 hK1=>?_
 refine sr fun Z z=>?_
 simp
 apply z
 refine AT_block ?_
 refine AT_loop_q [0,1,7,8] [] (fun j s=>∃ k,k≤l.length∧idxQ q l 0=idxQ q (l.drop k) k∧j=l.length - k∧s={ n:=19,tm:=[(0,.v (.slice (l.map encG)) none),(1,.v (.func fid caps) none),(7,.v (.int .i64 l.length) none),(8,.v (.int .i64 k) none)],bx:=[],tb:=[],sh:=[],hint:=[] }) (l.length) (by first|rfl|simp) ?_ ?_
 exact ⟨0,by simp⟩
 rintro j s ⟨k,hk,hc,rfl,rfl⟩ K2 hK2
 refine sr fun Z z=>?_
 simp
 apply z
 refine AT_seq_k fun K3 hK3=>?_
 refine AT_cond (g:=none) rfl (fun hb9=>?_) (fun hb9=>?_)
 simp at hb9
 refine AT_skip ?_
 refine hK3 _ ?_
 refine AT_seq_k fun K4 hK4=>?_
 refine AT_block ?_
 refine sr fun Z z=>?_
 simp[hb9]
 apply z
 refine sr fun Z z=>?_
 have hk9:k < l.length:=by omega
 have hda:=List.drop_eq_getElem_cons hk9
 simp[row_map,hb9]
 refine RVn_call (hq l[k] (by simp)) ?_
 simp
 apply z
 refine AT_cond (g:=none) rfl (fun hb16=>?_) (fun hb16=>?_)
 refine sr fun Z z=>?_
 simp[hb16]
 apply z
 refine AT_ret ?_
 simp[Tryz.f149]
 (·rw[hc,hda,idxQ,if_pos hb16])
 refine AT_skip ?_
 refine hK4 _ ?_
 refine AT_region_q fun Z z=>?_
 simp[hb16]
 repeat refine sg ?_
 apply z
 refine hK2 _ (by first|rfl|simp) (l.length - (k+1)) (by omega) ?_
 refine ⟨k+1,by omega,?_,by omega,by simp⟩
 rw[hc,hda,idxQ,if_neg (by simp[hb16])]
 simp at hb9
 refine AT_exit ?_
 refine hK1 _ ?_
 refine sr fun Z z=>?_
 simp
 apply z
 refine AT_ret ?_
 simp[Tryz.f149]
 (rw[hc,List.drop_eq_nil_of_le (by omega)];rfl)

theorem c_slices_ContainsFunc_api_Sig_api_Sig_q (fid:Nat) (caps:List AV) (q:Sg→Bool) (l:List Sg) (hl:l.length≤1099511627776) (hq:∀ x∈l,Valid Tryz.prog (G0 g rnd) fid ([.agg (encG x)]++caps) (.bool (q x))):Valid Tryz.prog (G0 g rnd) 111 [.slice (l.map encG),.func fid caps] (.bool (l.any q)):=by

 refine valid_of [] Tryz.func111 rfl (by kernel_rfl) ?_
 refine sr fun Z z=>?_
 simp[Tryz.f111]
 apply z
 refine sr fun Z z=>?_
 simp
 refine RVn_call (c_slices_IndexFunc_api_Sig_api_Sig_q g rnd fid caps q l hl hq) ?_
 simp
 apply z
 refine AT_ret ?_
 simp[Tryz.f111]
 exact idxQ_any q l 0

theorem c_decl_every_api_Sig_1 (fid:Nat) (caps:List AV) (v:Bool) (x:Sg) (hx:Valid Tryz.prog (G0 g rnd) fid ([.agg (encG x)]++caps) (.bool v)):Valid Tryz.prog (G0 g rnd) 112 [.agg (encG x),.ro [.func fid caps]] (.bool (!v)):=by

 refine valid_of [] Tryz.func112 rfl (by kernel_rfl) ?_
 refine sr fun Z z=>?_
 simp[Tryz.f112]
 apply z
 refine sr fun Z z=>?_
 simp
 refine RVn_call (hx) ?_
 simp
 apply z
 refine AT_ret ?_
 simp[Tryz.f112]

theorem c_decl_every_api_Sig (fid:Nat) (caps:List AV) (q:Sg→Bool) (l:List Sg) (hl:l.length≤1099511627776) (hq:∀ x∈l,Valid Tryz.prog (G0 g rnd) fid ([.agg (encG x)]++caps) (.bool (q x))):Valid Tryz.prog (G0 g rnd) 62 [.slice (l.map encG),.func fid caps] (.bool (l.all q)):=by

 refine valid_of [(200003,0)] Tryz.func62 rfl (by kernel_rfl) ?_
 refine sr fun Z z=>?_
 simp[Tryz.f62]
 apply z
 refine sr fun Z z=>?_
 simp
 refine RVn_call (c_slices_ContainsFunc_api_Sig_api_Sig_q g rnd 112 [.ro [.func fid caps]] (fun x=>!q x) l hl (fun x hx=>c_decl_every_api_Sig_1 g rnd fid caps (q x) x (hq x hx))) ?_
 simp
 apply z
 refine AT_ret ?_
 simp[Tryz.f62]
 simp[List.all_eq_not_any_not]

end Go.Proofs.YtfgafcjebfjepaaGreatDoor
end

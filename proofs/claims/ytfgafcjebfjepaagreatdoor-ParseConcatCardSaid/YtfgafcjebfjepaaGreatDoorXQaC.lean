import Derived.Test.YtfgafcjebfjepaaGreatDoorPt
import Derived.Test.YtfgafcjebfjepaaGreatDoorPvPb
import Derived.Test.YtfgafcjebfjepaaGreatDoorPvLa
import Derived.Test.YtfgafcjebfjepaaGreatDoorXRdB
import Derived.Test.YtfgafcjebfjepaaGreatDoorXExA
import Derived.Test.YtfgafcjebfjepaaGreatDoorPvMc
import Derived.Test.YtfgafcjebfjepaaGreatDoorPvHe
import Derived.Test.YtfgafcjebfjepaaGreatDoorPvEb
import Derived.Test.YtfgafcjebfjepaaGreatDoorXRdE
section
/- Contracts: the reference reads expressions. -/
set_option linter.all false
set_option maxHeartbeats 1000000
set_option maxRecDepth 10000
namespace Go.Proofs.YtfgafcjebfjepaaGreatDoor
open Go Go.Pv
variable (g:Nat→Option (List AV)) (rnd:Bool)

theorem c_ref07x_args (L:List Tk) (hE:EndsT L) (hn:L.length≤1000000) (q n:Nat) (hX:∀ p,L.length - p.k < n→p.k < L.length→Valid Tryz.prog (G0 g false) 30 [.agg (encP L p)] (.tup [.agg (encP L (exprR L q p).2),.agg (encE (exprR L q p).1)])) (e:Str) (p:Pl) (hk:p.k < L.length) (hc:p.bad=false→L.length - p.k < n):Valid Tryz.prog (G0 g false) 69 [.agg (encP L p),.str e] (.tup [.agg (encP L (argsR L (exprR L q) e p).2),.slice ((argsR L (exprR L q) e p).1.map encE)]):=by

 refine valid_of [(6,29)] Tryz.func69 rfl (by kernel_rfl) ?_
 refine sr fun Z z=>?_
 simp[encP,Tryz.f69]
 apply z
 refine AT_seq_k fun K1 hK1=>?_
 cases his:p.is L e
 ·
  refine sr fun Z z=>?_
  simp
  refine RVn_call (c_ref07x_Is g L hn p hk e) ?_
  simp[his]
  apply z
  refine cF (by simp) ?_
  refine AT_skip ?_
  refine hK1 _ ?_
  refine sr fun Z z=>?_
  simp
  apply z
  refine AT_seq_k fun K2 hK2=>?_
  refine AT_block ?_
  refine AT_loop_q [1,2,4,6] [2,4] (fun j s=>∃ k acc m bd,argsR L (exprR L q) e p=(acc++(alB L (exprR L q) e m ⟨k,bd⟩).1,(alB L (exprR L q) e m ⟨k,bd⟩).2)∧(k < L.length∧L.length - k≤m∧(bd=false→L.length - k < n))∧(acc.length≤k∧(bd=true→acc=[]))∧j=m∧s={ n:=39,tm:=[(1,.v (.str e) none),(2,.lp 2 0),(4,.lp 4 0),(6,.v (.slice (acc.map encE)) (some (6,29)))],bx:=[(2,[.slice (L.map encK),.int .i64 k,.bool bd]),(4,[.slice [],.int .i64 0,.bool false])],tb:=[],sh:=[],hint:=[(6,29)] }) (L.length - p.k) (by first|rfl|simp) ?_ ?_
  ·
   refine ⟨p.k,[],L.length - p.k,p.bad,?_,⟨hk,Nat.le_refl _,hc⟩,⟨by simp,fun _=>rfl⟩,rfl,by simp⟩
   rw[argsR,his];simp[alB]
  ·
   rintro j s ⟨k,acc,m,bd,hq,⟨hk1,hk2,hk3⟩,⟨hka,hkb⟩,hjm,rfl⟩ K3 hK3
   subst hjm
   obtain ⟨m,rfl⟩:∃ i,j=i+1:=⟨j - 1,by omega⟩
   refine AT_seq_k fun K4 hK4=>?_
   cases bd
   ·
    have hk3:=hk3 rfl
    have hg:=exprR_lt hE q ⟨k,false⟩ hk1
    have hgk:k≤(exprR L q ⟨k,false⟩).2.k:=hg.1
    refine sr fun Z z=>?_
    simp
    apply z
    refine cT (by simp) ?_
    refine AT_skip ?_
    refine hK4 _ ?_
    refine AT_block ?_
    refine sr fun Z z=>?_
    simp
    apply z
    refine sr fun Z z=>?_
    simp
    refine RVn_call ((by have h:=hX ⟨k,false⟩ hk3 hk1;simpa[encP] using h)) ?_
    simp
    apply z
    refine sr fun Z z=>?_
    simp
    repeat refine sg ?_
    apply z
    refine AT_seq_k fun K5 hK5=>?_
    cases hi:(exprR L q ⟨k,false⟩).2.is L [44]
    ·
     refine sr fun Z z=>?_
     simp
     refine RVn_call ((by have h:=c_ref07x_Is g L hn (exprR L q ⟨k,false⟩).2 hg.2 [44];first|(simp only[encP,hib] at h;exact h)|exact h)) ?_
     simp[hi]
     apply z
     refine cT (by simp) ?_
     refine sr fun Z z=>?_
     simp
     refine RVn_call (c_ref07x_Must g L hn (exprR L q ⟨k,false⟩).2 hg.2 e) ?_
     simp[encP]
     apply z
     refine AT_ret ?_
     simp[encP,Tryz.f69]
     all_goals first|(· rw[hq,alB,if_neg (by simp),aloopR,hi];simp)|(· rw[hq,alB,if_pos rfl];simp[encP])|(· simp[argsR,his,encP])
    ·
     have hib:(exprR L q ⟨k,false⟩).2.bad=false:=(Pl.is_bad hi).1
     refine sr fun Z z=>?_
     simp[hib]
     refine RVn_call ((by have h:=c_ref07x_Is g L hn (exprR L q ⟨k,false⟩).2 hg.2 [44];first|(simp only[encP,hib] at h;exact h)|exact h)) ?_
     simp[hi]
     apply z
     refine cF (by simp) ?_
     refine AT_skip ?_
     refine hK5 _ ?_
     refine AT_region_q fun Z z=>?_
     simp
     repeat refine sg ?_
     apply z
     refine hK3 _ (by first|rfl|simp) (m) (by omega) ?_
     refine ⟨(exprR L q ⟨k,false⟩).2.k+1,acc++[(exprR L q ⟨k,false⟩).1],m,false,?_,⟨Pl.adv_lt hE hg.2 hi,by omega,fun _=>by omega⟩,⟨by simp;omega,fun h=>by cases h⟩,rfl,by simp⟩
     rw[hq,alB,if_neg (by simp),aloopR,if_pos hi,show (exprR L q ⟨k,false⟩).2.adv=⟨(exprR L q ⟨k,false⟩).2.k+1,false⟩ by simp[Pl.adv,hib]];simp[alB]
   ·
    obtain rfl:=hkb rfl
    refine sr fun Z z=>?_
    simp
    apply z
    refine cF (by simp) ?_
    refine AT_exit ?_
    refine hK2 _ ?_
    refine sr fun Z z=>?_
    simp
    apply z
    refine AT_ret ?_
    simp[encP,Tryz.f69]
    all_goals first|(· rw[hq,alB,if_neg (by simp),aloopR,hi];simp[encP])|(· rw[hq,alB,if_pos rfl];simp)|(· simp[argsR,his,encP])
 ·
  refine sr fun Z z=>?_
  simp
  refine RVn_call (c_ref07x_Is g L hn p hk e) ?_
  simp[his]
  apply z
  refine cT (by simp) ?_
  refine sr fun Z z=>?_
  simp
  refine RVn_call (c_ref07x_Must g L hn p hk e) ?_
  simp[encP]
  apply z
  refine AT_ret ?_
  simp[encP,Tryz.f69]
  all_goals first|(· rw[hq,alB,if_neg (by simp),aloopR,hi];simp[encP])|(· rw[hq,alB,if_pos rfl];simp[encP])|(· simp[argsR,his])

theorem c_ref07x_Expr (L:List Tk) (hE:EndsT L) (hn:L.length≤1000000) (hL:∀ t∈L,t.2.1.length≤1000000):∀ (n:Nat) (p:Pl),L.length - p.k < n→p.k < L.length→Valid Tryz.prog (G0 g false) 30 [.agg (encP L p)] (.tup [.agg (encP L (exprR L n p).2),.agg (encE (exprR L n p).1)]):=by
 intro n
 induction n with
 | zero=>intro p hc;omega
 | succ q ih=>
 intro p hc hk
 have hT:=fun p h hk=>c_ref07x_Type g L hE hn hL q p h hk
 have hnl:=Pl.name_lt hE hk
 have hnk:∀ (p:Pl) (s:Str),(p.name L).is L s=true→(p.name L).k=p.k+1:=fun p s h=>by
   have h2:=Pl.is_bad h
   unfold Pl.name at h2 ⊢
   split
   · rfl
   · rename_i h3;rw[if_neg h3] at h2;cases h2.1
 have hgl:=targsR_lt hE (typeR_lt hE q) _ hnl.2
 have hml:=Pl.must_lt hE [123] hgl.2
 have hbl:=baseR_lt hE (typeR_lt hE q) (exprR_lt hE q) p hk
 refine valid_of [(300052,0)] Tryz.func30 rfl (by kernel_rfl) ?_
 refine sr fun Z z=>?_
 simp[encP,Tryz.f30]
 apply z
 refine sr fun Z z=>?_
 simp
 apply z
 refine sr fun Z z=>?_
 simp
 refine RVn_call (c_ref07x_Name g L hn p hk hL) ?_
 simp[encP]
 apply z
 refine AT_seq_k fun K1 hK1=>?_
 cases h91:(p.name L).is L [91]
 cases h123:(p.name L).is L [123]
 refine sr fun Z z=>?_
 simp
 refine RVn_call ((by have h:=c_ref07x_Is g L hn (p.name L) hnl.2 [91];simp only[encP] at h;exact h)) ?_
 simp[h91]
 repeat refine sg ?_
 refine RVn_call ((by have h:=c_ref07x_Is g L hn (p.name L) hnl.2 [123];simp only[encP] at h;exact h)) ?_
 simp[h123]
 repeat refine sg ?_
 apply z
 refine cF (by simp) ?_
 refine AT_skip ?_
 refine hK1 _ ?_
 refine AT_seq_k fun K2 hK2=>?_
 refine AT_block ?_
 refine AT_loop_q [1,2,3,4] [1,2,3,4] (fun j s=>∃ e u m,dotsR L (restR L (typeR L q) (exprR L q)) (L.length - (baseR L (typeR L q) (exprR L q) p).2.k) (baseR L (typeR L q) (exprR L q) p).1 (baseR L (typeR L q) (exprR L q) p).2=dotsR L (restR L (typeR L q) (exprR L q)) m e u∧(u.k < L.length∧L.length - u.k≤m∧L.length - u.k≤q)∧j=m∧s={ n:=115,tm:=[(1,.lp 1 0),(2,.lp 2 0),(3,.lp 3 0),(4,.lp 4 0)],bx:=[(1,encP L u),(2,[.slice [],.int .i64 0,.bool false]),(3,[.int .i64 0,.str [],.str [],.slice [],.int .i64 0,.slice [],.slice [],.int .i64 0]),(4,encE e)],tb:=[],sh:=[],hint:=[(300052,0)] }) (L.length - (baseR L (typeR L q) (exprR L q) p).2.k) (by first|rfl|simp) ?_ ?_
 refine ⟨(baseR L (typeR L q) (exprR L q) p).1,(baseR L (typeR L q) (exprR L q) p).2,L.length - (baseR L (typeR L q) (exprR L q) p).2.k,rfl,⟨hbl.2,Nat.le_refl _,by omega⟩,rfl,?_⟩
 (· simp[baseR,h91,h123,encE_mk,ty0,encP])
 rintro j s ⟨e,u,m,hq,⟨hk1,hk2,hk3⟩,hjm,rfl⟩ K3 hK3
 subst hjm
 obtain ⟨m,rfl⟩:∃ i,j=i+1:=⟨j - 1,by omega⟩
 refine AT_seq_k fun K4 hK4=>?_
 cases hdot:u.is L [46]
 refine sr fun Z z=>?_
 simp[encP]
 refine RVn_call ((by have h:=c_ref07x_Is g L hn u hk1 [46];simp only[encP] at h;exact h)) ?_
 simp[hdot]
 apply z
 refine cF (by simp) ?_
 refine AT_exit ?_
 refine hK2 _ ?_
 refine AT_seq_draw_m false [(1,1),(2,2),(3,3),(4,4)] Pt.mixed (by kernel_rfl) ⟨by simp[Im,okP,AS.get,TV.strip],fun h=>by cases h⟩ fun Z z=>?_
 simp
 apply z
 refine AT_ret ?_
 simp[encP,Tryz.f30]
 rw[exprR,hq,dotsR,if_neg (by simp[hdot])];simp
 have hub:=(Pl.is_bad hdot).1
 have hkv:u.k+1 < L.length:=Pl.adv_lt hE hk1 hdot
 have hvr:row (L.map encK) (u.k+1)=encK (hdK L (⟨u.k+1,false⟩:Pl)):=row_hdK (p:=(⟨u.k+1,false⟩:Pl)) hkv
 have hvn:=Pl.name_lt hE (p:=(⟨u.k+1,false⟩:Pl)) hkv
 have hvg:=targsR_lt hE (typeR_lt hE q) _ hvn.2
 have hvm:=Pl.must_lt hE [40] hvg.2
 have hvk:u.k+1≤(Pl.name L (⟨u.k+1,false⟩:Pl)).k:=hvn.1
 have hvc:=argsR_count (L:=L) (exprR L q) [41] ((targsR L (typeR L q) (Pl.name L (⟨u.k+1,false⟩:Pl))).2.must L [40])
 refine sr fun Z z=>?_
 simp[encP]
 refine RVn_call ((by have h:=c_ref07x_Is g L hn u hk1 [46];simp only[encP] at h;exact h)) ?_
 simp[hdot]
 apply z
 refine cT (by simp) ?_
 refine AT_skip ?_
 refine hK4 _ ?_
 refine AT_block ?_
 refine sr fun Z z=>?_
 simp[hub]
 repeat refine sg ?_
 apply z
 refine sr fun Z z=>?_
 simp
 apply z
 refine AT_seq_k fun K5 hK5=>?_
 cases h40:(⟨u.k+1,false⟩:Pl).is L [40]
 refine sr fun Z z=>?_
 simp
 refine RVn_call ((by have h:=c_ref07x_Is g L hn (⟨u.k+1,false⟩:Pl) hkv [40];simpa[encP] using h)) ?_
 simp[h40]
 apply z
 refine cF (by simp) ?_
 refine AT_skip ?_
 refine hK5 _ ?_
 refine sr fun Z z=>?_
 simp
 apply z
 refine sr fun Z z=>?_
 simp
 refine RVn_call ((by have h:=c_ref07x_Name g L hn (⟨u.k+1,false⟩:Pl) hkv hL;simpa[encP] using h)) ?_
 simp
 apply z
 refine AT_seq_k fun K6 hK6=>?_
 cases g91:(Pl.name L (⟨u.k+1,false⟩:Pl)).is L [91]
 cases g40:(Pl.name L (⟨u.k+1,false⟩:Pl)).is L [40]
 refine sr fun Z z=>?_
 simp
 refine RVn_call ((by have h:=c_ref07x_Is g L hn (Pl.name L (⟨u.k+1,false⟩:Pl)) hvn.2 [91];simp only[encP] at h;exact h)) ?_
 simp[g91]
 repeat refine sg ?_
 refine RVn_call ((by have h:=c_ref07x_Is g L hn (Pl.name L (⟨u.k+1,false⟩:Pl)) hvn.2 [40];simp only[encP] at h;exact h)) ?_
 simp[g40]
 repeat refine sg ?_
 apply z
 refine cF (by simp) ?_
 refine AT_skip ?_
 refine hK6 _ ?_
 first|(refine AT_str (Gives.weakX 5 6 rfl rfl) ?_;simp only[List.set_cons_succ,List.set_cons_zero])|skip
 refine AT_region_q fun Z z=>?_
 simp
 apply z
 refine hK3 _ (by first|rfl|simp) (m) (by omega) ?_
 have hr:=restR_lt hE (typeR_lt hE q) (exprR_lt hE q) e (⟨u.k+1,false⟩:Pl) hkv
 have hr1:u.k+1≤((restR L (typeR L q) (exprR L q)) e (⟨u.k+1,false⟩:Pl)).2.k:=hr.1
 refine ⟨((restR L (typeR L q) (exprR L q)) e (⟨u.k+1,false⟩:Pl)).1,((restR L (typeR L q) (exprR L q)) e (⟨u.k+1,false⟩:Pl)).2,m,?_,⟨hr.2,by omega,by omega⟩,rfl,?_⟩
 · rw[hq,dotsR,if_pos hdot,show u.adv=(⟨u.k+1,false⟩:Pl) by simp[Pl.adv,hub]]
 · first
   | (· simp[restR,h40,encP])
   | (· simp[restR,h40,g91,g40,encE_mk,encP,ty0])
   | (· simp[restR,h40,g91,Pl.adv,encE_mk,encTy_def,encP,ty0])
   | (· simp[restR,h40,g40,Pl.adv,encE_mk,encTy_def,encP,ty0])
 refine sr fun Z z=>?_
 simp
 refine RVn_call ((by have h:=c_ref07x_Is g L hn (Pl.name L (⟨u.k+1,false⟩:Pl)) hvn.2 [91];simp only[encP] at h;exact h)) ?_
 simp[g91]
 repeat refine sg ?_
 refine RVn_call ((by have h:=c_ref07x_Is g L hn (Pl.name L (⟨u.k+1,false⟩:Pl)) hvn.2 [40];simp only[encP] at h;exact h)) ?_
 simp[g40]
 repeat refine sg ?_
 apply z
 refine cT (by simp) ?_
 refine sr fun Z z=>?_
 simp
 apply z
 refine sr fun Z z=>?_
 simp
 refine RVn_call ((by have h:=c_ref07x_targs g L hE hn q q hT (Pl.name L (⟨u.k+1,false⟩:Pl)) hvn.2 (fun h=>by have:(Pl.name L (⟨u.k+1,false⟩:Pl)).adv.k=(Pl.name L (⟨u.k+1,false⟩:Pl)).k+1:=rfl;omega);simp only[encP] at h;exact h)) ?_
 simp
 apply z
 refine sr fun Z z=>?_
 simp
 refine RVn_call ((by have h:=c_ref07x_Must g L hn (targsR L (typeR L q) (Pl.name L (⟨u.k+1,false⟩:Pl))).2 hvg.2 [40];simp only[encP] at h;exact h)) ?_
 simp
 apply z
 refine sr fun Z z=>?_
 simp
 apply z
 refine sr fun Z z=>?_
 simp
 refine RVn_call ((by have h:=c_ref07x_args g L hE hn q q ih [41] ((targsR L (typeR L q) (Pl.name L (⟨u.k+1,false⟩:Pl))).2.must L [40]) hvm.2 (fun _=>by omega);simp only[encP] at h;exact h)) ?_
 simp
 apply z
 refine AT_region_q fun Z z=>?_
 simp
 repeat refine sg ?_
 apply z
 refine hK6 _ ?_
 first|(refine AT_str (Gives.weakX 5 6 rfl rfl) ?_;simp only[List.set_cons_succ,List.set_cons_zero])|skip
 refine AT_region_q fun Z z=>?_
 simp
 apply z
 refine hK3 _ (by first|rfl|simp) (m) (by omega) ?_
 have hr:=restR_lt hE (typeR_lt hE q) (exprR_lt hE q) e (⟨u.k+1,false⟩:Pl) hkv
 have hr1:u.k+1≤((restR L (typeR L q) (exprR L q)) e (⟨u.k+1,false⟩:Pl)).2.k:=hr.1
 refine ⟨((restR L (typeR L q) (exprR L q)) e (⟨u.k+1,false⟩:Pl)).1,((restR L (typeR L q) (exprR L q)) e (⟨u.k+1,false⟩:Pl)).2,m,?_,⟨hr.2,by omega,by omega⟩,rfl,?_⟩
 · rw[hq,dotsR,if_pos hdot,show u.adv=(⟨u.k+1,false⟩:Pl) by simp[Pl.adv,hub]]
 · first
   | (· simp[restR,h40,encP])
   | (· simp[restR,h40,g91,g40,encE_mk,encP,ty0])
   | (· simp[restR,h40,g91,Pl.adv,encE_mk,encTy_def,encP,ty0])
   | (· simp[restR,h40,g40,Pl.adv,encE_mk,encTy_def,encP,ty0])
 refine sr fun Z z=>?_
 simp
 refine RVn_call ((by have h:=c_ref07x_Is g L hn (Pl.name L (⟨u.k+1,false⟩:Pl)) hvn.2 [91];simp only[encP] at h;exact h)) ?_
 simp[g91]
 repeat refine sg ?_
 apply z
 refine cT (by simp) ?_
 refine sr fun Z z=>?_
 simp
 apply z
 refine sr fun Z z=>?_
 simp
 refine RVn_call ((by have h:=c_ref07x_targs g L hE hn q q hT (Pl.name L (⟨u.k+1,false⟩:Pl)) hvn.2 (fun h=>by have:(Pl.name L (⟨u.k+1,false⟩:Pl)).adv.k=(Pl.name L (⟨u.k+1,false⟩:Pl)).k+1:=rfl;omega);simp only[encP] at h;exact h)) ?_
 simp
 apply z
 refine sr fun Z z=>?_
 simp
 refine RVn_call ((by have h:=c_ref07x_Must g L hn (targsR L (typeR L q) (Pl.name L (⟨u.k+1,false⟩:Pl))).2 hvg.2 [40];simp only[encP] at h;exact h)) ?_
 simp
 apply z
 refine sr fun Z z=>?_
 simp
 apply z
 refine sr fun Z z=>?_
 simp
 refine RVn_call ((by have h:=c_ref07x_args g L hE hn q q ih [41] ((targsR L (typeR L q) (Pl.name L (⟨u.k+1,false⟩:Pl))).2.must L [40]) hvm.2 (fun _=>by omega);simp only[encP] at h;exact h)) ?_
 simp
 apply z
 refine AT_region_q fun Z z=>?_
 simp
 repeat refine sg ?_
 apply z
 refine hK6 _ ?_
 first|(refine AT_str (Gives.weakX 5 6 rfl rfl) ?_;simp only[List.set_cons_succ,List.set_cons_zero])|skip
 refine AT_region_q fun Z z=>?_
 simp
 apply z
 refine hK3 _ (by first|rfl|simp) (m) (by omega) ?_
 have hr:=restR_lt hE (typeR_lt hE q) (exprR_lt hE q) e (⟨u.k+1,false⟩:Pl) hkv
 have hr1:u.k+1≤((restR L (typeR L q) (exprR L q)) e (⟨u.k+1,false⟩:Pl)).2.k:=hr.1
 refine ⟨((restR L (typeR L q) (exprR L q)) e (⟨u.k+1,false⟩:Pl)).1,((restR L (typeR L q) (exprR L q)) e (⟨u.k+1,false⟩:Pl)).2,m,?_,⟨hr.2,by omega,by omega⟩,rfl,?_⟩
 · rw[hq,dotsR,if_pos hdot,show u.adv=(⟨u.k+1,false⟩:Pl) by simp[Pl.adv,hub]]
 · first
   | (· simp[restR,h40,encP])
   | (· simp[restR,h40,g91,g40,Pl.adv,encE_mk,encTy_def,encP,ty0])
   | (· simp[restR,h40,g91,encE_mk,encP,ty0])
   | (· simp[restR,h40,g40,Pl.adv,encE_mk,encTy_def,encP,ty0])
 have hk2v:u.k+1+1 < L.length:=Pl.adv_lt hE (p:=(⟨u.k+1,false⟩:Pl)) hkv h40
 have htv:=typeR_lt hE q (⟨u.k+1+1,false⟩:Pl) hk2v
 refine sr fun Z z=>?_
 simp
 refine RVn_call ((by have h:=c_ref07x_Is g L hn (⟨u.k+1,false⟩:Pl) hkv [40];simpa[encP] using h)) ?_
 simp[h40]
 apply z
 refine cT (by simp) ?_
 refine AT_str (Gives.weakX 5 6 rfl rfl) ?_
 simp only[List.set_cons_succ,List.set_cons_zero]
 refine sr fun Z z=>?_
 simp
 apply z
 refine sr fun Z z=>?_
 simp[hvr,encK]
 repeat refine sg ?_
 apply z
 refine sr fun Z z=>?_
 simp
 repeat refine sg ?_
 apply z
 refine sr fun Z z=>?_
 simp
 refine RVn_call ((by have h:=c_ref07x_Type g L hE hn hL q (⟨u.k+1+1,false⟩:Pl) (by show L.length - (u.k+1+1) < q;omega) hk2v;simpa[encP] using h)) ?_
 simp[encTy_def]
 apply z
 refine sr fun Z z=>?_
 simp
 refine RVn_call ((by have h:=c_ref07x_Must g L hn (typeR L q (⟨u.k+1+1,false⟩:Pl)).2 htv.2 [41];simp only[encP] at h;exact h)) ?_
 simp
 apply z
 refine sr fun Z z=>?_
 simp
 apply z
 refine AT_exit ?_
 refine hK3 _ (by first|rfl|simp) (m) (by omega) ?_
 have hr:=restR_lt hE (typeR_lt hE q) (exprR_lt hE q) e (⟨u.k+1,false⟩:Pl) hkv
 have hr1:u.k+1≤((restR L (typeR L q) (exprR L q)) e (⟨u.k+1,false⟩:Pl)).2.k:=hr.1
 refine ⟨((restR L (typeR L q) (exprR L q)) e (⟨u.k+1,false⟩:Pl)).1,((restR L (typeR L q) (exprR L q)) e (⟨u.k+1,false⟩:Pl)).2,m,?_,⟨hr.2,by omega,by omega⟩,rfl,?_⟩
 · rw[hq,dotsR,if_pos hdot,show u.adv=(⟨u.k+1,false⟩:Pl) by simp[Pl.adv,hub]]
 · first
   | (· simp[restR,h40,Pl.adv,encE_mk,encP])
   | (· simp[restR,h40,g91,g40,Pl.adv,encE_mk,encTy_def,encP,ty0])
   | (· simp[restR,h40,g91,Pl.adv,encE_mk,encTy_def,encP,ty0])
   | (· simp[restR,h40,g40,Pl.adv,encE_mk,encTy_def,encP,ty0])
 have hnq:=hnk p _ h123
 have hbd:=(Pl.is_bad h123).1
 refine sr fun Z z=>?_
 simp
 refine RVn_call ((by have h:=c_ref07x_Is g L hn (p.name L) hnl.2 [91];simp only[encP] at h;exact h)) ?_
 simp[h91]
 repeat refine sg ?_
 refine RVn_call ((by have h:=c_ref07x_Is g L hn (p.name L) hnl.2 [123];simp only[encP] at h;exact h)) ?_
 simp[h123]
 repeat refine sg ?_
 apply z
 refine cT (by simp) ?_
 refine sr fun Z z=>?_
 simp
 apply z
 refine sr fun Z z=>?_
 simp
 refine RVn_call ((by have h:=c_ref07x_targs g L hE hn q q hT (p.name L) hnl.2 (fun h=>by have:(p.name L).adv.k=(p.name L).k+1:=rfl;omega);simp only[encP] at h;exact h)) ?_
 simp
 apply z
 refine sr fun Z z=>?_
 simp
 refine RVn_call ((by have h:=c_ref07x_Must g L hn (targsR L (typeR L q) (p.name L)).2 hgl.2 [123];simp only[encP] at h;exact h)) ?_
 simp
 apply z
 refine AT_region_q fun Z z=>?_
 simp
 refine RVn_call ((by have h:=c_ref07x_args g L hE hn q q ih [125] ((targsR L (typeR L q) (p.name L)).2.must L [123]) hml.2 (fun _=>by omega);simp only[encP] at h;exact h)) ?_
 simp
 apply z
 refine hK1 _ ?_
 refine AT_seq_k fun K7 hK7=>?_
 refine AT_block ?_
 refine AT_loop_q [1,2,3,4] [1,2,3,4] (fun j s=>∃ e u m,dotsR L (restR L (typeR L q) (exprR L q)) (L.length - (baseR L (typeR L q) (exprR L q) p).2.k) (baseR L (typeR L q) (exprR L q) p).1 (baseR L (typeR L q) (exprR L q) p).2=dotsR L (restR L (typeR L q) (exprR L q)) m e u∧(u.k < L.length∧L.length - u.k≤m∧L.length - u.k≤q)∧j=m∧s={ n:=115,tm:=[(1,.lp 1 0),(2,.lp 2 0),(3,.lp 3 0),(4,.lp 4 0)],bx:=[(1,encP L u),(2,[.slice [],.int .i64 0,.bool false]),(3,[.int .i64 0,.str [],.str [],.slice [],.int .i64 0,.slice [],.slice [],.int .i64 0]),(4,encE e)],tb:=[],sh:=[],hint:=[(300052,0)] }) (L.length - (baseR L (typeR L q) (exprR L q) p).2.k) (by first|rfl|simp) ?_ ?_
 refine ⟨(baseR L (typeR L q) (exprR L q) p).1,(baseR L (typeR L q) (exprR L q) p).2,L.length - (baseR L (typeR L q) (exprR L q) p).2.k,rfl,⟨hbl.2,Nat.le_refl _,by omega⟩,rfl,?_⟩
 (· simp[baseR,h91,h123,encE_mk,encP])
 rintro j s ⟨e,u,m,hq,⟨hk1,hk2,hk3⟩,hjm,rfl⟩ K8 hK8
 subst hjm
 obtain ⟨m,rfl⟩:∃ i,j=i+1:=⟨j - 1,by omega⟩
 refine AT_seq_k fun K9 hK9=>?_
 cases hdot:u.is L [46]
 refine sr fun Z z=>?_
 simp[encP]
 refine RVn_call ((by have h:=c_ref07x_Is g L hn u hk1 [46];simp only[encP] at h;exact h)) ?_
 simp[hdot]
 apply z
 refine cF (by simp) ?_
 refine AT_exit ?_
 refine hK7 _ ?_
 refine AT_seq_draw_m false [(1,1),(2,2),(3,3),(4,4)] Pt.mixed (by kernel_rfl) ⟨by simp[Im,okP,AS.get,TV.strip],fun h=>by cases h⟩ fun Z z=>?_
 simp
 apply z
 refine AT_ret ?_
 simp[encP,Tryz.f30]
 rw[exprR,hq,dotsR,if_neg (by simp[hdot])];simp
 have hub:=(Pl.is_bad hdot).1
 have hkv:u.k+1 < L.length:=Pl.adv_lt hE hk1 hdot
 have hvr:row (L.map encK) (u.k+1)=encK (hdK L (⟨u.k+1,false⟩:Pl)):=row_hdK (p:=(⟨u.k+1,false⟩:Pl)) hkv
 have hvn:=Pl.name_lt hE (p:=(⟨u.k+1,false⟩:Pl)) hkv
 have hvg:=targsR_lt hE (typeR_lt hE q) _ hvn.2
 have hvm:=Pl.must_lt hE [40] hvg.2
 have hvk:u.k+1≤(Pl.name L (⟨u.k+1,false⟩:Pl)).k:=hvn.1
 have hvc:=argsR_count (L:=L) (exprR L q) [41] ((targsR L (typeR L q) (Pl.name L (⟨u.k+1,false⟩:Pl))).2.must L [40])
 refine sr fun Z z=>?_
 simp[encP]
 refine RVn_call ((by have h:=c_ref07x_Is g L hn u hk1 [46];simp only[encP] at h;exact h)) ?_
 simp[hdot]
 apply z
 refine cT (by simp) ?_
 refine AT_skip ?_
 refine hK9 _ ?_
 refine AT_block ?_
 refine sr fun Z z=>?_
 simp[hub]
 repeat refine sg ?_
 apply z
 refine sr fun Z z=>?_
 simp
 apply z
 refine AT_seq_k fun K10 hK10=>?_
 cases h40:(⟨u.k+1,false⟩:Pl).is L [40]
 refine sr fun Z z=>?_
 simp
 refine RVn_call ((by have h:=c_ref07x_Is g L hn (⟨u.k+1,false⟩:Pl) hkv [40];simpa[encP] using h)) ?_
 simp[h40]
 apply z
 refine cF (by simp) ?_
 refine AT_skip ?_
 refine hK10 _ ?_
 refine sr fun Z z=>?_
 simp
 apply z
 refine sr fun Z z=>?_
 simp
 refine RVn_call ((by have h:=c_ref07x_Name g L hn (⟨u.k+1,false⟩:Pl) hkv hL;simpa[encP] using h)) ?_
 simp
 apply z
 refine AT_seq_k fun K11 hK11=>?_
 cases g91:(Pl.name L (⟨u.k+1,false⟩:Pl)).is L [91]
 cases g40:(Pl.name L (⟨u.k+1,false⟩:Pl)).is L [40]
 refine sr fun Z z=>?_
 simp
 refine RVn_call ((by have h:=c_ref07x_Is g L hn (Pl.name L (⟨u.k+1,false⟩:Pl)) hvn.2 [91];simp only[encP] at h;exact h)) ?_
 simp[g91]
 repeat refine sg ?_
 refine RVn_call ((by have h:=c_ref07x_Is g L hn (Pl.name L (⟨u.k+1,false⟩:Pl)) hvn.2 [40];simp only[encP] at h;exact h)) ?_
 simp[g40]
 repeat refine sg ?_
 apply z
 refine cF (by simp) ?_
 refine AT_skip ?_
 refine hK11 _ ?_
 first|(refine AT_str (Gives.weakX 5 6 rfl rfl) ?_;simp only[List.set_cons_succ,List.set_cons_zero])|skip
 refine AT_region_q fun Z z=>?_
 simp
 apply z
 refine hK8 _ (by first|rfl|simp) (m) (by omega) ?_
 have hr:=restR_lt hE (typeR_lt hE q) (exprR_lt hE q) e (⟨u.k+1,false⟩:Pl) hkv
 have hr1:u.k+1≤((restR L (typeR L q) (exprR L q)) e (⟨u.k+1,false⟩:Pl)).2.k:=hr.1
 refine ⟨((restR L (typeR L q) (exprR L q)) e (⟨u.k+1,false⟩:Pl)).1,((restR L (typeR L q) (exprR L q)) e (⟨u.k+1,false⟩:Pl)).2,m,?_,⟨hr.2,by omega,by omega⟩,rfl,?_⟩
 · rw[hq,dotsR,if_pos hdot,show u.adv=(⟨u.k+1,false⟩:Pl) by simp[Pl.adv,hub]]
 · first
   | (· simp[restR,h40,encP])
   | (· simp[restR,h40,g91,g40,encE_mk,encP,ty0])
   | (· simp[restR,h40,g91,Pl.adv,encE_mk,encTy_def,encP,ty0])
   | (· simp[restR,h40,g40,Pl.adv,encE_mk,encTy_def,encP,ty0])
 refine sr fun Z z=>?_
 simp
 refine RVn_call ((by have h:=c_ref07x_Is g L hn (Pl.name L (⟨u.k+1,false⟩:Pl)) hvn.2 [91];simp only[encP] at h;exact h)) ?_
 simp[g91]
 repeat refine sg ?_
 refine RVn_call ((by have h:=c_ref07x_Is g L hn (Pl.name L (⟨u.k+1,false⟩:Pl)) hvn.2 [40];simp only[encP] at h;exact h)) ?_
 simp[g40]
 repeat refine sg ?_
 apply z
 refine cT (by simp) ?_
 refine sr fun Z z=>?_
 simp
 apply z
 refine sr fun Z z=>?_
 simp
 refine RVn_call ((by have h:=c_ref07x_targs g L hE hn q q hT (Pl.name L (⟨u.k+1,false⟩:Pl)) hvn.2 (fun h=>by have:(Pl.name L (⟨u.k+1,false⟩:Pl)).adv.k=(Pl.name L (⟨u.k+1,false⟩:Pl)).k+1:=rfl;omega);simp only[encP] at h;exact h)) ?_
 simp
 apply z
 refine sr fun Z z=>?_
 simp
 refine RVn_call ((by have h:=c_ref07x_Must g L hn (targsR L (typeR L q) (Pl.name L (⟨u.k+1,false⟩:Pl))).2 hvg.2 [40];simp only[encP] at h;exact h)) ?_
 simp
 apply z
 refine sr fun Z z=>?_
 simp
 apply z
 refine sr fun Z z=>?_
 simp
 refine RVn_call ((by have h:=c_ref07x_args g L hE hn q q ih [41] ((targsR L (typeR L q) (Pl.name L (⟨u.k+1,false⟩:Pl))).2.must L [40]) hvm.2 (fun _=>by omega);simp only[encP] at h;exact h)) ?_
 simp
 apply z
 refine AT_region_q fun Z z=>?_
 simp
 repeat refine sg ?_
 apply z
 refine hK11 _ ?_
 first|(refine AT_str (Gives.weakX 5 6 rfl rfl) ?_;simp only[List.set_cons_succ,List.set_cons_zero])|skip
 refine AT_region_q fun Z z=>?_
 simp
 apply z
 refine hK8 _ (by first|rfl|simp) (m) (by omega) ?_
 have hr:=restR_lt hE (typeR_lt hE q) (exprR_lt hE q) e (⟨u.k+1,false⟩:Pl) hkv
 have hr1:u.k+1≤((restR L (typeR L q) (exprR L q)) e (⟨u.k+1,false⟩:Pl)).2.k:=hr.1
 refine ⟨((restR L (typeR L q) (exprR L q)) e (⟨u.k+1,false⟩:Pl)).1,((restR L (typeR L q) (exprR L q)) e (⟨u.k+1,false⟩:Pl)).2,m,?_,⟨hr.2,by omega,by omega⟩,rfl,?_⟩
 · rw[hq,dotsR,if_pos hdot,show u.adv=(⟨u.k+1,false⟩:Pl) by simp[Pl.adv,hub]]
 · first
   | (· simp[restR,h40,encP])
   | (· simp[restR,h40,g91,g40,encE_mk,encP,ty0])
   | (· simp[restR,h40,g91,Pl.adv,encE_mk,encTy_def,encP,ty0])
   | (· simp[restR,h40,g40,Pl.adv,encE_mk,encTy_def,encP,ty0])
 refine sr fun Z z=>?_
 simp
 refine RVn_call ((by have h:=c_ref07x_Is g L hn (Pl.name L (⟨u.k+1,false⟩:Pl)) hvn.2 [91];simp only[encP] at h;exact h)) ?_
 simp[g91]
 repeat refine sg ?_
 apply z
 refine cT (by simp) ?_
 refine sr fun Z z=>?_
 simp
 apply z
 refine sr fun Z z=>?_
 simp
 refine RVn_call ((by have h:=c_ref07x_targs g L hE hn q q hT (Pl.name L (⟨u.k+1,false⟩:Pl)) hvn.2 (fun h=>by have:(Pl.name L (⟨u.k+1,false⟩:Pl)).adv.k=(Pl.name L (⟨u.k+1,false⟩:Pl)).k+1:=rfl;omega);simp only[encP] at h;exact h)) ?_
 simp
 apply z
 refine sr fun Z z=>?_
 simp
 refine RVn_call ((by have h:=c_ref07x_Must g L hn (targsR L (typeR L q) (Pl.name L (⟨u.k+1,false⟩:Pl))).2 hvg.2 [40];simp only[encP] at h;exact h)) ?_
 simp
 apply z
 refine sr fun Z z=>?_
 simp
 apply z
 refine sr fun Z z=>?_
 simp
 refine RVn_call ((by have h:=c_ref07x_args g L hE hn q q ih [41] ((targsR L (typeR L q) (Pl.name L (⟨u.k+1,false⟩:Pl))).2.must L [40]) hvm.2 (fun _=>by omega);simp only[encP] at h;exact h)) ?_
 simp
 apply z
 refine AT_region_q fun Z z=>?_
 simp
 repeat refine sg ?_
 apply z
 refine hK11 _ ?_
 first|(refine AT_str (Gives.weakX 5 6 rfl rfl) ?_;simp only[List.set_cons_succ,List.set_cons_zero])|skip
 refine AT_region_q fun Z z=>?_
 simp
 apply z
 refine hK8 _ (by first|rfl|simp) (m) (by omega) ?_
 have hr:=restR_lt hE (typeR_lt hE q) (exprR_lt hE q) e (⟨u.k+1,false⟩:Pl) hkv
 have hr1:u.k+1≤((restR L (typeR L q) (exprR L q)) e (⟨u.k+1,false⟩:Pl)).2.k:=hr.1
 refine ⟨((restR L (typeR L q) (exprR L q)) e (⟨u.k+1,false⟩:Pl)).1,((restR L (typeR L q) (exprR L q)) e (⟨u.k+1,false⟩:Pl)).2,m,?_,⟨hr.2,by omega,by omega⟩,rfl,?_⟩
 · rw[hq,dotsR,if_pos hdot,show u.adv=(⟨u.k+1,false⟩:Pl) by simp[Pl.adv,hub]]
 · first
   | (· simp[restR,h40,encP])
   | (· simp[restR,h40,g91,g40,Pl.adv,encE_mk,encTy_def,encP,ty0])
   | (· simp[restR,h40,g91,encE_mk,encP,ty0])
   | (· simp[restR,h40,g40,Pl.adv,encE_mk,encTy_def,encP,ty0])
 have hk2v:u.k+1+1 < L.length:=Pl.adv_lt hE (p:=(⟨u.k+1,false⟩:Pl)) hkv h40
 have htv:=typeR_lt hE q (⟨u.k+1+1,false⟩:Pl) hk2v
 refine sr fun Z z=>?_
 simp
 refine RVn_call ((by have h:=c_ref07x_Is g L hn (⟨u.k+1,false⟩:Pl) hkv [40];simpa[encP] using h)) ?_
 simp[h40]
 apply z
 refine cT (by simp) ?_
 refine AT_str (Gives.weakX 5 6 rfl rfl) ?_
 simp only[List.set_cons_succ,List.set_cons_zero]
 refine sr fun Z z=>?_
 simp
 apply z
 refine sr fun Z z=>?_
 simp[hvr,encK]
 repeat refine sg ?_
 apply z
 refine sr fun Z z=>?_
 simp
 repeat refine sg ?_
 apply z
 refine sr fun Z z=>?_
 simp
 refine RVn_call ((by have h:=c_ref07x_Type g L hE hn hL q (⟨u.k+1+1,false⟩:Pl) (by show L.length - (u.k+1+1) < q;omega) hk2v;simpa[encP] using h)) ?_
 simp[encTy_def]
 apply z
 refine sr fun Z z=>?_
 simp
 refine RVn_call ((by have h:=c_ref07x_Must g L hn (typeR L q (⟨u.k+1+1,false⟩:Pl)).2 htv.2 [41];simp only[encP] at h;exact h)) ?_
 simp
 apply z
 refine sr fun Z z=>?_
 simp
 apply z
 refine AT_exit ?_
 refine hK8 _ (by first|rfl|simp) (m) (by omega) ?_
 have hr:=restR_lt hE (typeR_lt hE q) (exprR_lt hE q) e (⟨u.k+1,false⟩:Pl) hkv
 have hr1:u.k+1≤((restR L (typeR L q) (exprR L q)) e (⟨u.k+1,false⟩:Pl)).2.k:=hr.1
 refine ⟨((restR L (typeR L q) (exprR L q)) e (⟨u.k+1,false⟩:Pl)).1,((restR L (typeR L q) (exprR L q)) e (⟨u.k+1,false⟩:Pl)).2,m,?_,⟨hr.2,by omega,by omega⟩,rfl,?_⟩
 · rw[hq,dotsR,if_pos hdot,show u.adv=(⟨u.k+1,false⟩:Pl) by simp[Pl.adv,hub]]
 · first
   | (· simp[restR,h40,Pl.adv,encE_mk,encP])
   | (· simp[restR,h40,g91,g40,Pl.adv,encE_mk,encTy_def,encP,ty0])
   | (· simp[restR,h40,g91,Pl.adv,encE_mk,encTy_def,encP,ty0])
   | (· simp[restR,h40,g40,Pl.adv,encE_mk,encTy_def,encP,ty0])
 have hnq:=hnk p _ h91
 have hbd:=(Pl.is_bad h91).1
 refine sr fun Z z=>?_
 simp
 refine RVn_call ((by have h:=c_ref07x_Is g L hn (p.name L) hnl.2 [91];simp only[encP] at h;exact h)) ?_
 simp[h91]
 repeat refine sg ?_
 apply z
 refine cT (by simp) ?_
 refine sr fun Z z=>?_
 simp
 apply z
 refine sr fun Z z=>?_
 simp
 refine RVn_call ((by have h:=c_ref07x_targs g L hE hn q q hT (p.name L) hnl.2 (fun h=>by have:(p.name L).adv.k=(p.name L).k+1:=rfl;omega);simp only[encP] at h;exact h)) ?_
 simp
 apply z
 refine sr fun Z z=>?_
 simp
 refine RVn_call ((by have h:=c_ref07x_Must g L hn (targsR L (typeR L q) (p.name L)).2 hgl.2 [123];simp only[encP] at h;exact h)) ?_
 simp
 apply z
 refine AT_region_q fun Z z=>?_
 simp
 refine RVn_call ((by have h:=c_ref07x_args g L hE hn q q ih [125] ((targsR L (typeR L q) (p.name L)).2.must L [123]) hml.2 (fun _=>by omega);simp only[encP] at h;exact h)) ?_
 simp
 apply z
 refine hK1 _ ?_
 refine AT_seq_k fun K12 hK12=>?_
 refine AT_block ?_
 refine AT_loop_q [1,2,3,4] [1,2,3,4] (fun j s=>∃ e u m,dotsR L (restR L (typeR L q) (exprR L q)) (L.length - (baseR L (typeR L q) (exprR L q) p).2.k) (baseR L (typeR L q) (exprR L q) p).1 (baseR L (typeR L q) (exprR L q) p).2=dotsR L (restR L (typeR L q) (exprR L q)) m e u∧(u.k < L.length∧L.length - u.k≤m∧L.length - u.k≤q)∧j=m∧s={ n:=115,tm:=[(1,.lp 1 0),(2,.lp 2 0),(3,.lp 3 0),(4,.lp 4 0)],bx:=[(1,encP L u),(2,[.slice [],.int .i64 0,.bool false]),(3,[.int .i64 0,.str [],.str [],.slice [],.int .i64 0,.slice [],.slice [],.int .i64 0]),(4,encE e)],tb:=[],sh:=[],hint:=[(300052,0)] }) (L.length - (baseR L (typeR L q) (exprR L q) p).2.k) (by first|rfl|simp) ?_ ?_
 refine ⟨(baseR L (typeR L q) (exprR L q) p).1,(baseR L (typeR L q) (exprR L q) p).2,L.length - (baseR L (typeR L q) (exprR L q) p).2.k,rfl,⟨hbl.2,Nat.le_refl _,by omega⟩,rfl,?_⟩
 (· simp[baseR,h91,encE_mk,encP])
 rintro j s ⟨e,u,m,hq,⟨hk1,hk2,hk3⟩,hjm,rfl⟩ K13 hK13
 subst hjm
 obtain ⟨m,rfl⟩:∃ i,j=i+1:=⟨j - 1,by omega⟩
 refine AT_seq_k fun K14 hK14=>?_
 cases hdot:u.is L [46]
 refine sr fun Z z=>?_
 simp[encP]
 refine RVn_call ((by have h:=c_ref07x_Is g L hn u hk1 [46];simp only[encP] at h;exact h)) ?_
 simp[hdot]
 apply z
 refine cF (by simp) ?_
 refine AT_exit ?_
 refine hK12 _ ?_
 refine AT_seq_draw_m false [(1,1),(2,2),(3,3),(4,4)] Pt.mixed (by kernel_rfl) ⟨by simp[Im,okP,AS.get,TV.strip],fun h=>by cases h⟩ fun Z z=>?_
 simp
 apply z
 refine AT_ret ?_
 simp[encP,Tryz.f30]
 rw[exprR,hq,dotsR,if_neg (by simp[hdot])];simp
 have hub:=(Pl.is_bad hdot).1
 have hkv:u.k+1 < L.length:=Pl.adv_lt hE hk1 hdot
 have hvr:row (L.map encK) (u.k+1)=encK (hdK L (⟨u.k+1,false⟩:Pl)):=row_hdK (p:=(⟨u.k+1,false⟩:Pl)) hkv
 have hvn:=Pl.name_lt hE (p:=(⟨u.k+1,false⟩:Pl)) hkv
 have hvg:=targsR_lt hE (typeR_lt hE q) _ hvn.2
 have hvm:=Pl.must_lt hE [40] hvg.2
 have hvk:u.k+1≤(Pl.name L (⟨u.k+1,false⟩:Pl)).k:=hvn.1
 have hvc:=argsR_count (L:=L) (exprR L q) [41] ((targsR L (typeR L q) (Pl.name L (⟨u.k+1,false⟩:Pl))).2.must L [40])
 refine sr fun Z z=>?_
 simp[encP]
 refine RVn_call ((by have h:=c_ref07x_Is g L hn u hk1 [46];simp only[encP] at h;exact h)) ?_
 simp[hdot]
 apply z
 refine cT (by simp) ?_
 refine AT_skip ?_
 refine hK14 _ ?_
 refine AT_block ?_
 refine sr fun Z z=>?_
 simp[hub]
 repeat refine sg ?_
 apply z
 refine sr fun Z z=>?_
 simp
 apply z
 refine AT_seq_k fun K15 hK15=>?_
 cases h40:(⟨u.k+1,false⟩:Pl).is L [40]
 refine sr fun Z z=>?_
 simp
 refine RVn_call ((by have h:=c_ref07x_Is g L hn (⟨u.k+1,false⟩:Pl) hkv [40];simpa[encP] using h)) ?_
 simp[h40]
 apply z
 refine cF (by simp) ?_
 refine AT_skip ?_
 refine hK15 _ ?_
 refine sr fun Z z=>?_
 simp
 apply z
 refine sr fun Z z=>?_
 simp
 refine RVn_call ((by have h:=c_ref07x_Name g L hn (⟨u.k+1,false⟩:Pl) hkv hL;simpa[encP] using h)) ?_
 simp
 apply z
 refine AT_seq_k fun K16 hK16=>?_
 cases g91:(Pl.name L (⟨u.k+1,false⟩:Pl)).is L [91]
 cases g40:(Pl.name L (⟨u.k+1,false⟩:Pl)).is L [40]
 refine sr fun Z z=>?_
 simp
 refine RVn_call ((by have h:=c_ref07x_Is g L hn (Pl.name L (⟨u.k+1,false⟩:Pl)) hvn.2 [91];simp only[encP] at h;exact h)) ?_
 simp[g91]
 repeat refine sg ?_
 refine RVn_call ((by have h:=c_ref07x_Is g L hn (Pl.name L (⟨u.k+1,false⟩:Pl)) hvn.2 [40];simp only[encP] at h;exact h)) ?_
 simp[g40]
 repeat refine sg ?_
 apply z
 refine cF (by simp) ?_
 refine AT_skip ?_
 refine hK16 _ ?_
 first|(refine AT_str (Gives.weakX 5 6 rfl rfl) ?_;simp only[List.set_cons_succ,List.set_cons_zero])|skip
 refine AT_region_q fun Z z=>?_
 simp
 apply z
 refine hK13 _ (by first|rfl|simp) (m) (by omega) ?_
 have hr:=restR_lt hE (typeR_lt hE q) (exprR_lt hE q) e (⟨u.k+1,false⟩:Pl) hkv
 have hr1:u.k+1≤((restR L (typeR L q) (exprR L q)) e (⟨u.k+1,false⟩:Pl)).2.k:=hr.1
 refine ⟨((restR L (typeR L q) (exprR L q)) e (⟨u.k+1,false⟩:Pl)).1,((restR L (typeR L q) (exprR L q)) e (⟨u.k+1,false⟩:Pl)).2,m,?_,⟨hr.2,by omega,by omega⟩,rfl,?_⟩
 · rw[hq,dotsR,if_pos hdot,show u.adv=(⟨u.k+1,false⟩:Pl) by simp[Pl.adv,hub]]
 · first
   | (· simp[restR,h40,encP])
   | (· simp[restR,h40,g91,g40,encE_mk,encP,ty0])
   | (· simp[restR,h40,g91,Pl.adv,encE_mk,encTy_def,encP,ty0])
   | (· simp[restR,h40,g40,Pl.adv,encE_mk,encTy_def,encP,ty0])
 refine sr fun Z z=>?_
 simp
 refine RVn_call ((by have h:=c_ref07x_Is g L hn (Pl.name L (⟨u.k+1,false⟩:Pl)) hvn.2 [91];simp only[encP] at h;exact h)) ?_
 simp[g91]
 repeat refine sg ?_
 refine RVn_call ((by have h:=c_ref07x_Is g L hn (Pl.name L (⟨u.k+1,false⟩:Pl)) hvn.2 [40];simp only[encP] at h;exact h)) ?_
 simp[g40]
 repeat refine sg ?_
 apply z
 refine cT (by simp) ?_
 refine sr fun Z z=>?_
 simp
 apply z
 refine sr fun Z z=>?_
 simp
 refine RVn_call ((by have h:=c_ref07x_targs g L hE hn q q hT (Pl.name L (⟨u.k+1,false⟩:Pl)) hvn.2 (fun h=>by have:(Pl.name L (⟨u.k+1,false⟩:Pl)).adv.k=(Pl.name L (⟨u.k+1,false⟩:Pl)).k+1:=rfl;omega);simp only[encP] at h;exact h)) ?_
 simp
 apply z
 refine sr fun Z z=>?_
 simp
 refine RVn_call ((by have h:=c_ref07x_Must g L hn (targsR L (typeR L q) (Pl.name L (⟨u.k+1,false⟩:Pl))).2 hvg.2 [40];simp only[encP] at h;exact h)) ?_
 simp
 apply z
 refine sr fun Z z=>?_
 simp
 apply z
 refine sr fun Z z=>?_
 simp
 refine RVn_call ((by have h:=c_ref07x_args g L hE hn q q ih [41] ((targsR L (typeR L q) (Pl.name L (⟨u.k+1,false⟩:Pl))).2.must L [40]) hvm.2 (fun _=>by omega);simp only[encP] at h;exact h)) ?_
 simp
 apply z
 refine AT_region_q fun Z z=>?_
 simp
 repeat refine sg ?_
 apply z
 refine hK16 _ ?_
 first|(refine AT_str (Gives.weakX 5 6 rfl rfl) ?_;simp only[List.set_cons_succ,List.set_cons_zero])|skip
 refine AT_region_q fun Z z=>?_
 simp
 apply z
 refine hK13 _ (by first|rfl|simp) (m) (by omega) ?_
 have hr:=restR_lt hE (typeR_lt hE q) (exprR_lt hE q) e (⟨u.k+1,false⟩:Pl) hkv
 have hr1:u.k+1≤((restR L (typeR L q) (exprR L q)) e (⟨u.k+1,false⟩:Pl)).2.k:=hr.1
 refine ⟨((restR L (typeR L q) (exprR L q)) e (⟨u.k+1,false⟩:Pl)).1,((restR L (typeR L q) (exprR L q)) e (⟨u.k+1,false⟩:Pl)).2,m,?_,⟨hr.2,by omega,by omega⟩,rfl,?_⟩
 · rw[hq,dotsR,if_pos hdot,show u.adv=(⟨u.k+1,false⟩:Pl) by simp[Pl.adv,hub]]
 · first
   | (· simp[restR,h40,encP])
   | (· simp[restR,h40,g91,g40,encE_mk,encP,ty0])
   | (· simp[restR,h40,g91,Pl.adv,encE_mk,encTy_def,encP,ty0])
   | (· simp[restR,h40,g40,Pl.adv,encE_mk,encTy_def,encP,ty0])
 refine sr fun Z z=>?_
 simp
 refine RVn_call ((by have h:=c_ref07x_Is g L hn (Pl.name L (⟨u.k+1,false⟩:Pl)) hvn.2 [91];simp only[encP] at h;exact h)) ?_
 simp[g91]
 repeat refine sg ?_
 apply z
 refine cT (by simp) ?_
 refine sr fun Z z=>?_
 simp
 apply z
 refine sr fun Z z=>?_
 simp
 refine RVn_call ((by have h:=c_ref07x_targs g L hE hn q q hT (Pl.name L (⟨u.k+1,false⟩:Pl)) hvn.2 (fun h=>by have:(Pl.name L (⟨u.k+1,false⟩:Pl)).adv.k=(Pl.name L (⟨u.k+1,false⟩:Pl)).k+1:=rfl;omega);simp only[encP] at h;exact h)) ?_
 simp
 apply z
 refine sr fun Z z=>?_
 simp
 refine RVn_call ((by have h:=c_ref07x_Must g L hn (targsR L (typeR L q) (Pl.name L (⟨u.k+1,false⟩:Pl))).2 hvg.2 [40];simp only[encP] at h;exact h)) ?_
 simp
 apply z
 refine sr fun Z z=>?_
 simp
 apply z
 refine sr fun Z z=>?_
 simp
 refine RVn_call ((by have h:=c_ref07x_args g L hE hn q q ih [41] ((targsR L (typeR L q) (Pl.name L (⟨u.k+1,false⟩:Pl))).2.must L [40]) hvm.2 (fun _=>by omega);simp only[encP] at h;exact h)) ?_
 simp
 apply z
 refine AT_region_q fun Z z=>?_
 simp
 repeat refine sg ?_
 apply z
 refine hK16 _ ?_
 first|(refine AT_str (Gives.weakX 5 6 rfl rfl) ?_;simp only[List.set_cons_succ,List.set_cons_zero])|skip
 refine AT_region_q fun Z z=>?_
 simp
 apply z
 refine hK13 _ (by first|rfl|simp) (m) (by omega) ?_
 have hr:=restR_lt hE (typeR_lt hE q) (exprR_lt hE q) e (⟨u.k+1,false⟩:Pl) hkv
 have hr1:u.k+1≤((restR L (typeR L q) (exprR L q)) e (⟨u.k+1,false⟩:Pl)).2.k:=hr.1
 refine ⟨((restR L (typeR L q) (exprR L q)) e (⟨u.k+1,false⟩:Pl)).1,((restR L (typeR L q) (exprR L q)) e (⟨u.k+1,false⟩:Pl)).2,m,?_,⟨hr.2,by omega,by omega⟩,rfl,?_⟩
 · rw[hq,dotsR,if_pos hdot,show u.adv=(⟨u.k+1,false⟩:Pl) by simp[Pl.adv,hub]]
 · first
   | (· simp[restR,h40,encP])
   | (· simp[restR,h40,g91,g40,Pl.adv,encE_mk,encTy_def,encP,ty0])
   | (· simp[restR,h40,g91,encE_mk,encP,ty0])
   | (· simp[restR,h40,g40,Pl.adv,encE_mk,encTy_def,encP,ty0])
 have hk2v:u.k+1+1 < L.length:=Pl.adv_lt hE (p:=(⟨u.k+1,false⟩:Pl)) hkv h40
 have htv:=typeR_lt hE q (⟨u.k+1+1,false⟩:Pl) hk2v
 refine sr fun Z z=>?_
 simp
 refine RVn_call ((by have h:=c_ref07x_Is g L hn (⟨u.k+1,false⟩:Pl) hkv [40];simpa[encP] using h)) ?_
 simp[h40]
 apply z
 refine cT (by simp) ?_
 refine AT_str (Gives.weakX 5 6 rfl rfl) ?_
 simp only[List.set_cons_succ,List.set_cons_zero]
 refine sr fun Z z=>?_
 simp
 apply z
 refine sr fun Z z=>?_
 simp[hvr,encK]
 repeat refine sg ?_
 apply z
 refine sr fun Z z=>?_
 simp
 repeat refine sg ?_
 apply z
 refine sr fun Z z=>?_
 simp
 refine RVn_call ((by have h:=c_ref07x_Type g L hE hn hL q (⟨u.k+1+1,false⟩:Pl) (by show L.length - (u.k+1+1) < q;omega) hk2v;simpa[encP] using h)) ?_
 simp[encTy_def]
 apply z
 refine sr fun Z z=>?_
 simp
 refine RVn_call ((by have h:=c_ref07x_Must g L hn (typeR L q (⟨u.k+1+1,false⟩:Pl)).2 htv.2 [41];simp only[encP] at h;exact h)) ?_
 simp
 apply z
 refine sr fun Z z=>?_
 simp
 apply z
 refine AT_exit ?_
 refine hK13 _ (by first|rfl|simp) (m) (by omega) ?_
 have hr:=restR_lt hE (typeR_lt hE q) (exprR_lt hE q) e (⟨u.k+1,false⟩:Pl) hkv
 have hr1:u.k+1≤((restR L (typeR L q) (exprR L q)) e (⟨u.k+1,false⟩:Pl)).2.k:=hr.1
 refine ⟨((restR L (typeR L q) (exprR L q)) e (⟨u.k+1,false⟩:Pl)).1,((restR L (typeR L q) (exprR L q)) e (⟨u.k+1,false⟩:Pl)).2,m,?_,⟨hr.2,by omega,by omega⟩,rfl,?_⟩
 · rw[hq,dotsR,if_pos hdot,show u.adv=(⟨u.k+1,false⟩:Pl) by simp[Pl.adv,hub]]
 · first
   | (· simp[restR,h40,Pl.adv,encE_mk,encP])
   | (· simp[restR,h40,g91,g40,Pl.adv,encE_mk,encTy_def,encP,ty0])
   | (· simp[restR,h40,g91,Pl.adv,encE_mk,encTy_def,encP,ty0])
   | (· simp[restR,h40,g40,Pl.adv,encE_mk,encTy_def,encP,ty0])

end Go.Proofs.YtfgafcjebfjepaaGreatDoor
end

section
/- Contracts: castingsref08: pairs, formals, signatures. -/
set_option linter.all false
set_option maxHeartbeats 1000000
set_option maxRecDepth 10000
namespace Go.Proofs.YtfgafcjebfjepaaGreatDoor
open Go Go.Pv
variable (g:Nat→Option (List AV)) (rnd:Bool)

theorem c_ref08x_pairs (L:List Tk) (hE:EndsT L) (hn:L.length≤1000000) (hL:∀ t∈L,t.2.1.length≤1000000) (p:Pl) (hk:p.k < L.length) (e:Str):Valid Tryz.prog (G0 g false) 115 [.agg (encP L p),.str e] (.tup [.agg (encP L (pairsR L (typeR L (L.length+1)) e p).2),.slice ((pairsR L (typeR L (L.length+1)) e p).1.map encF)]):=by

 refine valid_of [(6,111)] Tryz.func115 rfl (by kernel_rfl) ?_
 refine sr fun Z z=>?_
 simp[encP,Tryz.f115]
 apply z
 refine sr fun Z z=>?_
 simp
 apply z
 refine AT_seq_k fun K1 hK1=>?_
 refine AT_block ?_
 refine AT_loop_q [1,2,4,6] [2,4] (fun j s=>∃ k acc m bd,pairsR L (typeR L (L.length+1)) e p=(acc++(pairsB L (typeR L (L.length+1)) e m ⟨k,bd⟩).1,(pairsB L (typeR L (L.length+1)) e m ⟨k,bd⟩).2)∧(k < L.length∧L.length - k≤m)∧(acc.length≤k∧(bd=true→acc=[]))∧j=m∧s={ n:=45,tm:=[(1,.v (.str e) none),(2,.lp 2 0),(4,.lp 4 0),(6,.v (.slice (acc.map encF)) (some (6,111)))],bx:=[(2,[.slice (L.map encK),.int .i64 k,.bool bd]),(4,[.slice [],.int .i64 0,.bool false])],tb:=[],sh:=[],hint:=[(6,111)] }) (L.length - p.k) (by first|rfl|simp) ?_ ?_
 ·
  refine ⟨p.k,[],L.length - p.k,p.bad,?_,⟨hk,Nat.le_refl _⟩,⟨by simp,fun _=>rfl⟩,rfl,by simp⟩
  rw[pairsR,pairsB];simp
 ·
  rintro j s ⟨k,acc,m,bd,hq,⟨hk1,hk2⟩,⟨hka,hkb⟩,hjm,rfl⟩ K2 hK2
  subst hjm
  obtain ⟨m,rfl⟩:∃ i,j=i+1:=⟨j - 1,by omega⟩
  refine AT_seq_k fun K3 hK3=>?_
  cases bd
  ·
   have hg:=g_item hE (⟨k,false⟩:Pl) hk1
   have hgk:k≤(itemR L (typeR L (L.length+1)) (⟨k,false⟩:Pl)).2.k:=hg.1
   have hnl:=Pl.name_lt hE (p:=(⟨k,false⟩:Pl)) hk1
   refine sr fun Z z=>?_
   simp
   apply z
   refine cT (by simp) ?_
   refine AT_skip ?_
   refine hK3 _ ?_
   refine AT_block ?_
   refine sr fun Z z=>?_
   simp
   apply z
   refine sr fun Z z=>?_
   simp
   refine RVn_call ((by have h:=c_ref07x_Name g L hn (⟨k,false⟩:Pl) hk1 hL;simpa[encP] using h)) ?_
   simp
   apply z
   refine AT_seq_k fun K4 hK4=>?_
   cases hb:(Pl.name L (⟨k,false⟩:Pl)).bad
   ·
    have hit:(itemR L (typeR L (L.length+1)) (⟨k,false⟩:Pl))=(⟨Pl.nm L (⟨k,false⟩:Pl),(typeR L (L.length+1) (Pl.name L (⟨k,false⟩:Pl))).1,Pl.at_ L (⟨k,false⟩:Pl)⟩,(typeR L (L.length+1) (Pl.name L (⟨k,false⟩:Pl))).2):=itemR_ok hb
    have hi2:=congrArg Prod.snd hit
    simp only[] at hi2
    have hgt:=hg.2
    rw[hi2] at hgt
    refine sr fun Z z=>?_
    simp
    apply z
    refine cT (by simp) ?_
    refine AT_region_q fun Z z=>?_
    simp
    refine RVn_call ((by have h:=c_ref07x_Type g L hE hn hL (L.length+1) (Pl.name L (⟨k,false⟩:Pl)) (by omega) hnl.2;simp only[encP,hb] at h;first|exact h|(simp only[hub] at h;exact h)|(simp only[hnb] at h;exact h)|(rw[hb] at h;exact h))) ?_
    simp[encTy_def]
    apply z
    refine hK4 _ ?_
    refine sr fun Z z=>?_
    simp
    repeat refine sg ?_
    apply z
    refine AT_seq_k fun K5 hK5=>?_
    cases hi:(itemR L (typeR L (L.length+1)) (⟨k,false⟩:Pl)).2.is L [44]
    ·
     refine sr fun Z z=>?_
     simp
     refine RVn_call ((by have h:=c_ref07x_Is g L hn (itemR L (typeR L (L.length+1)) (⟨k,false⟩:Pl)).2 hg.2 [44];rw[hi,hi2] at h;simp only[encP] at h;first|exact h|(simp only[hub] at h;exact h)|(simp only[hnb] at h;exact h)|(rw[hb] at h;exact h))) ?_
     simp
     apply z
     refine cT (by simp) ?_
     refine sr fun Z z=>?_
     simp
     refine RVn_call ((by have h:=c_ref07x_Must g L hn (itemR L (typeR L (L.length+1)) (⟨k,false⟩:Pl)).2 hg.2 e;rw[hi2] at h;simp only[encP] at h;first|exact h|(simp only[hub] at h;exact h)|(simp only[hnb] at h;exact h)|(rw[hb] at h;exact h))) ?_
     simp
     apply z
     refine AT_ret ?_
     simp[encP,Tryz.f115]
     all_goals first|(· rw[hq,pairsB,if_neg (by simp),pairsL,hi,hit];simp[encF])|(· rw[hq,pairsB,if_pos rfl];simp[encP])
    ·
     have hib:(itemR L (typeR L (L.length+1)) (⟨k,false⟩:Pl)).2.bad=false:=(Pl.is_bad hi).1
     have hib2:=hib
     rw[hi2] at hib2
     refine sr fun Z z=>?_
     simp
     refine RVn_call ((by have h:=c_ref07x_Is g L hn (itemR L (typeR L (L.length+1)) (⟨k,false⟩:Pl)).2 hg.2 [44];rw[hi,hi2] at h;simp only[encP] at h;first|exact h|(simp only[hub] at h;exact h)|(simp only[hnb] at h;exact h)|(rw[hb] at h;exact h))) ?_
     simp
     apply z
     refine cF (by simp) ?_
     refine AT_skip ?_
     refine hK5 _ ?_
     refine AT_region_q fun Z z=>?_
     simp[hib2]
     repeat refine sg ?_
     apply z
     refine hK2 _ (by first|rfl|simp) (m) (by omega) ?_
     refine ⟨(itemR L (typeR L (L.length+1)) (⟨k,false⟩:Pl)).2.k+1,acc++[(itemR L (typeR L (L.length+1)) (⟨k,false⟩:Pl)).1],m,false,?_,⟨Pl.adv_lt hE hg.2 hi,by omega⟩,⟨by simp;omega,fun h=>by cases h⟩,rfl,?_⟩
     · rw[hq,pairsB,if_neg (by simp),pairsL,if_pos hi,show (itemR L (typeR L (L.length+1)) (⟨k,false⟩:Pl)).2.adv=⟨(itemR L (typeR L (L.length+1)) (⟨k,false⟩:Pl)).2.k+1,false⟩ by simp[Pl.adv,hib]];simp[pairsB]
     · rw[hit];simp[encF]
   ·
    have hit:(itemR L (typeR L (L.length+1)) (⟨k,false⟩:Pl))=(⟨Pl.nm L (⟨k,false⟩:Pl),ty0,Pl.at_ L (⟨k,false⟩:Pl)⟩,(Pl.name L (⟨k,false⟩:Pl))):=itemR_no hb
    have hi2:=congrArg Prod.snd hit
    simp only[] at hi2
    have hbd:(itemR L (typeR L (L.length+1)) (⟨k,false⟩:Pl)).2.bad=true:=by rw[hi2];exact hb
    have hi:(itemR L (typeR L (L.length+1)) (⟨k,false⟩:Pl)).2.is L [44]=false:=Pl.is_no hbd _
    refine sr fun Z z=>?_
    simp
    apply z
    refine cF (by simp) ?_
    refine AT_skip ?_
    refine hK4 _ ?_
    refine sr fun Z z=>?_
    simp
    repeat refine sg ?_
    apply z
    refine AT_seq_k fun K6 hK6=>?_
    refine sr fun Z z=>?_
    simp
    refine RVn_call ((by have h:=c_ref07x_Is g L hn (itemR L (typeR L (L.length+1)) (⟨k,false⟩:Pl)).2 hg.2 [44];rw[hi,hi2] at h;simp only[encP,hb] at h;first|exact h|(simp only[hub] at h;exact h)|(simp only[hnb] at h;exact h)|(rw[hb] at h;exact h))) ?_
    simp
    apply z
    refine cT (by simp) ?_
    refine sr fun Z z=>?_
    simp
    refine RVn_call ((by have h:=c_ref07x_Must g L hn (itemR L (typeR L (L.length+1)) (⟨k,false⟩:Pl)).2 hg.2 e;rw[hi2] at h;simp only[encP] at h;first|exact h|(simp only[hub] at h;exact h)|(simp only[hnb] at h;exact h)|(rw[hb] at h;exact h))) ?_
    simp
    apply z
    refine AT_ret ?_
    simp[encP,Tryz.f115]
    all_goals first|(· rw[hq,pairsB,if_neg (by simp),pairsL,hi,hit];simp[encF,ty0])|(· rw[hq,pairsB,if_pos rfl];simp[encP])
  ·
   obtain rfl:=hkb rfl
   refine sr fun Z z=>?_
   simp
   apply z
   refine cF (by simp) ?_
   refine AT_exit ?_
   refine hK1 _ ?_
   refine sr fun Z z=>?_
   simp
   apply z
   refine AT_ret ?_
   simp[encP,Tryz.f115]
   all_goals first|(· rw[hq,pairsB,if_neg (by simp),pairsL,hi,hit];simp[encP,encF,encTy_def,ty0])|(· rw[hq,pairsB,if_pos rfl];simp)

theorem c_ref08x_formals (L:List Tk) (hE:EndsT L) (hn:L.length≤1000000) (hL:∀ t∈L,t.2.1.length≤1000000) (p:Pl) (hk:p.k < L.length):Valid Tryz.prog (G0 g false) 65 [.agg (encP L p)] (.tup [.agg (encP L (formalsR L (typeR L (L.length+1)) p).2),.slice ((formalsR L (typeR L (L.length+1)) p).1.map encF)]):=by
 obtain ⟨q,hq⟩:∃ q,q=pairsR L (typeR L (L.length+1)) [93] p.adv:=⟨_,rfl⟩
 have hql:q.1.length≤1000000:=by
   rw[hq]
   have:=pairsR_count (L:=L) (rT:=(typeR L (L.length+1))) [93] p.adv
   omega
 refine valid_of [(5,107)] Tryz.func65 rfl (by kernel_rfl) ?_
 refine sr fun Z z=>?_
 simp[encP,Tryz.f65]
 apply z
 refine AT_seq_k fun K1 hK1=>?_
 cases hnx:p.is L [91]
 ·
  refine sr fun Z z=>?_
  simp
  refine RVn_call ((by have h:=c_ref07x_Is g L hn p hk [91];simp only[encP] at h;first|exact h|(simp only[hub] at h;exact h)|(simp only[hnb] at h;exact h)|(rw[hb] at h;exact h))) ?_
  simp[hnx]
  apply z
  refine cT (by simp) ?_
  refine sr fun Z z=>?_
  simp
  apply z
  refine AT_ret ?_
  simp[encP,Tryz.f65]
  all_goals first|(· simp[formalsR,hnx])|(· rw[List.take_of_length_le (by simp;omega)];simp[formalsR,hnx,← hq,encP])
 ·
  have hpb:=(Pl.is_bad hnx).1
  have hpk:p.adv.k < L.length:=Pl.adv_lt hE hk hnx
  refine sr fun Z z=>?_
  simp
  refine RVn_call ((by have h:=c_ref07x_Is g L hn p hk [91];simp only[encP] at h;first|exact h|(simp only[hub] at h;exact h)|(simp only[hnb] at h;exact h)|(rw[hb] at h;exact h))) ?_
  simp[hnx]
  apply z
  refine cF (by simp) ?_
  refine AT_skip ?_
  refine hK1 _ ?_
  refine sr fun Z z=>?_
  simp
  repeat refine sg ?_
  apply z
  refine sr fun Z z=>?_
  simp
  refine RVn_call ((by have h:=c_ref08x_pairs g L hE hn hL p.adv hpk [93];rw[←hq] at h;simp only[encP,Pl.adv] at h;exact h)) ?_
  simp
  apply z
  refine sr fun Z z=>?_
  simp
  apply z
  refine AT_seq_k fun K2 hK2=>?_
  refine sr fun Z z=>?_
  simp
  apply z
  refine AT_block ?_
  refine AT_loop_q [1,2,4,5,6] [1,2] (fun j s=>∃ k,k≤q.1.length∧j=q.1.length - k∧s={ n:=47,tm:=[(1,.lp 1 0),(2,.lp 2 0),(4,.v (.slice (q.1.map encF)) none),(5,.v (.slice ((q.1.take k).map encF)) (some (5,107))),(6,.v (.int .i64 k) none)],bx:=[(1,encP L q.2),(2,[.slice [],.int .i64 0,.bool false])],tb:=[],sh:=[],hint:=[(5,107)] }) (q.1.length) (by first|rfl|simp) ?_ ?_
  ·
   exact ⟨0,by simp,by simp,by simp[encP]⟩
  ·
   rintro j s ⟨k,hk9,rfl,rfl⟩ K3 hK3
   refine AT_seq_k fun K4 hK4=>?_
   refine sr fun Z z=>?_
   simp[encP]
   apply z
   refine AT_cond (g:=none) rfl (fun hb23=>?_) (fun hb23=>?_)
   ·
    simp at hb23
    refine AT_skip ?_
    refine hK4 _ ?_
    refine AT_seq_k fun K5 hK5=>?_
    refine AT_block ?_
    refine AT_draw_q Pt.mixed (by kernel_rfl) fun Z z=>?_
    simp[encF,row_map,rows_take,hb23]
    repeat refine sg ?_
    apply z
    refine hK5 _ ?_
    refine AT_region_q fun Z z=>?_
    simp
    repeat refine sg ?_
    apply z
    refine hK3 _ (by first|rfl|simp) (q.1.length - (k+1)) (by omega) ?_
    refine ⟨k+1,by omega,by omega,?_⟩
    have hk8:k < q.1.length:=by omega
    simp[List.take_succ_eq_append_getElem hk8,-List.take_append_getElem,encF,encP]
   ·
    simp at hb23
    refine AT_exit ?_
    refine hK2 _ ?_
    refine sr fun Z z=>?_
    simp
    apply z
    refine AT_ret ?_
    simp[encP,Tryz.f65]
    all_goals first|(· simp[formalsR,hnx])|(· rw[List.take_of_length_le (by simp;omega)];simp[formalsR,hnx,← hq])

theorem c_ref08x_sig (L:List Tk) (hE:EndsT L) (hn:L.length≤1000000) (hL:∀ t∈L,t.2.1.length≤1000000) (p:Pl) (hk:p.k < L.length):Valid Tryz.prog (G0 g false) 66 [.agg (encP L p)] (.tup [.agg (encP L (sigR L (typeR L (L.length+1)) p).2),.agg (encG (sigR L (typeR L (L.length+1)) p).1)]):=by
 have h1:=Pl.name_lt hE hk
 have h2:=g_formals hE _ h1.2
 have h3:=Pl.must_lt hE [40] h2.2
 have h4:=g_par hE _ h2.2
 refine valid_of [] Tryz.func66 rfl (by kernel_rfl) ?_
 refine sr fun Z z=>?_
 simp[encP,Tryz.f66]
 apply z
 refine sr fun Z z=>?_
 simp
 apply z
 refine sr fun Z z=>?_
 simp
 refine RVn_call ((by have h:=c_ref07x_Name g L hn p hk hL;simp only[encP] at h;first|exact h|(simp only[hub] at h;exact h)|(simp only[hnb] at h;exact h)|(rw[hb] at h;exact h))) ?_
 simp
 apply z
 refine sr fun Z z=>?_
 simp
 refine RVn_call ((by have h:=c_ref08x_formals g L hE hn hL (p.name L) h1.2;simp only[encP] at h;first|exact h|(simp only[hub] at h;exact h)|(simp only[hnb] at h;exact h)|(rw[hb] at h;exact h))) ?_
 simp
 apply z
 refine sr fun Z z=>?_
 simp
 refine RVn_call ((by have h:=c_ref07x_Must g L hn (formalsR L (typeR L (L.length+1)) (p.name L)).2 h2.2 [40];simp only[encP] at h;first|exact h|(simp only[hub] at h;exact h)|(simp only[hnb] at h;exact h)|(rw[hb] at h;exact h))) ?_
 simp
 apply z
 refine AT_seq_k fun K1 hK1=>?_
 cases hnx:((formalsR L (typeR L (L.length+1)) (p.name L)).2.must L [40]).is L [41]
 ·
  have hp2:(parR L (typeR L (L.length+1)) (formalsR L (typeR L (L.length+1)) (p.name L)).2)=pairsR L (typeR L (L.length+1)) [41] ((formalsR L (typeR L (L.length+1)) (p.name L)).2.must L [40]):=by rw[parR,if_neg (by rw[hnx];exact Bool.false_ne_true)]
  refine sr fun Z z=>?_
  simp
  refine RVn_call ((by have h:=c_ref07x_Is g L hn ((formalsR L (typeR L (L.length+1)) (p.name L)).2.must L [40]) h3.2 [41];simp only[encP] at h;first|exact h|(simp only[hub] at h;exact h)|(simp only[hnb] at h;exact h)|(rw[hb] at h;exact h))) ?_
  simp[hnx]
  apply z
  refine cF (by simp) ?_
  refine AT_region_q fun Z z=>?_
  simp
  refine RVn_call ((by have h:=c_ref08x_pairs g L hE hn hL ((formalsR L (typeR L (L.length+1)) (p.name L)).2.must L [40]) h3.2 [41];rw[←hp2] at h;simp only[encP] at h;exact h)) ?_
  simp
  apply z
  refine hK1 _ ?_
  refine AT_seq_k fun K2 hK2=>?_
  cases hb:(parR L (typeR L (L.length+1)) (formalsR L (typeR L (L.length+1)) (p.name L)).2).2.bad
  ·
   have hty:=tyR_ok (rT:=(typeR L (L.length+1))) hb
   refine sr fun Z z=>?_
   simp
   apply z
   refine cT (by simp) ?_
   refine AT_region_q fun Z z=>?_
   simp
   refine RVn_call ((by have h:=c_ref07x_Type g L hE hn hL (L.length+1) (parR L (typeR L (L.length+1)) (formalsR L (typeR L (L.length+1)) (p.name L)).2).2 (by omega) h4.2;simp only[encP,hb] at h;first|exact h|(simp only[hub] at h;exact h)|(simp only[hnb] at h;exact h)|(rw[hb] at h;exact h))) ?_
   simp[encTy_def]
   apply z
   refine hK2 _ ?_
   refine AT_seq_draw_m false [(1,1),(2,2),(3,3),(4,4)] Pt.mixed (by kernel_rfl) ⟨by simp[Im,okP,AS.get,TV.strip],fun h=>by cases h⟩ fun Z z=>?_
   simp
   apply z
   refine AT_ret ?_
   simp[encP,encG,Tryz.f66]
   all_goals first|(· simp[sigR,hty])|(· have hp6:=congrArg Prod.fst hp2;simp only[] at hp6;simp[sigR,hty,hb,hp6,encG,encP,encTy_def,ty0])|skip
  ·
   have hty:=tyR_no (rT:=(typeR L (L.length+1))) hb
   refine sr fun Z z=>?_
   simp
   apply z
   refine cF (by simp) ?_
   refine AT_skip ?_
   refine hK2 _ ?_
   refine AT_seq_draw_m false [(1,1),(2,2),(3,3),(4,4)] Pt.mixed (by kernel_rfl) ⟨by simp[Im,okP,AS.get,TV.strip],fun h=>by cases h⟩ fun Z z=>?_
   simp
   apply z
   refine AT_ret ?_
   simp[encP,encG,Tryz.f66]
   all_goals first|(· simp[sigR,hty,hb,ty0])|(· have hp6:=congrArg Prod.fst hp2;simp only[] at hp6;simp[sigR,hty,hb,hp6,encG,encP,encTy_def,ty0])|skip
 ·
  have hmb:=(Pl.is_bad hnx).1
  have hp2:(parR L (typeR L (L.length+1)) (formalsR L (typeR L (L.length+1)) (p.name L)).2)=([],((formalsR L (typeR L (L.length+1)) (p.name L)).2.must L [40]).adv):=by rw[parR,if_pos hnx]
  have hp3:=congrArg Prod.snd hp2
  simp only[] at hp3
  have hp4:(((formalsR L (typeR L (L.length+1)) (p.name L)).2.must L [40]).k:Int)+1=((parR L (typeR L (L.length+1)) (formalsR L (typeR L (L.length+1)) (p.name L)).2).2.k:Int):=by rw[hp3];simp[Pl.adv]
  have hp5:((formalsR L (typeR L (L.length+1)) (p.name L)).2.must L [40]).bad=(parR L (typeR L (L.length+1)) (formalsR L (typeR L (L.length+1)) (p.name L)).2).2.bad:=by rw[hp3];rfl
  refine sr fun Z z=>?_
  simp
  refine RVn_call ((by have h:=c_ref07x_Is g L hn ((formalsR L (typeR L (L.length+1)) (p.name L)).2.must L [40]) h3.2 [41];simp only[encP] at h;first|exact h|(simp only[hub] at h;exact h)|(simp only[hnb] at h;exact h)|(rw[hb] at h;exact h))) ?_
  simp[hnx]
  apply z
  refine cT (by simp) ?_
  refine AT_region_q fun Z z=>?_
  simp[hp4,hp5]
  repeat refine sg ?_
  apply z
  refine hK1 _ ?_
  refine AT_seq_k fun K3 hK3=>?_
  cases hb:(parR L (typeR L (L.length+1)) (formalsR L (typeR L (L.length+1)) (p.name L)).2).2.bad
  ·
   have hty:=tyR_ok (rT:=(typeR L (L.length+1))) hb
   refine sr fun Z z=>?_
   simp
   apply z
   refine cT (by simp) ?_
   refine AT_region_q fun Z z=>?_
   simp
   refine RVn_call ((by have h:=c_ref07x_Type g L hE hn hL (L.length+1) (parR L (typeR L (L.length+1)) (formalsR L (typeR L (L.length+1)) (p.name L)).2).2 (by omega) h4.2;simp only[encP,hb] at h;first|exact h|(simp only[hub] at h;exact h)|(simp only[hnb] at h;exact h)|(rw[hb] at h;exact h))) ?_
   simp[encTy_def]
   apply z
   refine hK3 _ ?_
   refine AT_seq_draw_m false [(1,1),(2,2),(3,3),(4,4)] Pt.mixed (by kernel_rfl) ⟨by simp[Im,okP,AS.get,TV.strip],fun h=>by cases h⟩ fun Z z=>?_
   simp
   apply z
   refine AT_ret ?_
   simp[encP,encG,Tryz.f66]
   all_goals first|(· simp[sigR,hty])|(· have hp6:=congrArg Prod.fst hp2;simp only[] at hp6;simp[sigR,hty,hp6])|skip
  ·
   have hty:=tyR_no (rT:=(typeR L (L.length+1))) hb
   refine sr fun Z z=>?_
   simp
   apply z
   refine cF (by simp) ?_
   refine AT_skip ?_
   refine hK3 _ ?_
   refine AT_seq_draw_m false [(1,1),(2,2),(3,3),(4,4)] Pt.mixed (by kernel_rfl) ⟨by simp[Im,okP,AS.get,TV.strip],fun h=>by cases h⟩ fun Z z=>?_
   simp
   apply z
   refine AT_ret ?_
   simp[encP,encG,Tryz.f66]
   all_goals first|(· simp[sigR,hty,hb,ty0])|(· have hp6:=congrArg Prod.fst hp2;simp only[] at hp6;simp[sigR,hty,hb,hp6,ty0])|skip

end Go.Proofs.YtfgafcjebfjepaaGreatDoor
end

section
/- Contracts: castingsref08: declarations of types. -/
set_option linter.all false
set_option maxHeartbeats 1000000
set_option maxRecDepth 10000
namespace Go.Proofs.YtfgafcjebfjepaaGreatDoor
open Go Go.Pv
variable (g:Nat→Option (List AV)) (rnd:Bool)

theorem gives_retb {P:Program} {σ:AS} (tb':List (Nat×Nat×Nat×Nat)) (h:∀ q∈tb',q∈σ.tb):Gives P σ { σ with tb:=tb' }:=fun cx a w hP r=>by
  obtain ⟨gh,r⟩:=r
  exact ⟨gh,r.weak ⟨rfl,fun t x hx=>⟨hx,(r.tmps t x hx).2⟩,fun k c hk=>hk,fun q hq=>⟨h q hq,(r.tbs q.1 q.2.1 q.2.2.1 q.2.2.2 (h q hq)).1⟩,fun b c hb=>hb,rfl,rfl,rfl⟩⟩

theorem c_ref08x_typed (L:List Tk) (hE:EndsT L) (hn:L.length≤1000000) (hL:∀ t∈L,t.2.1.length≤1000000) (p:Pl) (hk:p.k < L.length):Valid Tryz.prog (G0 g false) 28 [.agg (encP L p)] (.tup [.agg (encP L (typedR L (typeR L (L.length+1)) p).2),.agg (encD (typedR L (typeR L (L.length+1)) p).1)]):=by
 have h1:=Pl.must_lt hE wType hk
 have h2:=Pl.name_lt hE h1.2
 have h3:=g_formals hE _ h2.2
 refine valid_of [(104003,111),(104004,43)] Tryz.func28 rfl (by kernel_rfl) ?_
 refine sr fun Z z=>?_
 simp[encP,Tryz.f28]
 apply z
 refine sr fun Z z=>?_
 simp
 apply z
 refine sr fun Z z=>?_
 simp
 refine RVn_call ((by have h:=c_ref07x_Must g L hn p hk wType;simp only[encP] at h;first|exact h|(simp only[hub] at h;exact h)|(simp only[hnb] at h;exact h)|(rw[hb] at h;exact h))) ?_
 simp[wType]
 apply z
 refine sr fun Z z=>?_
 simp
 refine RVn_call ((by have h:=c_ref07x_Name g L hn (p.must L wType) h1.2 hL;simp only[encP] at h;first|exact h|(simp only[hub] at h;exact h)|(simp only[hnb] at h;exact h)|(rw[hb] at h;exact h))) ?_
 simp
 apply z
 refine sr fun Z z=>?_
 simp
 refine RVn_call ((by have h:=c_ref08x_formals g L hE hn hL (Pl.name L (p.must L wType)) h2.2;simp only[encP] at h;first|exact h|(simp only[hub] at h;exact h)|(simp only[hnb] at h;exact h)|(rw[hb] at h;exact h))) ?_
 simp
 apply z
 refine AT_seq_k fun K1 hK1=>?_
 cases hnx:(formalsR L (typeR L (L.length+1)) (Pl.name L (p.must L wType))).2.is L wInterface
 ·
  have h4:=Pl.must_lt hE wStruct h3.2
  have hU:=Pl.must_lt hE [123] h4.2
  refine sr fun Z z=>?_
  simp
  refine RVn_call ((by have h:=c_ref07x_Is g L hn (formalsR L (typeR L (L.length+1)) (Pl.name L (p.must L wType))).2 h3.2 wInterface;simp only[encP] at h;first|exact h|(simp only[hub] at h;exact h)|(simp only[hnb] at h;exact h)|(rw[hb] at h;exact h))) ?_
  simp[hnx]
  apply z
  refine cF (by simp) ?_
  refine AT_region_q fun Z z=>?_
  simp
  refine RVn_call ((by have h:=c_ref07x_Must g L hn (formalsR L (typeR L (L.length+1)) (Pl.name L (p.must L wType))).2 h3.2 wStruct;simp only[encP] at h;first|exact h|(simp only[hub] at h;exact h)|(simp only[hnb] at h;exact h)|(rw[hb] at h;exact h))) ?_
  simp
  apply z
  refine hK1 _ ?_
  refine sr fun Z z=>?_
  simp
  refine RVn_call ((by have h:=c_ref07x_Must g L hn ((formalsR L (typeR L (L.length+1)) (Pl.name L (p.must L wType))).2.must L wStruct) h4.2 [123];simp only[encP] at h;first|exact h|(simp only[hub] at h;exact h)|(simp only[hnb] at h;exact h)|(rw[hb] at h;exact h))) ?_
  simp
  apply z
  refine AT_seq_k fun K2 hK2=>?_
  refine AT_block ?_
  refine AT_loop_q [1,2,3,4] [1,2,3,4] (fun j s=>∃ u acc m,untilR L (itemR L (typeR L (L.length+1))) (((formalsR L (typeR L (L.length+1)) (Pl.name L (p.must L wType))).2.must L wStruct).must L [123])=(acc++(untilL L (itemR L (typeR L (L.length+1))) m u).1,(untilL L (itemR L (typeR L (L.length+1))) m u).2)∧(u.k < L.length∧(u.bad=false→L.length - u.k≤m)∧acc.length+m≤L.length)∧j=m∧s={ n:=89,tm:=[(1,.lp 1 0),(2,.lp 2 0),(3,.lp 3 0),(4,.lp 4 0)],bx:=[(1,encP L u),(2,[.slice [],.int .i64 0,.bool false]),(3,encD ⟨0,[],[],[],[],[],[],sg0,ex0,0⟩),(4,encD ⟨1,(p.must L wType).nm L,(formalsR L (typeR L (L.length+1)) (Pl.name L (p.must L wType))).1,acc,[],[],[],sg0,ex0,(p.must L wType).at_ L⟩)],tb:=[(4,4,104004,43),(4,3,104003,111)],sh:=[],hint:=[(104003,111),(104004,43)] }) (L.length - (((formalsR L (typeR L (L.length+1)) (Pl.name L (p.must L wType))).2.must L wStruct).must L [123]).k) (by first|rfl|simp) ?_ ?_
  ·
   exact ⟨(((formalsR L (typeR L (L.length+1)) (Pl.name L (p.must L wType))).2.must L wStruct).must L [123]),[],L.length - (((formalsR L (typeR L (L.length+1)) (Pl.name L (p.must L wType))).2.must L wStruct).must L [123]).k,by simp[untilR],⟨hU.2,fun _=>Nat.le_refl _,by simp⟩,rfl,by simp[encD,sg0,ex0,ty0,encP]⟩
  ·
   rintro j s ⟨u,acc,m,hq,⟨hu1,hu2,hu3⟩,hjm,rfl⟩ K3 hK3
   subst hjm
   have hg:=g_item hE u hu1
   have hm9:=Pl.must_lt hE [59] hg.2
   have hun:=Pl.name_lt hE hu1
   refine AT_seq_k fun K4 hK4=>?_
   cases hub:u.bad
   ·
    cases h125:u.is L [125]
    ·
     have hu4:=hu2 hub
     obtain ⟨m,rfl⟩:∃ i,j=i+1:=⟨j - 1,by omega⟩
     refine sr fun Z z=>?_
     simp[encP,encD,sg0,ex0,ty0,hub]
     refine RVn_call ((by have h:=c_ref07x_Is g L hn u hu1 [125];simp only[encP] at h;first|exact h|(simp only[hub] at h;exact h)|(simp only[hnb] at h;exact h)|(rw[hb] at h;exact h))) ?_
     simp[h125]
     repeat refine sg ?_
     apply z
     refine cT (by simp) ?_
     refine AT_skip ?_
     refine hK4 _ ?_
     refine AT_block ?_
     refine AT_seq_k fun K5 hK5=>?_
     refine sr fun Z z=>?_
     simp
     apply z
     refine cF (by simp) ?_
     refine sr fun Z z=>?_
     simp
     apply z
     refine sr fun Z z=>?_
     simp
     refine RVn_call ((by have h:=c_ref07x_Name g L hn u hu1 hL;simp only[encP] at h;first|exact h|(simp only[hub] at h;exact h)|(simp only[hnb] at h;exact h)|(rw[hb] at h;exact h))) ?_
     simp
     apply z
     refine AT_seq_k fun K6 hK6=>?_
     cases hnb:(u.name L).bad
     ·
      have hit:=itemR_ok (rT:=(typeR L (L.length+1))) hnb
      have hi2:=congrArg Prod.snd hit
      simp only[] at hi2
      refine sr fun Z z=>?_
      simp
      apply z
      refine cT (by simp) ?_
      refine AT_region_q fun Z z=>?_
      simp
      refine RVn_call ((by have h:=c_ref07x_Type g L hE hn hL (L.length+1) (u.name L) (by omega) hun.2;simp only[encP] at h;first|exact h|(simp only[hub] at h;exact h)|(simp only[hnb] at h;exact h)|(rw[hb] at h;exact h))) ?_
      simp[encTy_def]
      apply z
      refine hK6 _ ?_
      refine AT_region_q fun Z z=>?_
      simp
      repeat refine sg ?_
      apply z
      refine hK5 _ ?_
      refine AT_str (gives_retb [(4,4,104004,43),(4,3,104003,111)] (by simp)) ?_
      refine AT_region_q fun Z z=>?_
      simp
      refine RVn_call ((by have h:=c_ref07x_Must g L hn ((itemR L (typeR L (L.length+1))) u).2 hg.2 [59];rw[hi2] at h;simp only[encP] at h;first|exact h|(simp only[hub] at h;exact h)|(simp only[hnb] at h;exact h)|(rw[hb] at h;exact h))) ?_
      simp
      apply z
      refine hK3 _ (by first|rfl|simp) (m) (by omega) ?_
      refine ⟨((itemR L (typeR L (L.length+1))) u).2.must L [59],acc++[((itemR L (typeR L (L.length+1))) u).1],m,by rw[hq,untilL_go _ hub h125];simp,⟨hm9.2,until_left (g_item hE) hu1 (hu2 hub),by simp;omega⟩,rfl,?_⟩
      rw[hit];simp[encD,encF,sg0,ex0,ty0,encP]
     ·
      have hit:=itemR_no (rT:=(typeR L (L.length+1))) hnb
      have hi2:=congrArg Prod.snd hit
      simp only[] at hi2
      refine sr fun Z z=>?_
      simp
      apply z
      refine cF (by simp) ?_
      refine AT_skip ?_
      refine hK6 _ ?_
      refine AT_region_q fun Z z=>?_
      simp
      repeat refine sg ?_
      apply z
      refine hK5 _ ?_
      refine AT_str (gives_retb [(4,4,104004,43),(4,3,104003,111)] (by simp)) ?_
      refine AT_region_q fun Z z=>?_
      simp
      refine RVn_call ((by have h:=c_ref07x_Must g L hn ((itemR L (typeR L (L.length+1))) u).2 hg.2 [59];rw[hi2] at h;simp only[encP] at h;first|exact h|(simp only[hub] at h;exact h)|(simp only[hnb] at h;exact h)|(rw[hb] at h;exact h))) ?_
      simp
      apply z
      refine hK3 _ (by first|rfl|simp) (m) (by omega) ?_
      refine ⟨((itemR L (typeR L (L.length+1))) u).2.must L [59],acc++[((itemR L (typeR L (L.length+1))) u).1],m,by rw[hq,untilL_go _ hub h125];simp,⟨hm9.2,until_left (g_item hE) hu1 (hu2 hub),by simp;omega⟩,rfl,?_⟩
      rw[hit];simp[encD,encF,sg0,ex0,ty0,encP]
    ·
     have hz:untilR L (itemR L (typeR L (L.length+1))) (((formalsR L (typeR L (L.length+1)) (Pl.name L (p.must L wType))).2.must L wStruct).must L [123])=(acc,u):=by rw[hq,untilL_end _ (.inr h125)];simp
     refine sr fun Z z=>?_
     simp[encP,encD,sg0,ex0,ty0,hub]
     refine RVn_call ((by have h:=c_ref07x_Is g L hn u hu1 [125];simp only[encP] at h;first|exact h|(simp only[hub] at h;exact h)|(simp only[hnb] at h;exact h)|(rw[hb] at h;exact h))) ?_
     simp[h125]
     repeat refine sg ?_
     apply z
     refine cF (by simp) ?_
     refine AT_exit ?_
     refine hK2 _ ?_
     refine sr fun Z z=>?_
     simp
     refine RVn_call ((by have h:=c_ref07x_Must g L hn u hu1 [125];simp only[encP] at h;first|exact h|(simp only[hub] at h;exact h)|(simp only[hnb] at h;exact h)|(rw[hb] at h;exact h))) ?_
     simp
     apply z
     refine AT_seq_draw_m false [(1,1),(2,2),(3,3),(4,4)] Pt.mixed (by kernel_rfl) ⟨by simp[Im,okP,AS.get,TV.strip],fun h=>by cases h⟩ fun Z z=>?_
     simp
     refine RVdn_call ((by have h:=c_ref07x_Must g L hn (u.must L [125]) (Pl.must_lt hE [125] hu1).2 [59];simp only[encP] at h;first|exact h|(simp only[hub] at h;exact h)|(simp only[hnb] at h;exact h)|(rw[hb] at h;exact h))) ?_
     simp
     apply z
     refine AT_ret ?_
     simp[encP,encD,Tryz.f28]
     all_goals first|(· simp[typedR,typedH,hnx,hz,sg0,ex0,ty0])|skip
   ·
    have hz:untilR L (itemR L (typeR L (L.length+1))) (((formalsR L (typeR L (L.length+1)) (Pl.name L (p.must L wType))).2.must L wStruct).must L [123])=(acc,u):=by rw[hq,untilL_end _ (.inl hub)];simp
    refine sr fun Z z=>?_
    simp[encP,encD,sg0,ex0,ty0,hub]
    apply z
    refine cF (by simp) ?_
    refine AT_exit ?_
    refine hK2 _ ?_
    refine sr fun Z z=>?_
    simp
    refine RVn_call ((by have h:=c_ref07x_Must g L hn u hu1 [125];simp only[encP] at h;first|exact h|(simp only[hub] at h;exact h)|(simp only[hnb] at h;exact h)|(rw[hb] at h;exact h))) ?_
    simp
    apply z
    refine AT_seq_draw_m false [(1,1),(2,2),(3,3),(4,4)] Pt.mixed (by kernel_rfl) ⟨by simp[Im,okP,AS.get,TV.strip],fun h=>by cases h⟩ fun Z z=>?_
    simp
    refine RVdn_call ((by have h:=c_ref07x_Must g L hn (u.must L [125]) (Pl.must_lt hE [125] hu1).2 [59];simp only[encP] at h;first|exact h|(simp only[hub] at h;exact h)|(simp only[hnb] at h;exact h)|(rw[hb] at h;exact h))) ?_
    simp
    apply z
    refine AT_ret ?_
    simp[encP,encD,Tryz.f28]
    all_goals first|(· simp[typedR,typedH,hnx,hz,sg0,ex0,ty0])|skip
 ·
  have h4:(formalsR L (typeR L (L.length+1)) (Pl.name L (p.must L wType))).2.adv.k < L.length:=Pl.adv_lt hE h3.2 hnx
  have hU:=Pl.must_lt hE [123] h4
  refine sr fun Z z=>?_
  simp
  refine RVn_call ((by have h:=c_ref07x_Is g L hn (formalsR L (typeR L (L.length+1)) (Pl.name L (p.must L wType))).2 h3.2 wInterface;simp only[encP] at h;first|exact h|(simp only[hub] at h;exact h)|(simp only[hnb] at h;exact h)|(rw[hb] at h;exact h))) ?_
  simp[hnx]
  apply z
  refine cT (by simp) ?_
  refine sr fun Z z=>?_
  simp
  apply z
  refine AT_region_q fun Z z=>?_
  simp
  repeat refine sg ?_
  apply z
  refine hK1 _ ?_
  refine sr fun Z z=>?_
  simp
  refine RVn_call ((by have h:=c_ref07x_Must g L hn (formalsR L (typeR L (L.length+1)) (Pl.name L (p.must L wType))).2.adv h4 [123];simp only[encP,Pl.adv] at h;first|exact h|(simp only[hub] at h;exact h)|(simp only[hnb] at h;exact h)|(rw[hb] at h;exact h))) ?_
  simp
  apply z
  refine AT_seq_k fun K7 hK7=>?_
  refine AT_block ?_
  refine AT_loop_q [1,2,3,4] [1,2,3,4] (fun j s=>∃ u acc m,untilR L (sigR L (typeR L (L.length+1))) ((formalsR L (typeR L (L.length+1)) (Pl.name L (p.must L wType))).2.adv.must L [123])=(acc++(untilL L (sigR L (typeR L (L.length+1))) m u).1,(untilL L (sigR L (typeR L (L.length+1))) m u).2)∧(u.k < L.length∧(u.bad=false→L.length - u.k≤m)∧acc.length+m≤L.length)∧j=m∧s={ n:=89,tm:=[(1,.lp 1 0),(2,.lp 2 0),(3,.lp 3 0),(4,.lp 4 0)],bx:=[(1,encP L u),(2,[.slice [],.int .i64 0,.bool false]),(3,encD ⟨0,[],[],[],[],[],[],sg0,ex0,0⟩),(4,encD ⟨2,(p.must L wType).nm L,(formalsR L (typeR L (L.length+1)) (Pl.name L (p.must L wType))).1,[],acc,[],[],sg0,ex0,(p.must L wType).at_ L⟩)],tb:=[(4,4,104004,43),(4,3,104003,111)],sh:=[],hint:=[(104003,111),(104004,43)] }) (L.length - ((formalsR L (typeR L (L.length+1)) (Pl.name L (p.must L wType))).2.adv.must L [123]).k) (by first|rfl|simp) ?_ ?_
  ·
   exact ⟨((formalsR L (typeR L (L.length+1)) (Pl.name L (p.must L wType))).2.adv.must L [123]),[],L.length - ((formalsR L (typeR L (L.length+1)) (Pl.name L (p.must L wType))).2.adv.must L [123]).k,by simp[untilR],⟨hU.2,fun _=>Nat.le_refl _,by simp⟩,rfl,by simp[encD,sg0,ex0,ty0,encP,Pl.adv]⟩
  ·
   rintro j s ⟨u,acc,m,hq,⟨hu1,hu2,hu3⟩,hjm,rfl⟩ K8 hK8
   subst hjm
   have hg:=g_sig hE u hu1
   have hm9:=Pl.must_lt hE [59] hg.2
   have hun:=Pl.name_lt hE hu1
   refine AT_seq_k fun K9 hK9=>?_
   cases hub:u.bad
   ·
    cases h125:u.is L [125]
    ·
     have hu4:=hu2 hub
     obtain ⟨m,rfl⟩:∃ i,j=i+1:=⟨j - 1,by omega⟩
     refine sr fun Z z=>?_
     simp[encP,encD,sg0,ex0,ty0,hub]
     refine RVn_call ((by have h:=c_ref07x_Is g L hn u hu1 [125];simp only[encP] at h;first|exact h|(simp only[hub] at h;exact h)|(simp only[hnb] at h;exact h)|(rw[hb] at h;exact h))) ?_
     simp[h125]
     repeat refine sg ?_
     apply z
     refine cT (by simp) ?_
     refine AT_skip ?_
     refine hK9 _ ?_
     refine AT_block ?_
     refine AT_seq_k fun K10 hK10=>?_
     refine sr fun Z z=>?_
     simp
     apply z
     refine cT (by simp) ?_
     refine sr fun Z z=>?_
     simp
     apply z
     refine sr fun Z z=>?_
     simp
     refine RVn_call ((by have h:=c_ref08x_sig g L hE hn hL u hu1;simp only[encP] at h;first|exact h|(simp only[hub] at h;exact h)|(simp only[hnb] at h;exact h)|(rw[hb] at h;exact h))) ?_
     simp[encG]
     apply z
     refine AT_region_q fun Z z=>?_
     simp
     repeat refine sg ?_
     apply z
     refine hK10 _ ?_
     refine AT_region_q fun Z z=>?_
     simp
     refine RVn_call ((by have h:=c_ref07x_Must g L hn ((sigR L (typeR L (L.length+1))) u).2 hg.2 [59];simp only[encP] at h;first|exact h|(simp only[hub] at h;exact h)|(simp only[hnb] at h;exact h)|(rw[hb] at h;exact h))) ?_
     simp
     apply z
     refine hK8 _ (by first|rfl|simp) (m) (by omega) ?_
     refine ⟨((sigR L (typeR L (L.length+1))) u).2.must L [59],acc++[((sigR L (typeR L (L.length+1))) u).1],m,by rw[hq,untilL_go _ hub h125];simp,⟨hm9.2,until_left (g_sig hE) hu1 (hu2 hub),by simp;omega⟩,rfl,?_⟩
     simp[encD,encG,sg0,ex0,ty0,encP]
    ·
     have hz:untilR L (sigR L (typeR L (L.length+1))) ((formalsR L (typeR L (L.length+1)) (Pl.name L (p.must L wType))).2.adv.must L [123])=(acc,u):=by rw[hq,untilL_end _ (.inr h125)];simp
     refine sr fun Z z=>?_
     simp[encP,encD,sg0,ex0,ty0,hub]
     refine RVn_call ((by have h:=c_ref07x_Is g L hn u hu1 [125];simp only[encP] at h;first|exact h|(simp only[hub] at h;exact h)|(simp only[hnb] at h;exact h)|(rw[hb] at h;exact h))) ?_
     simp[h125]
     repeat refine sg ?_
     apply z
     refine cF (by simp) ?_
     refine AT_exit ?_
     refine hK7 _ ?_
     refine sr fun Z z=>?_
     simp
     refine RVn_call ((by have h:=c_ref07x_Must g L hn u hu1 [125];simp only[encP] at h;first|exact h|(simp only[hub] at h;exact h)|(simp only[hnb] at h;exact h)|(rw[hb] at h;exact h))) ?_
     simp
     apply z
     refine AT_seq_draw_m false [(1,1),(2,2),(3,3),(4,4)] Pt.mixed (by kernel_rfl) ⟨by simp[Im,okP,AS.get,TV.strip],fun h=>by cases h⟩ fun Z z=>?_
     simp
     refine RVdn_call ((by have h:=c_ref07x_Must g L hn (u.must L [125]) (Pl.must_lt hE [125] hu1).2 [59];simp only[encP] at h;first|exact h|(simp only[hub] at h;exact h)|(simp only[hnb] at h;exact h)|(rw[hb] at h;exact h))) ?_
     simp
     apply z
     refine AT_ret ?_
     simp[encP,encD,Tryz.f28]
     all_goals first|(· simp[typedR,typedH,hnx,hz,sg0,ex0,ty0])|skip
   ·
    have hz:untilR L (sigR L (typeR L (L.length+1))) ((formalsR L (typeR L (L.length+1)) (Pl.name L (p.must L wType))).2.adv.must L [123])=(acc,u):=by rw[hq,untilL_end _ (.inl hub)];simp
    refine sr fun Z z=>?_
    simp[encP,encD,sg0,ex0,ty0,hub]
    apply z
    refine cF (by simp) ?_
    refine AT_exit ?_
    refine hK7 _ ?_
    refine sr fun Z z=>?_
    simp
    refine RVn_call ((by have h:=c_ref07x_Must g L hn u hu1 [125];simp only[encP] at h;first|exact h|(simp only[hub] at h;exact h)|(simp only[hnb] at h;exact h)|(rw[hb] at h;exact h))) ?_
    simp
    apply z
    refine AT_seq_draw_m false [(1,1),(2,2),(3,3),(4,4)] Pt.mixed (by kernel_rfl) ⟨by simp[Im,okP,AS.get,TV.strip],fun h=>by cases h⟩ fun Z z=>?_
    simp
    refine RVdn_call ((by have h:=c_ref07x_Must g L hn (u.must L [125]) (Pl.must_lt hE [125] hu1).2 [59];simp only[encP] at h;first|exact h|(simp only[hub] at h;exact h)|(simp only[hnb] at h;exact h)|(rw[hb] at h;exact h))) ?_
    simp
    apply z
    refine AT_ret ?_
    simp[encP,encD,Tryz.f28]
    all_goals first|(· simp[typedR,typedH,hnx,hz,sg0,ex0,ty0])|skip

end Go.Proofs.YtfgafcjebfjepaaGreatDoor
end

section
/- Contracts: castingsref08: methods, words. -/
set_option linter.all false
set_option maxHeartbeats 1000000
set_option maxRecDepth 10000
namespace Go.Proofs.YtfgafcjebfjepaaGreatDoor
open Go Go.Pv
variable (g:Nat→Option (List AV)) (rnd:Bool)

theorem c_ref08x_method (L:List Tk) (hE:EndsT L) (hn:L.length≤1000000) (hL:∀ t∈L,t.2.1.length≤1000000) (p:Pl) (hk:p.k < L.length):Valid Tryz.prog (G0 g false) 29 [.agg (encP L p)] (.tup [.agg (encP L (methodR L (typeR L (L.length+1)) (exprR L (L.length+1)) p).2),.agg (encD (methodR L (typeR L (L.length+1)) (exprR L (L.length+1)) p).1)]):=by
 have h1:=Pl.must_lt hE wFunc hk
 have h2:=Pl.must_lt hE [40] h1.2
 have h3:=Pl.name_lt hE h2.2
 have h4:=Pl.name_lt hE h3.2
 obtain ⟨v,hv⟩:∃ v,v=recvR L (Pl.name L (Pl.name L ((p.must L wFunc).must L [40]))):=⟨_,rfl⟩
 have h5:v.2.k < L.length:=by rw[hv];exact (g_recv hE _ h4.2).2
 have h6:=Pl.must_lt hE [41] h5
 have h7:=g_sig hE _ h6.2
 have h8:=Pl.must_lt hE [123] h7.2
 have h9:=Pl.must_lt hE wReturn h8.2
 have h10:=g_ex hE _ h9.2
 have h11:=Pl.must_lt hE [125] h10.2
 refine valid_of [(104006,9)] Tryz.func29 rfl (by kernel_rfl) ?_
 refine sr fun Z z=>?_
 simp[encP,Tryz.f29]
 apply z
 refine sr fun Z z=>?_
 simp
 apply z
 refine sr fun Z z=>?_
 simp
 refine RVn_call ((by have h:=c_ref07x_Must g L hn p hk wFunc;simp only[encP] at h;first|exact h|(simp only[hub] at h;exact h)|(simp only[hnb] at h;exact h)|(rw[hb] at h;exact h))) ?_
 simp
 apply z
 refine sr fun Z z=>?_
 simp
 refine RVn_call ((by have h:=c_ref07x_Must g L hn (p.must L wFunc) h1.2 [40];simp only[encP] at h;first|exact h|(simp only[hub] at h;exact h)|(simp only[hnb] at h;exact h)|(rw[hb] at h;exact h))) ?_
 simp
 apply z
 refine sr fun Z z=>?_
 simp
 refine RVn_call ((by have h:=c_ref07x_Name g L hn ((p.must L wFunc).must L [40]) h2.2 hL;simp only[encP] at h;first|exact h|(simp only[hub] at h;exact h)|(simp only[hnb] at h;exact h)|(rw[hb] at h;exact h))) ?_
 simp
 apply z
 refine sr fun Z z=>?_
 simp
 refine RVn_call ((by have h:=c_ref07x_Name g L hn (Pl.name L ((p.must L wFunc).must L [40])) h3.2 hL;simp only[encP] at h;first|exact h|(simp only[hub] at h;exact h)|(simp only[hnb] at h;exact h)|(rw[hb] at h;exact h))) ?_
 simp
 apply z
 refine sr fun Z z=>?_
 simp
 apply z
 refine AT_seq_k fun K1 hK1=>?_
 refine AT_block ?_
 refine AT_loop_q [1,2,3,4,5] [1,2,3,4] (fun j s=>∃ q9 u acc m,varsG L [91] (L.length - (Pl.name L (Pl.name L ((p.must L wFunc).must L [40]))).k) (Pl.name L (Pl.name L ((p.must L wFunc).must L [40])))=(acc++(varsG L q9 m u).1,(varsG L q9 m u).2)∧(u.k < L.length∧L.length - u.k≤m∧acc.length+m≤L.length)∧((q9=[91]∧u=(Pl.name L (Pl.name L ((p.must L wFunc).must L [40])))∧acc=[])∨(q9=[44]∧(Pl.name L (Pl.name L ((p.must L wFunc).must L [40]))).is L [91]=true))∧j=m∧s={ n:=74,tm:=[(1,.lp 1 0),(2,.lp 2 0),(3,.lp 3 0),(4,.lp 4 0),(5,.v (.str q9) none)],bx:=[(1,encP L u),(2,[.slice [],.int .i64 0,.bool false]),(3,encD ⟨0,[],[],[],[],[],[],sg0,ex0,0⟩),(4,encD ⟨3,(Pl.name L ((p.must L wFunc).must L [40])).nm L,[],[],[],((p.must L wFunc).must L [40]).nm L,acc,sg0,ex0,(Pl.name L ((p.must L wFunc).must L [40])).at_ L⟩)],tb:=[(4,6,104006,9)],sh:=[],hint:=[(104006,9)] }) (L.length - (Pl.name L (Pl.name L ((p.must L wFunc).must L [40]))).k) (by first|rfl|simp) ?_ ?_
 ·
  exact ⟨[91],(Pl.name L (Pl.name L ((p.must L wFunc).must L [40]))),[],L.length - (Pl.name L (Pl.name L ((p.must L wFunc).must L [40]))).k,by simp,⟨h4.2,Nat.le_refl _,by simp⟩,.inl ⟨rfl,rfl,rfl⟩,rfl,by simp[encD,sg0,ex0,ty0,encP]⟩
 ·
  rintro j s ⟨q9,u,acc,m,hq,⟨hu1,hu2,hu3⟩,hsg,hjm,rfl⟩ K2 hK2
  subst hjm
  have his9:=c_ref07x_Is g L hn u hu1 q9
  refine AT_seq_k fun K3 hK3=>?_
  cases hsi:u.is L q9
  ·
   have hq2:varsG L [91] (L.length - (Pl.name L (Pl.name L ((p.must L wFunc).must L [40]))).k) (Pl.name L (Pl.name L ((p.must L wFunc).must L [40])))=(acc,u):=by rw[hq,varsG_end hsi];simp
   rcases hsg with ⟨rfl,hs2,rfl⟩|⟨rfl,hy91⟩
   ·
    have hv2:v=([],u):=by rw[hv,← hs2,recvR_no hsi]
    have hv3:=congrArg Prod.snd hv2
    simp only[] at hv3
    have hv4:=congrArg Prod.fst hv2
    simp only[] at hv4
    refine sr fun Z z=>?_
    simp[encP,encD,sg0,ex0,ty0]
    refine RVn_call ((by have h:=his9;simp only[encP] at h;first|exact h|(simp only[hub] at h;exact h)|(simp only[hnb] at h;exact h)|(rw[hb] at h;exact h))) ?_
    simp[hsi]
    apply z
    refine cF (by simp) ?_
    refine AT_exit ?_
    refine hK1 _ ?_
    refine AT_seq_k fun K4 hK4=>?_
    refine sr fun Z z=>?_
    simp
    apply z
    refine cF (by simp) ?_
    refine AT_skip ?_
    refine hK4 _ ?_
    refine sr fun Z z=>?_
    simp
    refine RVn_call ((by have h:=c_ref07x_Must g L hn v.2 h5 [41];rw[hv3] at h;simp only[encP] at h;first|exact h|(simp only[hub] at h;exact h)|(simp only[hnb] at h;exact h)|(rw[hb] at h;exact h))) ?_
    simp
    apply z
    refine sr fun Z z=>?_
    simp
    refine RVn_call ((by have h:=c_ref08x_sig g L hE hn hL (v.2.must L [41]) h6.2;rw[hv3] at h;simp only[encP] at h;first|exact h|(simp only[hub] at h;exact h)|(simp only[hnb] at h;exact h)|(rw[hb] at h;exact h))) ?_
    simp[encG]
    apply z
    refine sr fun Z z=>?_
    simp
    refine RVn_call ((by have h:=c_ref07x_Must g L hn (sigR L (typeR L (L.length+1)) (v.2.must L [41])).2 h7.2 [123];rw[hv3] at h;simp only[encP] at h;first|exact h|(simp only[hub] at h;exact h)|(simp only[hnb] at h;exact h)|(rw[hb] at h;exact h))) ?_
    simp
    refine RVn_call ((by have h:=c_ref07x_Must g L hn ((sigR L (typeR L (L.length+1)) (v.2.must L [41])).2.must L [123]) h8.2 wReturn;rw[hv3] at h;simp only[encP] at h;first|exact h|(simp only[hub] at h;exact h)|(simp only[hnb] at h;exact h)|(rw[hb] at h;exact h))) ?_
    simp
    apply z
    refine AT_seq_k fun K5 hK5=>?_
    cases hb:(((sigR L (typeR L (L.length+1)) (v.2.must L [41])).2.must L [123]).must L wReturn).bad
    ·
     have hex:=exR_ok (rE:=(exprR L (L.length+1))) hb
     refine sr fun Z z=>?_
     rw[←hv3]
     simp[hb]
     apply z
     refine cT (by simp) ?_
     refine AT_region_q fun Z z=>?_
     simp
     refine RVn_call ((by have h:=c_ref07x_Expr g L hE hn hL (L.length+1) (((sigR L (typeR L (L.length+1)) (v.2.must L [41])).2.must L [123]).must L wReturn) (by omega) h9.2;simp only[encP] at h;first|exact h|(simp only[hub] at h;exact h)|(simp only[hnb] at h;exact h)|(rw[hb] at h;exact h))) ?_
     simp[encE_def]
     apply z
     refine hK5 _ ?_
     refine AT_seq_draw_m false [(1,1),(2,2),(3,3),(4,4)] Pt.mixed (by kernel_rfl) ⟨by simp[Im,okP,AS.get,TV.strip],fun h=>by cases h⟩ fun Z z=>?_
     simp
     refine RVdn_call ((by have h:=c_ref07x_Must g L hn (exR (exprR L (L.length+1)) (((sigR L (typeR L (L.length+1)) (v.2.must L [41])).2.must L [123]).must L wReturn)).2 h10.2 [125];rw[hex] at h;simp only[encP] at h;first|exact h|(simp only[hub] at h;exact h)|(simp only[hnb] at h;exact h)|(rw[hb] at h;exact h))) ?_
     simp
     refine RVdn_call ((by have h:=c_ref07x_Must g L hn ((exR (exprR L (L.length+1)) (((sigR L (typeR L (L.length+1)) (v.2.must L [41])).2.must L [123]).must L wReturn)).2.must L [125]) h11.2 [59];rw[hex] at h;simp only[encP] at h;first|exact h|(simp only[hub] at h;exact h)|(simp only[hnb] at h;exact h)|(rw[hb] at h;exact h))) ?_
     simp
     apply z
     refine AT_ret ?_
     simp[encP,encD,Tryz.f29]
     all_goals first|(· simp[methodR,← hv,hex,hv4])|skip
    ·
     have hex:=exR_no (rE:=(exprR L (L.length+1))) hb
     refine sr fun Z z=>?_
     rw[←hv3]
     simp[hb]
     apply z
     refine cF (by simp) ?_
     refine AT_skip ?_
     refine hK5 _ ?_
     refine AT_seq_draw_m false [(1,1),(2,2),(3,3),(4,4)] Pt.mixed (by kernel_rfl) ⟨by simp[Im,okP,AS.get,TV.strip],fun h=>by cases h⟩ fun Z z=>?_
     simp
     refine RVdn_call ((by have h:=c_ref07x_Must g L hn (exR (exprR L (L.length+1)) (((sigR L (typeR L (L.length+1)) (v.2.must L [41])).2.must L [123]).must L wReturn)).2 h10.2 [125];rw[hex] at h;simp only[encP] at h;first|exact h|(simp only[hub] at h;exact h)|(simp only[hnb] at h;exact h)|(rw[hb] at h;exact h))) ?_
     simp
     refine RVdn_call ((by have h:=c_ref07x_Must g L hn ((exR (exprR L (L.length+1)) (((sigR L (typeR L (L.length+1)) (v.2.must L [41])).2.must L [123]).must L wReturn)).2.must L [125]) h11.2 [59];rw[hex] at h;simp only[encP] at h;first|exact h|(simp only[hub] at h;exact h)|(simp only[hnb] at h;exact h)|(rw[hb] at h;exact h))) ?_
     simp
     apply z
     refine AT_ret ?_
     simp[encP,encD,Tryz.f29]
     all_goals first|(· simp[methodR,← hv,hex,hv4,ex0,ty0])|skip
   ·
    have hv2:v=(acc,u.must L [93]):=by rw[hv,recvR_yes hy91,hq2]
    have hv3:=congrArg Prod.snd hv2
    simp only[] at hv3
    have hv4:=congrArg Prod.fst hv2
    simp only[] at hv4
    refine sr fun Z z=>?_
    simp[encP,encD,sg0,ex0,ty0]
    refine RVn_call ((by have h:=his9;simp only[encP] at h;first|exact h|(simp only[hub] at h;exact h)|(simp only[hnb] at h;exact h)|(rw[hb] at h;exact h))) ?_
    simp[hsi]
    apply z
    refine cF (by simp) ?_
    refine AT_exit ?_
    refine hK1 _ ?_
    refine AT_seq_k fun K6 hK6=>?_
    refine sr fun Z z=>?_
    simp
    apply z
    refine cT (by simp) ?_
    refine AT_region_q fun Z z=>?_
    simp
    refine RVn_call ((by have h:=c_ref07x_Must g L hn u hu1 [93];simp only[encP] at h;first|exact h|(simp only[hub] at h;exact h)|(simp only[hnb] at h;exact h)|(rw[hb] at h;exact h))) ?_
    simp
    apply z
    refine hK6 _ ?_
    refine sr fun Z z=>?_
    simp
    refine RVn_call ((by have h:=c_ref07x_Must g L hn v.2 h5 [41];rw[hv3] at h;simp only[encP] at h;first|exact h|(simp only[hub] at h;exact h)|(simp only[hnb] at h;exact h)|(rw[hb] at h;exact h))) ?_
    simp
    apply z
    refine sr fun Z z=>?_
    simp
    refine RVn_call ((by have h:=c_ref08x_sig g L hE hn hL (v.2.must L [41]) h6.2;rw[hv3] at h;simp only[encP] at h;first|exact h|(simp only[hub] at h;exact h)|(simp only[hnb] at h;exact h)|(rw[hb] at h;exact h))) ?_
    simp[encG]
    apply z
    refine sr fun Z z=>?_
    simp
    refine RVn_call ((by have h:=c_ref07x_Must g L hn (sigR L (typeR L (L.length+1)) (v.2.must L [41])).2 h7.2 [123];rw[hv3] at h;simp only[encP] at h;first|exact h|(simp only[hub] at h;exact h)|(simp only[hnb] at h;exact h)|(rw[hb] at h;exact h))) ?_
    simp
    refine RVn_call ((by have h:=c_ref07x_Must g L hn ((sigR L (typeR L (L.length+1)) (v.2.must L [41])).2.must L [123]) h8.2 wReturn;rw[hv3] at h;simp only[encP] at h;first|exact h|(simp only[hub] at h;exact h)|(simp only[hnb] at h;exact h)|(rw[hb] at h;exact h))) ?_
    simp
    apply z
    refine AT_seq_k fun K7 hK7=>?_
    cases hb:(((sigR L (typeR L (L.length+1)) (v.2.must L [41])).2.must L [123]).must L wReturn).bad
    ·
     have hex:=exR_ok (rE:=(exprR L (L.length+1))) hb
     refine sr fun Z z=>?_
     rw[←hv3]
     simp[hb]
     apply z
     refine cT (by simp) ?_
     refine AT_region_q fun Z z=>?_
     simp
     refine RVn_call ((by have h:=c_ref07x_Expr g L hE hn hL (L.length+1) (((sigR L (typeR L (L.length+1)) (v.2.must L [41])).2.must L [123]).must L wReturn) (by omega) h9.2;simp only[encP] at h;first|exact h|(simp only[hub] at h;exact h)|(simp only[hnb] at h;exact h)|(rw[hb] at h;exact h))) ?_
     simp[encE_def]
     apply z
     refine hK7 _ ?_
     refine AT_seq_draw_m false [(1,1),(2,2),(3,3),(4,4)] Pt.mixed (by kernel_rfl) ⟨by simp[Im,okP,AS.get,TV.strip],fun h=>by cases h⟩ fun Z z=>?_
     simp
     refine RVdn_call ((by have h:=c_ref07x_Must g L hn (exR (exprR L (L.length+1)) (((sigR L (typeR L (L.length+1)) (v.2.must L [41])).2.must L [123]).must L wReturn)).2 h10.2 [125];rw[hex] at h;simp only[encP] at h;first|exact h|(simp only[hub] at h;exact h)|(simp only[hnb] at h;exact h)|(rw[hb] at h;exact h))) ?_
     simp
     refine RVdn_call ((by have h:=c_ref07x_Must g L hn ((exR (exprR L (L.length+1)) (((sigR L (typeR L (L.length+1)) (v.2.must L [41])).2.must L [123]).must L wReturn)).2.must L [125]) h11.2 [59];rw[hex] at h;simp only[encP] at h;first|exact h|(simp only[hub] at h;exact h)|(simp only[hnb] at h;exact h)|(rw[hb] at h;exact h))) ?_
     simp
     apply z
     refine AT_ret ?_
     simp[encP,encD,Tryz.f29]
     all_goals first|(· simp[methodR,← hv,hex,hv4])|skip
    ·
     have hex:=exR_no (rE:=(exprR L (L.length+1))) hb
     refine sr fun Z z=>?_
     rw[←hv3]
     simp[hb]
     apply z
     refine cF (by simp) ?_
     refine AT_skip ?_
     refine hK7 _ ?_
     refine AT_seq_draw_m false [(1,1),(2,2),(3,3),(4,4)] Pt.mixed (by kernel_rfl) ⟨by simp[Im,okP,AS.get,TV.strip],fun h=>by cases h⟩ fun Z z=>?_
     simp
     refine RVdn_call ((by have h:=c_ref07x_Must g L hn (exR (exprR L (L.length+1)) (((sigR L (typeR L (L.length+1)) (v.2.must L [41])).2.must L [123]).must L wReturn)).2 h10.2 [125];rw[hex] at h;simp only[encP] at h;first|exact h|(simp only[hub] at h;exact h)|(simp only[hnb] at h;exact h)|(rw[hb] at h;exact h))) ?_
     simp
     refine RVdn_call ((by have h:=c_ref07x_Must g L hn ((exR (exprR L (L.length+1)) (((sigR L (typeR L (L.length+1)) (v.2.must L [41])).2.must L [123]).must L wReturn)).2.must L [125]) h11.2 [59];rw[hex] at h;simp only[encP] at h;first|exact h|(simp only[hub] at h;exact h)|(simp only[hnb] at h;exact h)|(rw[hb] at h;exact h))) ?_
     simp
     apply z
     refine AT_ret ?_
     simp[encP,encD,Tryz.f29]
     all_goals first|(· simp[methodR,← hv,hex,hv4,ex0,ty0])|skip
  ·
   obtain ⟨m,rfl⟩:∃ i,j=i+1:=⟨j - 1,by omega⟩
   have hub:=(Pl.is_bad hsi).1
   have hua:u.adv.k < L.length:=Pl.adv_lt hE hu1 hsi
   have hun:=Pl.name_lt hE hua
   have hak:u.adv.k=u.k+1:=rfl
   refine sr fun Z z=>?_
   simp[encP,encD,sg0,ex0,ty0]
   refine RVn_call ((by have h:=his9;simp only[encP] at h;first|exact h|(simp only[hub] at h;exact h)|(simp only[hnb] at h;exact h)|(rw[hb] at h;exact h))) ?_
   simp[hsi]
   apply z
   refine cT (by simp) ?_
   refine AT_skip ?_
   refine hK3 _ ?_
   refine AT_block ?_
   refine sr fun Z z=>?_
   simp
   apply z
   refine sr fun Z z=>?_
   simp
   repeat refine sg ?_
   apply z
   refine sr fun Z z=>?_
   simp
   refine RVn_call ((by have h:=c_ref07x_Name g L hn u.adv hua hL;simp only[encP,Pl.adv] at h;first|exact h|(simp only[hub] at h;exact h)|(simp only[hnb] at h;exact h)|(rw[hb] at h;exact h))) ?_
   simp
   apply z
   refine sr fun Z z=>?_
   simp
   repeat refine sg ?_
   apply z
   refine AT_region_q fun Z z=>?_
   simp
   apply z
   refine hK2 _ (by first|rfl|simp) (m) (by omega) ?_
   refine ⟨[44],u.adv.name L,acc++[u.adv.nm L],m,by rw[hq,varsG_step hsi];simp,⟨hun.2,by omega,by simp;omega⟩,.inr ⟨rfl,hsg.elim (fun h=>by rw[←h.2.1,← h.1];exact hsi) (fun h=>h.2)⟩,rfl,by simp[encS,encD,sg0,ex0,ty0,encP,Pl.adv]⟩

end Go.Proofs.YtfgafcjebfjepaaGreatDoor
end

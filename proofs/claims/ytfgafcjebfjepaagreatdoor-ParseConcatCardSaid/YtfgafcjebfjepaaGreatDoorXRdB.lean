import Derived.Test.YtfgafcjebfjepaaGreatDoorPt
import Derived.Test.YtfgafcjebfjepaaGreatDoorPvPb
import Derived.Test.YtfgafcjebfjepaaGreatDoorPvLa
import Derived.Test.YtfgafcjebfjepaaGreatDoorPvRb
import Derived.Test.YtfgafcjebfjepaaGreatDoorXNaB
import Derived.Test.YtfgafcjebfjepaaGreatDoorXLxE
section
/- Contracts: the reference reads. -/
set_option linter.all false
set_option maxHeartbeats 1000000
set_option maxRecDepth 10000
namespace Go.Proofs.YtfgafcjebfjepaaGreatDoor
open Go Go.Pv
variable (g:Nat→Option (List AV)) (rnd:Bool)

theorem row_hdK {L:List Tk} {p:Pl} (hk:p.k < L.length):row (L.map encK) p.k=encK (hdK L p):=by
 rw[row_map _ _ _ hk,hdK,List.getD_eq_getElem?_getD,List.getElem?_eq_getElem hk];rfl

theorem c_ref07x_Is (L:List Tk) (hn:L.length≤1000000) (p:Pl) (hk:p.k < L.length) (s:Str):Valid Tryz.prog (G0 g false) 27 [.agg (encP L p),.str s] (.bool (p.is L s)):=by
 have hrow:row (L.map encK) p.k=encK (hdK L p):=row_hdK hk
 refine valid_of [] Tryz.func27 rfl (by kernel_rfl) ?_
 refine sr fun Z z=>?_
 simp[encP,Tryz.f27]
 apply z
 cases hb:p.bad
 ·
  cases h3:((hdK L p).1 != 3)
  ·
   refine sr fun Z z=>?_
   simp[hrow,encK,h3]
   repeat refine sg ?_
   apply z
   refine AT_ret ?_
   simp[Tryz.f27]
   all_goals first|(· simp[Pl.is,hb])|(· simp[Pl.is,hb,h3])
  ·
   refine sr fun Z z=>?_
   simp[hrow,encK,h3]
   repeat refine sg ?_
   apply z
   refine AT_ret ?_
   simp[Tryz.f27]
   all_goals first|(· simp[Pl.is,hb])|(· simp[Pl.is,hb,h3])
 ·
  refine sr fun Z z=>?_
  simp
  apply z
  refine AT_ret ?_
  simp[Tryz.f27]
  all_goals first|(· simp[Pl.is,hb])|(· simp[Pl.is,hb,h3])

theorem c_ref07x_Must (L:List Tk) (hn:L.length≤1000000) (p:Pl) (hk:p.k < L.length) (s:Str):Valid Tryz.prog (G0 g false) 31 [.agg (encP L p),.str s] (.agg (encP L (p.must L s))):=by

 refine valid_of [] Tryz.func31 rfl (by kernel_rfl) ?_
 refine sr fun Z z=>?_
 simp[encP,Tryz.f31]
 apply z
 refine AT_seq_k fun K1 hK1=>?_
 cases his:p.is L s
 ·
  refine sr fun Z z=>?_
  simp
  refine RVn_call (c_ref07x_Is g L hn p hk s) ?_
  simp[his]
  apply z
  refine cF (by simp) ?_
  refine AT_skip ?_
  refine hK1 _ ?_
  refine sr fun Z z=>?_
  simp
  apply z
  refine sr fun Z z=>?_
  simp
  apply z
  refine AT_ret ?_
  simp[encP,Tryz.f31]
  all_goals simp[Pl.must,his,Pl.fail]
 ·
  refine sr fun Z z=>?_
  simp
  refine RVn_call (c_ref07x_Is g L hn p hk s) ?_
  simp[his]
  apply z
  refine cT (by simp) ?_
  refine sr fun Z z=>?_
  simp
  repeat refine sg ?_
  apply z
  refine sr fun Z z=>?_
  simp
  apply z
  refine AT_ret ?_
  simp[encP,Tryz.f31]
  all_goals simp[Pl.must,his,Pl.adv]

theorem c_ref07x_Name (L:List Tk) (hn:L.length≤1000000) (p:Pl) (hk:p.k < L.length) (hL:∀ t∈L,t.2.1.length≤1000000):Valid Tryz.prog (G0 g false) 64 [.agg (encP L p)] (.tup [.agg (encP L (p.name L)),.str (p.nm L),.int .i64 (p.at_ L)]):=by
 have hrow:row (L.map encK) p.k=encK (hdK L p):=row_hdK hk
 have htl:(hdK L p).2.1.length≤1000000:=by
   rw[hdK,List.getD_eq_getElem?_getD,List.getElem?_eq_getElem hk];exact hL _ (by simp)
 refine valid_of [] Tryz.func64 rfl (by kernel_rfl) ?_
 refine sr fun Z z=>?_
 simp[encP,Tryz.f64]
 apply z
 refine AT_seq_k fun K1 hK1=>?_
 cases hb:p.bad
 ·
  cases h1:((hdK L p).1==1)
  ·
   have h1b:((hdK L p).1 != 1)=true:=by simp only[bne,h1];rfl
   refine sr fun Z z=>?_
   simp[hrow,encK,h1b]
   repeat refine sg ?_
   apply z
   refine cT (by simp) ?_
   refine sr fun Z z=>?_
   simp
   apply z
   refine sr fun Z z=>?_
   simp
   apply z
   refine AT_ret ?_
   simp[encP,Tryz.f64]
   all_goals first|(· simp[Pl.name,Pl.nm,Pl.at_,Pl.named,hb,Pl.fail])|(· simp[Pl.name,Pl.nm,Pl.at_,Pl.named,hb,h1,Pl.fail])|(· simp[Pl.name,Pl.nm,Pl.at_,Pl.named,hb,h1,h2,encP,Pl.fail,Pl.adv])
  ·
   have h1b:((hdK L p).1 != 1)=false:=by simp only[bne,h1];rfl
   cases h2:isName (hdK L p).2.1
   ·
    refine sr fun Z z=>?_
    simp[hrow,encK,h1b]
    repeat refine sg ?_
    refine RVn_call (c_ref01x_Is g false _ (by omega)) ?_
    simp[h2]
    repeat refine sg ?_
    apply z
    refine cT (by simp) ?_
    refine sr fun Z z=>?_
    simp
    apply z
    refine sr fun Z z=>?_
    simp
    apply z
    refine AT_ret ?_
    simp[encP,Tryz.f64]
    all_goals first|(· simp[Pl.name,Pl.nm,Pl.at_,Pl.named,hb,Pl.fail])|(· simp[Pl.name,Pl.nm,Pl.at_,Pl.named,hb,h1,Pl.fail])|(· simp[Pl.name,Pl.nm,Pl.at_,Pl.named,hb,h1,h2,Pl.fail])
   ·
    refine sr fun Z z=>?_
    simp[hrow,encK,h1b]
    repeat refine sg ?_
    refine RVn_call (c_ref01x_Is g false _ (by omega)) ?_
    simp[h2]
    repeat refine sg ?_
    apply z
    refine cF (by simp) ?_
    refine AT_skip ?_
    refine hK1 _ ?_
    refine sr fun Z z=>?_
    simp[hrow,encK]
    repeat refine sg ?_
    apply z
    refine sr fun Z z=>?_
    simp
    repeat refine sg ?_
    apply z
    refine AT_seq_draw_m false [(1,1),(2,2),(5,5),(42,5),(44,5)] Pt.mixed (by kernel_rfl) ⟨by simp[Im,okP,AS.get,TV.strip],fun h=>by cases h⟩ fun Z z=>?_
    simp
    apply z
    refine AT_ret ?_
    simp[encP,Tryz.f64]
    all_goals first|(· simp[Pl.name,Pl.nm,Pl.at_,Pl.named,hb,Pl.fail])|(· simp[Pl.name,Pl.nm,Pl.at_,Pl.named,hb,h1,Pl.fail])|(· simp[Pl.name,Pl.nm,Pl.at_,Pl.named,hb,h1,h2,Pl.adv])
 ·
  refine sr fun Z z=>?_
  simp
  apply z
  refine cT (by simp) ?_
  refine sr fun Z z=>?_
  simp
  apply z
  refine sr fun Z z=>?_
  simp
  apply z
  refine AT_ret ?_
  simp[encP,Tryz.f64]
  all_goals first|(· simp[Pl.name,Pl.nm,Pl.at_,Pl.named,hb,Pl.fail])|(· simp[Pl.name,Pl.nm,Pl.at_,Pl.named,hb,h1,encP,Pl.fail])|(· simp[Pl.name,Pl.nm,Pl.at_,Pl.named,hb,h1,h2,encP,Pl.fail,Pl.adv])

theorem c_ref07x_Finish (L:List Tk) (hn:L.length≤1000000) (p:Pl) (hk:p.k < L.length):Valid Tryz.prog (G0 g false) 32 [.agg (encP L p)] (.tup [.int .i64 (finR L p).1,.int .i64 (finR L p).2]):=by
 have hrow:row (L.map encK) p.k=encK (hdK L p):=row_hdK hk
 refine valid_of [] Tryz.func32 rfl (by kernel_rfl) ?_
 refine sr fun Z z=>?_
 simp[encP,Tryz.f32]
 apply z
 refine AT_seq_k fun K1 hK1=>?_
 cases hb:p.bad
 ·
  cases h3:((hdK L p).1==3)
  ·
   refine sr fun Z z=>?_
   simp[hrow,encK,h3]
   repeat refine sg ?_
   apply z
   refine cF (by simp) ?_
   refine AT_skip ?_
   refine hK1 _ ?_
   refine AT_seq_draw Pt.mixed (by kernel_rfl) fun Z z=>?_
   simp[hrow,encK]
   repeat refine sg ?_
   apply z
   refine AT_ret ?_
   simp[Tryz.f32]
   all_goals first|(· simp[finR,hb])|(· simp[finR,hb,h3])
  ·
   refine sr fun Z z=>?_
   simp[hrow,encK,h3]
   repeat refine sg ?_
   apply z
   refine cT (by simp) ?_
   refine sr fun Z z=>?_
   simp
   apply z
   refine AT_ret ?_
   simp[Tryz.f32]
   all_goals first|(· simp[finR,hb])|(· simp[finR,hb,h3])
 ·
  refine sr fun Z z=>?_
  simp
  apply z
  refine cF (by simp) ?_
  refine AT_skip ?_
  refine hK1 _ ?_
  refine AT_seq_draw Pt.mixed (by kernel_rfl) fun Z z=>?_
  simp[hrow,encK]
  repeat refine sg ?_
  apply z
  refine AT_ret ?_
  simp[Tryz.f32]
  all_goals first|(· simp[finR,hb])|(· simp[finR,hb,h3])

end Go.Proofs.YtfgafcjebfjepaaGreatDoor
end

section
/- Contracts: the reference reads types. -/
set_option linter.all false
set_option maxHeartbeats 1000000
set_option maxRecDepth 10000
namespace Go.Proofs.YtfgafcjebfjepaaGreatDoor
open Go Go.Pv
variable (g:Nat→Option (List AV)) (rnd:Bool)

theorem c_ref07x_targs (L:List Tk) (hE:EndsT L) (hn:L.length≤1000000) (q n:Nat) (hT:∀ p,L.length - p.k < n→p.k < L.length→Valid Tryz.prog (G0 g false) 67 [.agg (encP L p)] (.tup [.agg (encP L (typeR L q p).2),.agg (encTy (typeR L q p).1)])) (p:Pl) (hk:p.k < L.length) (hc:p.is L [91]=true→L.length - p.adv.k < n):Valid Tryz.prog (G0 g false) 68 [.agg (encP L p)] (.tup [.agg (encP L (targsR L (typeR L q) p).2),.slice ((targsR L (typeR L q) p).1.map encTy)]):=by

 refine valid_of [(4,26)] Tryz.func68 rfl (by kernel_rfl) ?_
 refine sr fun Z z=>?_
 simp[encP,Tryz.f68]
 apply z
 refine AT_seq_k fun K1 hK1=>?_
 cases h91:p.is L [91]
 ·
  refine sr fun Z z=>?_
  simp
  refine RVn_call ((by have h:=c_ref07x_Is g L hn p hk [91];first|(simp only[encP,hpb] at h;exact h)|exact h)) ?_
  simp[h91]
  apply z
  refine cT (by simp) ?_
  refine sr fun Z z=>?_
  simp
  apply z
  refine AT_ret ?_
  simp[encP,Tryz.f68]
  all_goals first|(· rw[hq,tloopR,show Pl.adv ⟨k,false⟩=⟨k+1,false⟩ from rfl,hi];simp[encP])|(· simp[targsR,h91])
 ·
  have hpb:p.bad=false:=(Pl.is_bad h91).1
  have hlt:p.k+1 < L.length:=Pl.adv_lt hE hk h91
  have hcn:L.length - (p.k+1) < n:=hc h91
  refine sr fun Z z=>?_
  simp[hpb]
  refine RVn_call ((by have h:=c_ref07x_Is g L hn p hk [91];first|(simp only[encP,hpb] at h;exact h)|exact h)) ?_
  simp[h91]
  apply z
  refine cF (by simp) ?_
  refine AT_skip ?_
  refine hK1 _ ?_
  refine sr fun Z z=>?_
  simp
  apply z
  refine AT_seq_k fun K2 hK2=>?_
  refine AT_block ?_
  refine AT_loop_q [1,2,4] [1,2] (fun j s=>∃ k acc m,targsR L (typeR L q) p=(acc++(tloopR L (typeR L q) m ⟨k,false⟩).1,(tloopR L (typeR L q) m ⟨k,false⟩).2)∧(k+1 < L.length∧L.length - k≤m∧L.length - (k+1) < n)∧acc.length≤k∧j=m∧s={ n:=34,tm:=[(1,.lp 1 0),(2,.lp 2 0),(4,.v (.slice (acc.map encTy)) (some (4,26)))],bx:=[(1,[.slice (L.map encK),.int .i64 k,.bool false]),(2,[.slice [],.int .i64 0,.bool false])],tb:=[],sh:=[],hint:=[(4,26)] }) (L.length - p.k) (by first|rfl|simp) ?_ ?_
  ·
   refine ⟨p.k,[],L.length - p.k,?_,⟨hlt,Nat.le_refl _,hcn⟩,by simp,rfl,by simp⟩
   have hpp:p=⟨p.k,false⟩:=Pl.eta_ hpb
   rw[targsR,if_pos h91,← hpp];simp
  ·
   rintro j s ⟨k,acc,m,hq,⟨hk1,hk2,hk3⟩,hka,rfl,rfl⟩ K3 hK3
   obtain ⟨m,rfl⟩:∃ i,j=i+1:=⟨j - 1,by omega⟩
   have hg:=typeR_lt hE q ⟨k+1,false⟩ hk1
   have hgk:k+1≤(typeR L q ⟨k+1,false⟩).2.k:=hg.1
   refine AT_seq_k fun K4 hK4=>?_
   refine sr fun Z z=>?_
   simp
   apply z
   refine cT (by simp) ?_
   refine AT_skip ?_
   refine hK4 _ ?_
   refine AT_block ?_
   refine sr fun Z z=>?_
   simp
   repeat refine sg ?_
   apply z
   refine sr fun Z z=>?_
   simp
   apply z
   refine sr fun Z z=>?_
   simp
   refine RVn_call ((by have h:=hT ⟨k+1,false⟩ hk3 hk1;simpa[encP] using h)) ?_
   simp
   apply z
   refine sr fun Z z=>?_
   simp
   repeat refine sg ?_
   apply z
   cases hi:(typeR L q ⟨k+1,false⟩).2.is L [44]
   ·
    refine sr fun Z z=>?_
    simp
    refine RVn_call ((by have h:=c_ref07x_Is g L hn (typeR L q ⟨k+1,false⟩).2 hg.2 [44];first|(simp only[encP,hib] at h;exact h)|exact h)) ?_
    simp[hi]
    apply z
    refine cT (by simp) ?_
    refine sr fun Z z=>?_
    simp
    refine RVn_call (c_ref07x_Must g L hn (typeR L q ⟨k+1,false⟩).2 hg.2 [93]) ?_
    simp[encP]
    apply z
    refine AT_ret ?_
    simp[encP,Tryz.f68]
    all_goals first|(· rw[hq,tloopR,show Pl.adv ⟨k,false⟩=⟨k+1,false⟩ from rfl,hi];simp)|(· simp[targsR,h91,encP])
   ·
    have hib:(typeR L q ⟨k+1,false⟩).2.bad=false:=(Pl.is_bad hi).1
    refine sr fun Z z=>?_
    simp[hib]
    refine RVn_call ((by have h:=c_ref07x_Is g L hn (typeR L q ⟨k+1,false⟩).2 hg.2 [44];first|(simp only[encP,hib] at h;exact h)|exact h)) ?_
    simp[hi]
    apply z
    refine cF (by simp) ?_
    refine AT_skip ?_
    refine hK3 _ (by first|rfl|simp) (m) (by omega) ?_
    refine ⟨(typeR L q ⟨k+1,false⟩).2.k,acc++[(typeR L q ⟨k+1,false⟩).1],m,?_,⟨Pl.adv_lt hE hg.2 hi,by omega,by omega⟩,by simp;omega,rfl,by simp⟩
    have hpp:(typeR L q ⟨k+1,false⟩).2=⟨(typeR L q ⟨k+1,false⟩).2.k,false⟩:=Pl.eta_ hib
    rw[←hpp,hq,tloopR,show Pl.adv ⟨k,false⟩=⟨k+1,false⟩ from rfl,if_pos hi];simp

theorem c_ref07x_Type (L:List Tk) (hE:EndsT L) (hn:L.length≤1000000) (hL:∀ t∈L,t.2.1.length≤1000000):∀ (n:Nat) (p:Pl),L.length - p.k < n→p.k < L.length→Valid Tryz.prog (G0 g false) 67 [.agg (encP L p)] (.tup [.agg (encP L (typeR L n p).2),.agg (encTy (typeR L n p).1)]):=by
 intro n
 induction n with
 | zero=>intro p hc;omega
 | succ q ih=>
 intro p hc hk
 have hnl:=Pl.name_lt hE hk
 have hnx:(p.name L).is L [91]=true→L.length - (p.name L).adv.k < q:=fun h=>by
   have h1:p.k+1=(p.name L).k:=by
     have h2:=Pl.is_bad h
     unfold Pl.name at h2 ⊢
     split
     · rfl
     · rename_i h3;rw[if_neg h3] at h2;cases h2.1
   have h4:(p.name L).adv.k=(p.name L).k+1:=rfl
   omega
 refine valid_of [] Tryz.func67 rfl (by kernel_rfl) ?_
 refine sr fun Z z=>?_
 simp[encP,Tryz.f67]
 apply z
 refine sr fun Z z=>?_
 simp
 apply z
 refine sr fun Z z=>?_
 simp
 refine RVn_call (c_ref07x_Name g L hn p hk hL) ?_
 simp[encP]
 apply z
 refine AT_seq_k fun K1 hK1=>?_
 cases hb:(p.name L).bad
 ·
  refine sr fun Z z=>?_
  simp
  apply z
  refine cF (by simp) ?_
  refine AT_skip ?_
  refine hK1 _ ?_
  refine sr fun Z z=>?_
  simp
  refine RVn_call ((by have h:=c_ref07x_targs g L hE hn q q ih (p.name L) hnl.2 hnx;simp only[encP,hb] at h;exact h)) ?_
  simp
  apply z
  refine AT_seq_draw_m false [(1,1),(2,2),(3,3),(4,4)] Pt.mixed (by kernel_rfl) ⟨by simp[Im,okP,AS.get,TV.strip],fun h=>by cases h⟩ fun Z z=>?_
  simp
  apply z
  refine AT_ret ?_
  simp[encP,Tryz.f67]
  all_goals first|(· simp[typeR,targsR,his,hb,encP,encTy_mk])|(· simp[typeR,encTy_mk])
 ·
  have his:(p.name L).is L [91]=false:=by simp[Pl.is,hb]
  refine sr fun Z z=>?_
  simp
  apply z
  refine cT (by simp) ?_
  refine AT_seq_draw_m false [(1,1),(2,2),(3,3),(4,4)] Pt.mixed (by kernel_rfl) ⟨by simp[Im,okP,AS.get,TV.strip],fun h=>by cases h⟩ fun Z z=>?_
  simp
  apply z
  refine AT_ret ?_
  simp[encP,Tryz.f67]
  all_goals first|(· simp[typeR,targsR,his,hb,encTy_mk])|(· simp[typeR,hb,encP,encTy_mk])

end Go.Proofs.YtfgafcjebfjepaaGreatDoor
end

section
/- Contracts: a cursor over tokens. -/
set_option linter.all false
set_option maxHeartbeats 1000000
set_option maxRecDepth 10000
namespace Go.Proofs.YtfgafcjebfjepaaGreatDoor
open Go Go.Pv
variable (g:Nat→Option (List AV)) (rnd:Bool)

theorem c_read_Cursor_first (b:Nat) (c:Cur) (hb:c.l.length≤1000000):ValidC Tryz.prog (G0 g false) 122 [] b (encC 154 c) (.agg (encK c.first)) (encC 154 c):=by
 obtain ⟨l,err⟩:=c
 refine validC_of [] Tryz.func122 rfl (by kernel_rfl) ?_
 refine sr fun Z z=>?_
 simp[encC,errA,Tryz.f122]
 apply z
 refine AT_seq_k fun K1 hK1=>?_
 cases err
 cases l
 refine sr fun Z z=>?_
 simp
 apply z
 refine cT (by simp) ?_
 refine sr fun Z z=>?_
 simp
 apply z
 refine AT_ret ?_
 simp[encC,errA,encK,Cur.first,tk0,Tryz.f122]
 refine sr fun Z z=>?_
 simp[encK]
 apply z
 refine cF (by simp) ?_
 refine AT_skip ?_
 refine hK1 _ ?_
 refine sr fun Z z=>?_
 simp
 apply z
 refine AT_ret ?_
 simp[encC,errA,encK,Cur.first,tk0,Tryz.f122]
 refine sr fun Z z=>?_
 simp
 apply z
 refine cT (by simp) ?_
 refine sr fun Z z=>?_
 simp
 apply z
 refine AT_ret ?_
 simp[encC,errA,encK,Cur.first,tk0,Tryz.f122]

theorem c_read_Cursor_fail (b:Nat) (c:Cur) (hb:c.l.length≤1000000):ValidC Tryz.prog (G0 g false) 123 [] b (encC 154 c) (.tup []) (encC 154 c.fail):=by
 obtain ⟨l,err⟩:=c
 refine validC_of [] Tryz.func123 rfl (by kernel_rfl) ?_
 cases err
 refine sr fun Z z=>?_
 simp[encC,errA,Tryz.f123]
 apply z
 refine cT (by simp) ?_
 refine AT_region_q fun Z z=>?_
 simp
 refine RVn_callC (by have h:=c_read_Cursor_first g b ⟨l,none⟩ hb;simp only[encC,errA] at h;exact h) rfl ?_
 simp[encK]
 refine RVn_call (c_fault_New g false _ _) ?_
 simp
 apply z
 simp[encC,errA,Cur.fail,Tryz.f123]
 refine sr fun Z z=>?_
 simp[encC,errA]
 apply z
 refine cF (by simp) ?_
 refine AT_skip ?_
 simp[encC,errA,Cur.fail,Tryz.f123]

theorem c_read_Cursor_Failed (b:Nat) (c:Cur) (hb:c.l.length≤1000000):ValidC Tryz.prog (G0 g false) 155 [] b (encC 154 c) (.bool c.err.isSome) (encC 154 c):=by
 obtain ⟨l,err⟩:=c
 refine validC_of [] Tryz.func155 rfl (by kernel_rfl) ?_
 refine sr fun Z z=>?_
 simp[encC,errA,Tryz.f155]
 apply z
 cases err
 refine sr fun Z z=>?_
 simp
 apply z
 refine AT_ret ?_
 simp[encC,errA,Tryz.f155]
 refine sr fun Z z=>?_
 simp
 apply z
 refine AT_ret ?_
 simp[encC,errA,Tryz.f155]

theorem c_read_Cursor_Next (s:Str) (b:Nat) (c:Cur) (hb:c.l.length≤1000000):ValidC Tryz.prog (G0 g false) 81 [.str s] b (encC 154 c) (.bool (c.next s)) (encC 154 c):=by

 refine validC_of [] Tryz.func81 rfl (by kernel_rfl) ?_
 refine sr fun Z z=>?_
 simp[Tryz.f81]
 apply z
 refine sr fun Z z=>?_
 simp
 refine RVn_callC (c_read_Cursor_first g b c hb) rfl ?_
 simp[encK]
 apply z
 cases h1:(c.first.1 != 3)
 ·
  refine sr fun Z z=>?_
  simp[h1]
  apply z
  refine AT_ret ?_
  simp[Tryz.f81]
  all_goals simp[Cur.next,h1]
 ·
  refine sr fun Z z=>?_
  simp[h1]
  apply z
  refine AT_ret ?_
  simp[Tryz.f81]
  all_goals simp[Cur.next,h1]

theorem c_read_Cursor_Take (s:Str) (b:Nat) (c:Cur) (hb:c.l.length≤1000000):ValidC Tryz.prog (G0 g false) 77 [.str s] b (encC 154 c) (.bool (c.next s)) (encC 154 (c.take s)):=by

 refine validC_of [] Tryz.func77 rfl (by kernel_rfl) ?_
 refine sr fun Z z=>?_
 simp[Tryz.f77]
 apply z
 refine sr fun Z z=>?_
 simp
 refine RVn_callC (c_read_Cursor_Next g s b c hb) rfl ?_
 simp
 apply z
 refine AT_seq_k fun K1 hK1=>?_
 cases hn:c.next s
 refine sr fun Z z=>?_
 simp
 apply z
 refine cF (by simp) ?_
 refine AT_skip ?_
 refine hK1 _ ?_
 refine sr fun Z z=>?_
 simp
 apply z
 refine AT_ret ?_
 simp[Tryz.f77]
 first|(· simp[hn,Cur.take])|(· simp[hn,Cur.take,encC,hw,hw2,errA,encK])
 obtain ⟨he,t,r,hl,-,-⟩:=Cur.next_cons hn
 have hw:c.adv.l=r:=by simp[Cur.adv,hl]
 have hw2:c.adv.err=none:=he
 refine sr fun Z z=>?_
 simp
 apply z
 refine cT (by simp) ?_
 refine AT_region_q fun Z z=>?_
 simp[encC,hl,he,errA,encK]
 repeat refine sgK ?_
 apply z
 refine hK1 _ ?_
 refine sr fun Z z=>?_
 simp
 apply z
 refine AT_ret ?_
 simp[Tryz.f77]
 first|(· simp[hn,Cur.take])|(· simp[hn,Cur.take,encC,hw,hw2,errA])

theorem c_read_Cursor_Must (s:Str) (b:Nat) (c:Cur) (hb:c.l.length≤1000000):ValidC Tryz.prog (G0 g false) 78 [.str s] b (encC 154 c) (.tup []) (encC 154 (c.must s)):=by

 refine validC_of [] Tryz.func78 rfl (by kernel_rfl) ?_
 cases hn:c.next s
 ·
  refine sr fun Z z=>?_
  simp[Tryz.f78]
  refine RVn_callC (c_read_Cursor_Take g s b c hb) rfl ?_
  simp[Cur.take,hn]
  apply z
  refine cT (by simp) ?_
  refine AT_region_q fun Z z=>?_
  simp
  refine RVn_callC (c_read_Cursor_fail g b c hb) rfl ?_
  simp
  apply z
  simp[Tryz.f78]
  all_goals simp[Cur.must,hn]
 ·
  refine sr fun Z z=>?_
  simp
  refine RVn_callC (c_read_Cursor_Take g s b c hb) rfl ?_
  simp[Cur.take,hn]
  apply z
  refine cF (by simp) ?_
  refine AT_skip ?_
  simp[Tryz.f78]
  all_goals simp[Cur.must,hn]

theorem c_read_Cursor_Name (b:Nat) (c:Cur) (hb:c.l.length≤1000000) (hnm:∀ s:Str,s.length≤1000000→Valid Tryz.prog (G0 g false) 54 [.str s] (.bool (isName s))) (hts:∀ t∈c.l,t.2.1.length≤1000000):ValidC Tryz.prog (G0 g false) 124 [] b (encC 154 c) (.tup [.str c.nm,.int .i64 c.at_]) (encC 154 c.name):=by
 have hfs:c.first.2.1.length≤1000000:=by
   unfold Cur.first
   split
   · exact Nat.zero_le _
   · cases hl:c.l with
     | nil=>exact Nat.zero_le _
     | cons t r=>exact hts t (by rw[hl];simp)
 refine validC_of [] Tryz.func124 rfl (by kernel_rfl) ?_
 refine sr fun Z z=>?_
 simp[Tryz.f124]
 apply z
 refine sr fun Z z=>?_
 simp
 refine RVn_callC (c_read_Cursor_first g b c hb) rfl ?_
 simp[encK]
 apply z
 refine AT_seq_k fun K1 hK1=>?_
 cases h1:(c.first.1==1)
 have h1b:(c.first.1 != 1)=true:=by simp only[bne,h1];rfl
 refine sr fun Z z=>?_
 simp[h1b]
 apply z
 refine cT (by simp) ?_
 refine sr fun Z z=>?_
 simp
 refine RVn_callC (c_read_Cursor_fail g b c hb) rfl ?_
 simp
 apply z
 refine sr fun Z z=>?_
 simp
 apply z
 refine AT_ret ?_
 simp[Tryz.f124]
 first|(· simp[Cur.nm,Cur.at_,Cur.name,Cur.named,h1])|(· simp[Cur.nm,Cur.at_,Cur.name,Cur.named,h1,h2])|(· simp[Cur.nm,Cur.at_,Cur.name,Cur.named,h1,h2,encC,hw,hw2,errA,encK])
 have h1b:(c.first.1 != 1)=false:=by simp only[bne,h1];rfl
 cases h2:isName c.first.2.1
 refine sr fun Z z=>?_
 simp[h1b]
 refine RVn_call (hnm _ hfs) ?_
 simp[h2]
 repeat refine sgK ?_
 apply z
 refine cT (by simp) ?_
 refine sr fun Z z=>?_
 simp
 refine RVn_callC (c_read_Cursor_fail g b c hb) rfl ?_
 simp
 apply z
 refine sr fun Z z=>?_
 simp
 apply z
 refine AT_ret ?_
 simp[Tryz.f124]
 first|(· simp[Cur.nm,Cur.at_,Cur.name,Cur.named,h1])|(· simp[Cur.nm,Cur.at_,Cur.name,Cur.named,h1,h2])|(· simp[Cur.nm,Cur.at_,Cur.name,Cur.named,h1,h2,encC,hw,hw2,errA,encK])
 have hn:c.named=true:=by simp[Cur.named,h1,h2]
 obtain ⟨he,t,r,hl,-,-⟩:=Cur.named_cons hn
 have hw:c.adv.l=r:=by simp[Cur.adv,hl]
 have hw2:c.adv.err=none:=he
 refine sr fun Z z=>?_
 simp[h1b]
 refine RVn_call (hnm _ hfs) ?_
 simp[h2]
 repeat refine sgK ?_
 apply z
 refine cF (by simp) ?_
 refine AT_skip ?_
 refine hK1 _ ?_
 refine sr fun Z z=>?_
 simp[encK,encC,hl,he,errA]
 repeat refine sgK ?_
 apply z
 refine AT_seq_draw Pt.mixed (by kernel_rfl) fun Z z=>?_
 simp
 apply z
 refine AT_ret ?_
 simp[Tryz.f124]
 first|(· simp[Cur.nm,Cur.at_,Cur.name,Cur.named,h1])|(· simp[Cur.nm,Cur.at_,Cur.name,Cur.named,h1,h2])|(· simp[Cur.nm,Cur.at_,Cur.name,Cur.named,h1,h2,encC,hw,hw2,errA])

end Go.Proofs.YtfgafcjebfjepaaGreatDoor
end

section
/- Contracts: lists of items, read. -/
set_option linter.all false
set_option maxHeartbeats 1000000
set_option maxRecDepth 10000
namespace Go.Proofs.YtfgafcjebfjepaaGreatDoor
open Go Go.Pv
variable (g:Nat→Option (List AV)) (rnd:Bool)

theorem c_read_list_api_Type (rd:Cur→Ty×Cur) (b n:Nat) (L:List Tk) (hsuf:∀ c,(rd c).2.l <:+ c.l) (hrd:∀ c,c.l.length < n→c.l <:+ L→ValidC Tryz.prog (G0 g false) 156 [] b (encC 154 c) (.agg (encTy (rd c).1)) (encC 154 (rd c).2)) (c:Cur) (hc:c.l.length < n) (hcL:c.l <:+ L) (hn:n≤1000000):ValidC Tryz.prog (G0 g false) 157 [.bfn 156 [.gp b 0]] b (encC 154 c) (.slice ((listC rd c).1.map encTy)) (encC 154 (listC rd c).2):=by
 have hlen:=fun c=>(hsuf c).length_le
 have hl0:=hlen c
 refine validC_of [(8,26)] Tryz.func157 rfl (by kernel_rfl) ?_
 refine sr fun Z z=>?_
 simp[Tryz.f157]
 apply z
 refine sr fun Z z=>?_
 simp
 refine RVn_callC (hrd c hc hcL) rfl ?_
 simp
 apply z
 refine AT_seq_k fun K1 hK1=>?_
 refine AT_block ?_
 refine AT_loop_q [0,1,5] [] (fun j s=>∃ k acc,listC rd c=(acc++(loopC rd k.l.length k).1,(loopC rd k.l.length k).2)∧(k.l.length < n∧k.l <:+ L)∧acc.length+k.l.length≤c.l.length+1∧j=k.l.length∧s={ n:=17,tm:=[(0,.v (.gp b 0) none),(1,.v (.bfn 156 [.gp b 0]) none),(5,.v (.slice (acc.map encTy)) (some (8,26)))],bx:=[],tb:=[],sh:=[(b,(encC 154 k))],hint:=[(8,26)] }) ((rd c).2.l.length) (by first|rfl|simp) ?_ ?_
 exact ⟨(rd c).2,[(rd c).1],by simp[listC],⟨by omega,(hsuf c).trans hcL⟩,by simp;omega,rfl,by simp⟩
 rintro j s ⟨k,acc,hk,⟨hkn,hkL⟩,hka,rfl,rfl⟩ K2 hK2
 refine AT_seq_k fun K3 hK3=>?_
 cases hnx:k.next [44]
 refine sr fun Z z=>?_
 simp
 refine RVn_callC (c_read_Cursor_Take g [44] b k (by omega)) rfl ?_
 simp[Cur.take,hnx]
 apply z
 refine cF (by simp) ?_
 refine AT_exit ?_
 refine hK1 _ ?_
 refine sr fun Z z=>?_
 simp
 apply z
 refine AT_ret ?_
 simp[Tryz.f157]
 simp[hk,loopC_at hlen,hnx]
 have ha:=Cur.adv_len hnx
 have hla:=hlen k.adv
 refine sr fun Z z=>?_
 simp
 refine RVn_callC (c_read_Cursor_Take g [44] b k (by omega)) rfl ?_
 simp[Cur.take,hnx]
 apply z
 refine cT (by simp) ?_
 refine AT_skip ?_
 refine hK3 _ ?_
 refine AT_block ?_
 refine AT_region_q fun Z z=>?_
 simp
 refine RVn_callC (hrd k.adv (by omega) (k.adv_suf.trans hkL)) rfl ?_
 simp
 repeat refine sg ?_
 apply z
 refine hK2 _ (by first|rfl|simp) ((rd k.adv).2.l.length) (by omega) ?_
 exact ⟨(rd k.adv).2,acc++[(rd k.adv).1],by rw[hk,loopC_at hlen,if_pos hnx];simp,⟨by omega,(hsuf _).trans (k.adv_suf.trans hkL)⟩,by simp;omega,rfl,by simp⟩

theorem c_read_list_api_Expr (rd:Cur→Exp×Cur) (b n:Nat) (L:List Tk) (hsuf:∀ c,(rd c).2.l <:+ c.l) (hrd:∀ c,c.l.length < n→c.l <:+ L→ValidC Tryz.prog (G0 g false) 83 [] b (encC 154 c) (.agg (encE (rd c).1)) (encC 154 (rd c).2)) (c:Cur) (hc:c.l.length < n) (hcL:c.l <:+ L) (hn:n≤1000000):ValidC Tryz.prog (G0 g false) 158 [.bfn 83 [.gp b 0]] b (encC 154 c) (.slice ((listC rd c).1.map encE)) (encC 154 (listC rd c).2):=by
 have hlen:=fun c=>(hsuf c).length_le
 have hl0:=hlen c
 refine validC_of [(8,29)] Tryz.func158 rfl (by kernel_rfl) ?_
 refine sr fun Z z=>?_
 simp[Tryz.f158]
 apply z
 refine sr fun Z z=>?_
 simp
 refine RVn_callC (hrd c hc hcL) rfl ?_
 simp
 apply z
 refine AT_seq_k fun K1 hK1=>?_
 refine AT_block ?_
 refine AT_loop_q [0,1,5] [] (fun j s=>∃ k acc,listC rd c=(acc++(loopC rd k.l.length k).1,(loopC rd k.l.length k).2)∧(k.l.length < n∧k.l <:+ L)∧acc.length+k.l.length≤c.l.length+1∧j=k.l.length∧s={ n:=17,tm:=[(0,.v (.gp b 0) none),(1,.v (.bfn 83 [.gp b 0]) none),(5,.v (.slice (acc.map encE)) (some (8,29)))],bx:=[],tb:=[],sh:=[(b,(encC 154 k))],hint:=[(8,29)] }) ((rd c).2.l.length) (by first|rfl|simp) ?_ ?_
 exact ⟨(rd c).2,[(rd c).1],by simp[listC],⟨by omega,(hsuf c).trans hcL⟩,by simp;omega,rfl,by simp⟩
 rintro j s ⟨k,acc,hk,⟨hkn,hkL⟩,hka,rfl,rfl⟩ K2 hK2
 refine AT_seq_k fun K3 hK3=>?_
 cases hnx:k.next [44]
 refine sr fun Z z=>?_
 simp
 refine RVn_callC (c_read_Cursor_Take g [44] b k (by omega)) rfl ?_
 simp[Cur.take,hnx]
 apply z
 refine cF (by simp) ?_
 refine AT_exit ?_
 refine hK1 _ ?_
 refine sr fun Z z=>?_
 simp
 apply z
 refine AT_ret ?_
 simp[Tryz.f158]
 simp[hk,loopC_at hlen,hnx]
 have ha:=Cur.adv_len hnx
 have hla:=hlen k.adv
 refine sr fun Z z=>?_
 simp
 refine RVn_callC (c_read_Cursor_Take g [44] b k (by omega)) rfl ?_
 simp[Cur.take,hnx]
 apply z
 refine cT (by simp) ?_
 refine AT_skip ?_
 refine hK3 _ ?_
 refine AT_block ?_
 refine AT_region_q fun Z z=>?_
 simp
 refine RVn_callC (hrd k.adv (by omega) (k.adv_suf.trans hkL)) rfl ?_
 simp
 repeat refine sg ?_
 apply z
 refine hK2 _ (by first|rfl|simp) ((rd k.adv).2.l.length) (by omega) ?_
 exact ⟨(rd k.adv).2,acc++[(rd k.adv).1],by rw[hk,loopC_at hlen,if_pos hnx];simp,⟨by omega,(hsuf _).trans (k.adv_suf.trans hkL)⟩,by simp;omega,rfl,by simp⟩

end Go.Proofs.YtfgafcjebfjepaaGreatDoor
end

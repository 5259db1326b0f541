import Derived.Test.YtfgafcjebfjepaaGreatDoorPt
import Derived.Test.YtfgafcjebfjepaaGreatDoorPvPb
import Derived.Test.YtfgafcjebfjepaaGreatDoorPvLa
import Derived.Test.YtfgafcjebfjepaaGreatDoorPvEb
import Derived.Test.YtfgafcjebfjepaaGreatDoorPvFb
import Derived.Test.YtfgafcjebfjepaaGreatDoorXRdE
section
/- Contracts: what a parser reads: words, pairs. -/
set_option linter.all false
set_option maxHeartbeats 1000000
set_option maxRecDepth 10000
namespace Go.Proofs.YtfgafcjebfjepaaGreatDoor
open Go Go.Pv
variable (g:Nat→Option (List AV)) (rnd:Bool)

theorem c_parse_parser_all (ws:List Str) (hw:ws.length≤1000) (b:Nat) (c:Cur) (hb:c.l.length≤1000000):ValidD Tryz.prog (G0 g false) 79 [.ro [.gp b 0],.slice (ws.map encS)] b (encC 154 c) (.tup []) (encC 154 (allC ws c)):=by

 refine validD_of [] Tryz.func79 rfl (by kernel_rfl) ?_
 refine sr fun Z z=>?_
 simp[Tryz.f79]
 apply z
 refine AT_block ?_
 refine AT_loop_q [0,6,7,8] [] (fun j s=>∃ k u,k≤ws.length∧(allC ws c=allC (ws.drop k) u∧u.l.length≤1000000)∧j=ws.length - k∧s={ n:=19,tm:=[(0,.v (.ro [.gp b 0]) none),(6,.v (.slice (ws.map encS)) none),(7,.v (.int .i64 ws.length) none),(8,.v (.int .i64 k) none)],bx:=[],tb:=[],sh:=[(b,(encC 154 u))],hint:=[] }) (ws.length) (by first|rfl|simp) ?_ ?_
 exact ⟨0,c,by simp,⟨by simp,hb⟩,by simp,by simp⟩
 rintro j s ⟨k,u,hk,⟨hc,hu⟩,rfl,rfl⟩ K1 hK1
 refine sr fun Z z=>?_
 simp
 apply z
 refine AT_seq_k fun K2 hK2=>?_
 refine AT_cond (g:=none) rfl (fun hb9=>?_) (fun hb9=>?_)
 simp at hb9
 refine AT_skip ?_
 refine hK2 _ ?_
 refine AT_seq_k fun K3 hK3=>?_
 refine AT_block ?_
 refine sr fun Z z=>?_
 have hk9:k < ws.length:=by omega
 have hda:=List.drop_eq_getElem_cons hk9
 simp[row_map,encS,hb9]
 apply z
 refine AT_region_q fun Z z=>?_
 simp
 refine RVn_callC (c_read_Cursor_Must g ws[k] b u hu) rfl ?_
 simp
 apply z
 refine hK3 _ ?_
 refine AT_region_q fun Z z=>?_
 simp
 repeat refine sg ?_
 apply z
 refine hK1 _ (by first|rfl|simp) (ws.length - (k+1)) (by omega) ?_
 refine ⟨k+1,u.must ws[k],by omega,⟨by rw[hc,hda,allC_cons],by have:=u.must_len ws[k];omega⟩,by omega,by simp⟩
 simp at hb9
 refine AT_exit ?_
 simp[Tryz.f79]
 have hz:allC ws c=u:=by rw[hc,List.drop_eq_nil_of_le (by omega)];rfl
 simp[hz]

theorem c_parse_parser_pairs (e:Str) (b N:Nat) (L:List Tk) (hL:∀ t∈L,t.2.1.length≤1000000) (hLn:L.length < 900000) (hN:L.length < N∧N≤1000000) (hnm:∀ s:Str,s.length≤1000000→Valid Tryz.prog (G0 g false) 54 [.str s] (.bool (isName s))) (c:Cur) (hcL:c.l <:+ L):ValidD Tryz.prog (G0 g false) 154 [.ro [.gp b 0],.str e] b (encC 154 c) (.slice ((pairsF (typeC N) e c).1.map encF)) (encC 154 (pairsF (typeC N) e c).2):=by
 have hT:=fun (c:Cur) (h2:c.l <:+ L)=>c_read_Cursor_Type g b L hL (by omega) hnm N c (by have:=h2.length_le;omega) hN.2 h2
 have hNm:=fun (c:Cur) (h2:c.l <:+ L)=>c_read_Cursor_Name g b c (by have:=h2.length_le;omega) hnm (fun t ht=>hL t (h2.subset ht))
 have hsT:=typeC_suf N
 refine validD_of [(5,111)] Tryz.func154 rfl (by kernel_rfl) ?_
 refine sr fun Z z=>?_
 simp[Tryz.f154]
 apply z
 refine sr fun Z z=>?_
 simp
 apply z
 refine AT_block ?_
 refine AT_loop_q [0,1,5] [] (fun j s=>∃ k acc m,pairsF (typeC N) e c=(acc++(pairsC (typeC N) e m k).1,(pairsC (typeC N) e m k).2)∧(k.l <:+ L∧k.l.length < m∧acc.length+m≤c.l.length+1)∧j=m∧s={ n:=40,tm:=[(0,.v (.ro [.gp b 0]) none),(1,.v (.str e) none),(5,.v (.slice (acc.map encF)) (some (5,111)))],bx:=[],tb:=[],sh:=[(b,(encC 154 k))],hint:=[(5,111)] }) (c.l.length+1) (by first|rfl|simp) ?_ ?_
 exact ⟨c,[],c.l.length+1,by simp[pairsF],⟨hcL,by omega,by simp⟩,rfl,by simp⟩
 rintro j s ⟨k,acc,m,hq,⟨hkL,hkm,ham⟩,rfl,rfl⟩ K1 hK1
 obtain ⟨m,rfl⟩:∃ i,j=i+1:=⟨j - 1,by omega⟩
 have hcl:=hcL.length_le
 have hkl:=hkL.length_le
 have hnL:=k.name_suf.trans hkL
 have his:=itemC_suf hsT k
 have hil:=his.length_le
 have hiL:=his.trans hkL
 refine AT_block ?_
 refine sr fun Z z=>?_
 simp
 refine RVn_callC (hNm k hkL) rfl ?_
 simp
 apply z
 refine sr fun Z z=>?_
 simp
 refine RVn_callC (hT k.name hnL) rfl ?_
 simp[encTy_def]
 repeat refine sg ?_
 apply z
 cases hnx:(itemC (typeC N) k).2.next [44]
 refine sr fun Z z=>?_
 simp
 refine RVn_callC (c_read_Cursor_Take g [44] b (itemC (typeC N) k).2 (by omega)) rfl ?_
 simp[Cur.take,hnx]
 apply z
 refine cT (by simp) ?_
 refine sr fun Z z=>?_
 simp
 refine RVn_callC (c_read_Cursor_Must g e b (itemC (typeC N) k).2 (by omega)) rfl ?_
 simp
 apply z
 refine sr fun Z z=>?_
 simp
 apply z
 refine AT_ret ?_
 simp[Tryz.f154]
 rw[hq,pairsC,if_neg (by simp[hnx])];simp[itemC,encF]
 refine sr fun Z z=>?_
 simp
 refine RVn_callC (c_read_Cursor_Take g [44] b (itemC (typeC N) k).2 (by omega)) rfl ?_
 simp[Cur.take,hnx]
 apply z
 refine cF (by simp) ?_
 refine AT_skip ?_
 refine hK1 _ (by first|rfl|simp) (m) (by omega) ?_
 have ha:=Cur.adv_len hnx
 refine ⟨(itemC (typeC N) k).2.adv,acc++[(itemC (typeC N) k).1],m,by rw[hq,pairsC,if_pos hnx];simp,⟨(Cur.adv_suf _).trans hiL,by omega,by simp;omega⟩,rfl,by simp[itemC,encF]⟩

end Go.Proofs.YtfgafcjebfjepaaGreatDoor
end

section
/- Contracts: what a parser reads: formals, signatures, fields. -/
set_option linter.all false
set_option maxHeartbeats 1000000
set_option maxRecDepth 10000
namespace Go.Proofs.YtfgafcjebfjepaaGreatDoor
open Go Go.Pv
variable (g:Nat→Option (List AV)) (rnd:Bool)

theorem c_parse_parser_formals (b N:Nat) (L:List Tk) (hL:∀ t∈L,t.2.1.length≤1000000) (hLn:L.length < 900000) (hN:L.length < N∧N≤1000000) (hnm:∀ s:Str,s.length≤1000000→Valid Tryz.prog (G0 g false) 54 [.str s] (.bool (isName s))) (c:Cur) (hcL:c.l <:+ L):ValidD Tryz.prog (G0 g false) 125 [.ro [.gp b 0]] b (encC 154 c) (.slice ((formalsC (typeC N) c).1.map encF)) (encC 154 (formalsC (typeC N) c).2):=by
 have hcl:=hcL.length_le
 have haL:=c.adv_suf.trans hcL
 have hsT:=typeC_suf N
 obtain ⟨q,hq⟩:∃ q,q=pairsF (typeC N) [93] c.adv:=⟨_,rfl⟩
 refine validD_of [(3,107)] Tryz.func125 rfl (by kernel_rfl) ?_
 refine sr fun Z z=>?_
 simp[Tryz.f125]
 apply z
 refine AT_seq_k fun K1 hK1=>?_
 cases hnx:c.next [91]
 ·
  refine sr fun Z z=>?_
  simp
  refine RVn_callC (c_read_Cursor_Take g [91] b c (by omega)) rfl ?_
  simp[Cur.take,hnx]
  apply z
  refine cT (by simp) ?_
  refine sr fun Z z=>?_
  simp
  apply z
  refine AT_ret ?_
  simp[Tryz.f125]
  all_goals first|(· simp[formalsC,hnx])|(· rw[List.take_of_length_le (by simp;omega)];simp[formalsC,hnx,← hq])
 ·
  have hql:q.1.length≤1000000:=by
    rw[hq]
    have:=pairsC_count (rT:=(typeC N)) [93] (c.adv.l.length+1) c.adv
    have h2:=c.adv_suf.length_le
    unfold pairsF;omega
  refine sr fun Z z=>?_
  simp
  refine RVn_callC (c_read_Cursor_Take g [91] b c (by omega)) rfl ?_
  simp[Cur.take,hnx]
  apply z
  refine cF (by simp) ?_
  refine AT_skip ?_
  refine hK1 _ ?_
  refine sr fun Z z=>?_
  simp
  apply z
  refine AT_seq_k fun K2 hK2=>?_
  refine sr fun Z z=>?_
  simp
  refine RVn_callD ((by have h:=c_parse_parser_pairs g [93] b N L hL hLn hN hnm c.adv haL;rw[←hq] at h;exact h)) rfl ?_
  simp
  apply z
  refine AT_block ?_
  refine AT_loop_q [0,3,13,14,15] [] (fun j s=>∃ k,k≤q.1.length∧j=q.1.length - k∧s={ n:=31,tm:=[(0,.v (.ro [.gp b 0]) none),(3,.v (.slice ((q.1.take k).map encF)) (some (3,107))),(13,.v (.slice (q.1.map encF)) none),(14,.v (.int .i64 q.1.length) none),(15,.v (.int .i64 k) none)],bx:=[],tb:=[],sh:=[(b,(encC 154 q.2))],hint:=[(3,107)] }) (q.1.length) (by first|rfl|simp) ?_ ?_
  ·
   exact ⟨0,by simp⟩
  ·
   rintro j s ⟨k,hk,rfl,rfl⟩ K3 hK3
   refine sr fun Z z=>?_
   simp
   apply z
   refine AT_seq_k fun K4 hK4=>?_
   refine AT_cond (g:=none) rfl (fun hb16=>?_) (fun hb16=>?_)
   ·
    simp at hb16
    refine AT_skip ?_
    refine hK4 _ ?_
    refine AT_seq_k fun K5 hK5=>?_
    refine AT_block ?_
    refine sr fun Z z=>?_
    simp[encF,row_map,hb16]
    apply z
    refine AT_region_q fun Z z=>?_
    simp[rows_take]
    repeat refine sg ?_
    apply z
    refine hK5 _ ?_
    refine AT_region_q fun Z z=>?_
    simp
    repeat refine sg ?_
    apply z
    refine hK3 _ (by first|rfl|simp) (q.1.length - (k+1)) (by omega) ?_
    refine ⟨k+1,by omega,by omega,?_⟩
    have hk9:k < q.1.length:=by omega
    simp[List.take_succ_eq_append_getElem hk9,-List.take_append_getElem,encF]
   ·
    simp at hb16
    refine AT_exit ?_
    refine hK2 _ ?_
    refine sr fun Z z=>?_
    simp
    apply z
    refine AT_ret ?_
    simp[Tryz.f125]
    all_goals first|(· simp[formalsC,hnx])|(· rw[List.take_of_length_le (by simp;omega)];simp[formalsC,hnx,← hq])

theorem c_parse_parser_sig (b N:Nat) (L:List Tk) (hL:∀ t∈L,t.2.1.length≤1000000) (hLn:L.length < 900000) (hN:L.length < N∧N≤1000000) (hnm:∀ s:Str,s.length≤1000000→Valid Tryz.prog (G0 g false) 54 [.str s] (.bool (isName s))) (c:Cur) (hcL:c.l <:+ L):ValidD Tryz.prog (G0 g false) 128 [.ro [.gp b 0]] b (encC 154 c) (.agg (encG (sigC (typeC N) c).1)) (encC 154 (sigC (typeC N) c).2):=by
 have hT:=fun (c:Cur) (h2:c.l <:+ L)=>c_read_Cursor_Type g b L hL (by omega) hnm N c (by have:=h2.length_le;omega) hN.2 h2
 have hNm:=fun (c:Cur) (h2:c.l <:+ L)=>c_read_Cursor_Name g b c (by have:=h2.length_le;omega) hnm (fun t ht=>hL t (h2.subset ht))
 have hsT:=typeC_suf N
 have hnL:=c.name_suf.trans hcL
 have h1L:=(formalsC_suf hsT c.name).trans hnL
 have h1l:=h1L.length_le
 have hmL:=(Cur.must_suf (formalsC (typeC N) c.name).2 [40]).trans h1L
 have hml:=hmL.length_le
 have h2L:=(parC_suf hsT (formalsC (typeC N) c.name).2).trans h1L
 refine validD_of [] Tryz.func128 rfl (by kernel_rfl) ?_
 refine sr fun Z z=>?_
 simp[Tryz.f128]
 apply z
 refine sr fun Z z=>?_
 simp
 refine RVn_callC (hNm c hcL) rfl ?_
 simp
 apply z
 refine sr fun Z z=>?_
 simp
 refine RVn_callD (c_parse_parser_formals g b N L hL hLn hN hnm c.name hnL) rfl ?_
 simp
 apply z
 refine sr fun Z z=>?_
 simp
 refine RVn_callC (c_read_Cursor_Must g [40] b (formalsC (typeC N) c.name).2 (by omega)) rfl ?_
 simp
 apply z
 refine AT_seq_k fun K1 hK1=>?_
 cases hnx:((formalsC (typeC N) c.name).2.must [40]).next [41]
 ·
  have hp2:(parC (typeC N) (formalsC (typeC N) c.name).2)=pairsF (typeC N) [41] ((formalsC (typeC N) c.name).2.must [40]):=by rw[parC,if_neg (by rw[hnx];exact Bool.false_ne_true)]
  refine sr fun Z z=>?_
  simp
  refine RVn_callC (c_read_Cursor_Take g [41] b ((formalsC (typeC N) c.name).2.must [40]) (by omega)) rfl ?_
  simp[Cur.take,hnx]
  apply z
  refine cT (by simp) ?_
  refine AT_region_q fun Z z=>?_
  simp
  refine RVn_callD ((by have h:=c_parse_parser_pairs g [41] b N L hL hLn hN hnm ((formalsC (typeC N) c.name).2.must [40]) hmL;rw[←hp2] at h;exact h)) rfl ?_
  simp
  apply z
  refine hK1 _ ?_
  refine sr fun Z z=>?_
  simp
  refine RVn_callC ((by have h:=hT (parC (typeC N) (formalsC (typeC N) c.name).2).2 h2L;first|exact h|(rw[hp2] at h;exact h))) rfl ?_
  simp[encTy_def]
  apply z
  refine sr fun Z z=>?_
  simp
  apply z
  refine AT_ret ?_
  simp[encG,Tryz.f128]
  all_goals first|(· simp[sigC,hp2])|(· simp[sigC,encG,encTy_def])
 ·
  have hp2:(parC (typeC N) (formalsC (typeC N) c.name).2)=([],((formalsC (typeC N) c.name).2.must [40]).adv):=by rw[parC,if_pos hnx]
  have hp3:=congrArg Prod.snd hp2
  simp only[] at hp3
  refine sr fun Z z=>?_
  simp
  refine RVn_callC (c_read_Cursor_Take g [41] b ((formalsC (typeC N) c.name).2.must [40]) (by omega)) rfl ?_
  simp[Cur.take,hnx]
  apply z
  refine cF (by simp) ?_
  refine AT_skip ?_
  refine hK1 _ ?_
  refine sr fun Z z=>?_
  simp
  refine RVn_callC ((by have h:=hT (parC (typeC N) (formalsC (typeC N) c.name).2).2 h2L;first|exact h|(rw[hp2] at h;exact h))) rfl ?_
  simp[encTy_def]
  apply z
  refine sr fun Z z=>?_
  simp
  apply z
  refine AT_ret ?_
  simp[encG,Tryz.f128]
  all_goals first|(· simp[sigC,hp2])|(· simp[sigC,encG,encTy_def])

theorem c_parse_parser_sigs (b N:Nat) (L:List Tk) (hL:∀ t∈L,t.2.1.length≤1000000) (hLn:L.length < 900000) (hN:L.length < N∧N≤1000000) (hnm:∀ s:Str,s.length≤1000000→Valid Tryz.prog (G0 g false) 54 [.str s] (.bool (isName s))) (c:Cur) (hcL:c.l <:+ L):ValidD Tryz.prog (G0 g false) 126 [.ro [.gp b 0]] b (encC 154 c) (.slice ((untilF (sigC (typeC N)) c).1.map encG)) (encC 154 (untilF (sigC (typeC N)) c).2):=by
 have hsT:=typeC_suf N
 refine validD_of [(3,43)] Tryz.func126 rfl (by kernel_rfl) ?_
 refine sr fun Z z=>?_
 simp[Tryz.f126]
 apply z
 refine sr fun Z z=>?_
 simp
 apply z
 refine AT_seq_k fun K1 hK1=>?_
 refine AT_block ?_
 refine AT_loop_q [0,3] [] (fun j s=>∃ k acc m,untilF (sigC (typeC N)) c=(acc++(untilC (sigC (typeC N)) m k).1,(untilC (sigC (typeC N)) m k).2)∧(k.l <:+ L∧(k.err.isSome=false→k.l.length < m)∧acc.length+m≤c.l.length+1)∧j=m∧s={ n:=29,tm:=[(0,.v (.ro [.gp b 0]) none),(3,.v (.slice (acc.map encG)) (some (3,43)))],bx:=[],tb:=[],sh:=[(b,(encC 154 k))],hint:=[(3,43)] }) (c.l.length+1) (by first|rfl|simp) ?_ ?_
 ·
  exact ⟨c,[],c.l.length+1,by simp[untilF],⟨hcL,fun _=>by omega,by simp⟩,rfl,by simp⟩
 ·
  rintro j s ⟨k,acc,m,hq,⟨hkL,hkm,ham⟩,rfl,rfl⟩ K2 hK2
  have hcl:=hcL.length_le
  have hkl:=hkL.length_le
  refine AT_seq_k fun K3 hK3=>?_
  cases hnx:k.next [125]
  ·
   cases hf:k.err.isSome
   ·
    have hlt:=hkm hf
    obtain ⟨m,rfl⟩:∃ i,j=i+1:=⟨j - 1,by omega⟩
    have hiL:=(sigC_suf hsT k).trans hkL
    have hil:=hiL.length_le
    refine sr fun Z z=>?_
    simp
    refine RVn_callC (c_read_Cursor_Take g [125] b k (by omega)) rfl ?_
    simp[Cur.take,hnx]
    repeat refine sg ?_
    refine RVn_callC (c_read_Cursor_Failed g b k (by omega)) rfl ?_
    simp[hf]
    repeat refine sg ?_
    apply z
    refine cT (by simp) ?_
    refine AT_skip ?_
    refine hK3 _ ?_
    refine AT_block ?_
    refine sr fun Z z=>?_
    simp
    refine RVn_callD (c_parse_parser_sig g b N L hL hLn hN hnm k hkL) rfl ?_
    simp
    repeat refine sg ?_
    apply z
    refine AT_region_q fun Z z=>?_
    simp
    refine RVn_callC (c_read_Cursor_Must g [59] b (sigC (typeC N) k).2 (by omega)) rfl ?_
    simp
    apply z
    refine hK2 _ (by first|rfl|simp) (m) (by omega) ?_
    refine ⟨((sigC (typeC N)) k).2.must [59],acc++[((sigC (typeC N)) k).1],m,by rw[hq,untilC_go _ _ hnx hf];simp,⟨(Cur.must_suf _ _).trans hiL,until_next (sigC_prog hsT (fun c h=>typeC_errS N h) k) (by omega),by simp;omega⟩,rfl,?_⟩
    simp[encG]
   ·
    refine sr fun Z z=>?_
    simp
    refine RVn_callC (c_read_Cursor_Take g [125] b k (by omega)) rfl ?_
    simp[Cur.take,hnx]
    repeat refine sg ?_
    refine RVn_callC (c_read_Cursor_Failed g b k (by omega)) rfl ?_
    simp[hf]
    repeat refine sg ?_
    apply z
    refine cF (by simp) ?_
    refine AT_exit ?_
    refine hK1 _ ?_
    refine sr fun Z z=>?_
    simp
    apply z
    refine AT_ret ?_
    simp[Tryz.f126]
    all_goals first|(· rw[hq,untilC_err _ _ hf];simp)|(· rw[hq,untilC_end _ _ hnx];simp)
  ·
   have hlt:=hkm (next_ok hnx)
   obtain ⟨m,rfl⟩:∃ i,j=i+1:=⟨j - 1,by omega⟩
   refine sr fun Z z=>?_
   simp
   refine RVn_callC (c_read_Cursor_Take g [125] b k (by omega)) rfl ?_
   simp[Cur.take,hnx]
   repeat refine sg ?_
   apply z
   refine cF (by simp) ?_
   refine AT_exit ?_
   refine hK1 _ ?_
   refine sr fun Z z=>?_
   simp
   apply z
   refine AT_ret ?_
   simp[Tryz.f126]
   all_goals first|(· rw[hq,untilC_err _ _ hf];simp)|(· rw[hq,untilC_end _ _ hnx];simp)

theorem c_parse_parser_fields (b N:Nat) (L:List Tk) (hL:∀ t∈L,t.2.1.length≤1000000) (hLn:L.length < 900000) (hN:L.length < N∧N≤1000000) (hnm:∀ s:Str,s.length≤1000000→Valid Tryz.prog (G0 g false) 54 [.str s] (.bool (isName s))) (c:Cur) (hcL:c.l <:+ L):ValidD Tryz.prog (G0 g false) 127 [.ro [.gp b 0]] b (encC 154 c) (.slice ((untilF (itemC (typeC N)) c).1.map encF)) (encC 154 (untilF (itemC (typeC N)) c).2):=by
 have hT:=fun (c:Cur) (h2:c.l <:+ L)=>c_read_Cursor_Type g b L hL (by omega) hnm N c (by have:=h2.length_le;omega) hN.2 h2
 have hNm:=fun (c:Cur) (h2:c.l <:+ L)=>c_read_Cursor_Name g b c (by have:=h2.length_le;omega) hnm (fun t ht=>hL t (h2.subset ht))
 have hsT:=typeC_suf N
 refine validD_of [(3,111)] Tryz.func127 rfl (by kernel_rfl) ?_
 refine sr fun Z z=>?_
 simp[Tryz.f127]
 apply z
 refine sr fun Z z=>?_
 simp
 apply z
 refine AT_seq_k fun K1 hK1=>?_
 refine AT_block ?_
 refine AT_loop_q [0,3] [] (fun j s=>∃ k acc m,untilF (itemC (typeC N)) c=(acc++(untilC (itemC (typeC N)) m k).1,(untilC (itemC (typeC N)) m k).2)∧(k.l <:+ L∧(k.err.isSome=false→k.l.length < m)∧acc.length+m≤c.l.length+1)∧j=m∧s={ n:=45,tm:=[(0,.v (.ro [.gp b 0]) none),(3,.v (.slice (acc.map encF)) (some (3,111)))],bx:=[],tb:=[],sh:=[(b,(encC 154 k))],hint:=[(3,111)] }) (c.l.length+1) (by first|rfl|simp) ?_ ?_
 ·
  exact ⟨c,[],c.l.length+1,by simp[untilF],⟨hcL,fun _=>by omega,by simp⟩,rfl,by simp⟩
 ·
  rintro j s ⟨k,acc,m,hq,⟨hkL,hkm,ham⟩,rfl,rfl⟩ K2 hK2
  have hcl:=hcL.length_le
  have hkl:=hkL.length_le
  refine AT_seq_k fun K3 hK3=>?_
  cases hnx:k.next [125]
  ·
   cases hf:k.err.isSome
   ·
    have hlt:=hkm hf
    obtain ⟨m,rfl⟩:∃ i,j=i+1:=⟨j - 1,by omega⟩
    have hiL:=(itemC_suf hsT k).trans hkL
    have hil:=hiL.length_le
    refine sr fun Z z=>?_
    simp
    refine RVn_callC (c_read_Cursor_Take g [125] b k (by omega)) rfl ?_
    simp[Cur.take,hnx]
    repeat refine sg ?_
    refine RVn_callC (c_read_Cursor_Failed g b k (by omega)) rfl ?_
    simp[hf]
    repeat refine sg ?_
    apply z
    refine cT (by simp) ?_
    refine AT_skip ?_
    refine hK3 _ ?_
    refine AT_block ?_
    refine sr fun Z z=>?_
    simp
    refine RVn_callC (hNm k hkL) rfl ?_
    simp
    apply z
    refine sr fun Z z=>?_
    simp
    refine RVn_callC (hT k.name (k.name_suf.trans hkL)) rfl ?_
    simp[encTy_def]
    repeat refine sg ?_
    apply z
    refine AT_region_q fun Z z=>?_
    simp
    refine RVn_callC (c_read_Cursor_Must g [59] b (itemC (typeC N) k).2 (by omega)) rfl ?_
    simp
    apply z
    refine hK2 _ (by first|rfl|simp) (m) (by omega) ?_
    refine ⟨((itemC (typeC N)) k).2.must [59],acc++[((itemC (typeC N)) k).1],m,by rw[hq,untilC_go _ _ hnx hf];simp,⟨(Cur.must_suf _ _).trans hiL,until_next (itemC_prog hsT (fun c h=>typeC_errS N h) k) (by omega),by simp;omega⟩,rfl,?_⟩
    simp[itemC,encF]
   ·
    refine sr fun Z z=>?_
    simp
    refine RVn_callC (c_read_Cursor_Take g [125] b k (by omega)) rfl ?_
    simp[Cur.take,hnx]
    repeat refine sg ?_
    refine RVn_callC (c_read_Cursor_Failed g b k (by omega)) rfl ?_
    simp[hf]
    repeat refine sg ?_
    apply z
    refine cF (by simp) ?_
    refine AT_exit ?_
    refine hK1 _ ?_
    refine sr fun Z z=>?_
    simp
    apply z
    refine AT_ret ?_
    simp[Tryz.f127]
    all_goals first|(· rw[hq,untilC_err _ _ hf];simp)|(· rw[hq,untilC_end _ _ hnx];simp)
  ·
   have hlt:=hkm (next_ok hnx)
   obtain ⟨m,rfl⟩:∃ i,j=i+1:=⟨j - 1,by omega⟩
   refine sr fun Z z=>?_
   simp
   refine RVn_callC (c_read_Cursor_Take g [125] b k (by omega)) rfl ?_
   simp[Cur.take,hnx]
   repeat refine sg ?_
   apply z
   refine cF (by simp) ?_
   refine AT_exit ?_
   refine hK1 _ ?_
   refine sr fun Z z=>?_
   simp
   apply z
   refine AT_ret ?_
   simp[Tryz.f127]
   all_goals first|(· rw[hq,untilC_err _ _ hf];simp)|(· rw[hq,untilC_end _ _ hnx];simp)

end Go.Proofs.YtfgafcjebfjepaaGreatDoor
end

section
/- Contracts: what a parser reads: declarations of types. -/
set_option linter.all false
set_option maxHeartbeats 1000000
set_option maxRecDepth 10000
namespace Go.Proofs.YtfgafcjebfjepaaGreatDoor
open Go Go.Pv
variable (g:Nat→Option (List AV)) (rnd:Bool)

theorem c_parse_parser_typed (b N:Nat) (L:List Tk) (hL:∀ t∈L,t.2.1.length≤1000000) (hLn:L.length < 900000) (hN:L.length < N∧N≤1000000) (hnm:∀ s:Str,s.length≤1000000→Valid Tryz.prog (G0 g false) 54 [.str s] (.bool (isName s))) (c:Cur) (hcL:c.l <:+ L):ValidD Tryz.prog (G0 g false) 80 [.ro [.gp b 0]] b (encC 154 c) (.agg (encD (typedC (typeC N) c).1)) (encC 154 (typedC (typeC N) c).2):=by
 have hNm:=fun (c:Cur) (h2:c.l <:+ L)=>c_read_Cursor_Name g b c (by have:=h2.length_le;omega) hnm (fun t ht=>hL t (h2.subset ht))
 have hsT:=typeC_suf N
 have hnL:=c.name_suf.trans hcL
 have h1L:=(formalsC_suf hsT c.name).trans hnL
 have h1l:=h1L.length_le
 have h2L:=(Cur.adv_suf (formalsC (typeC N) c.name).2).trans h1L
 have h2l:=h2L.length_le
 have h3L:=(Cur.must_suf (formalsC (typeC N) c.name).2.adv [123]).trans h2L
 have h4L:=(allC_suf [wStruct,[123]] (formalsC (typeC N) c.name).2).trans h1L
 have h5l:=((untilF_suf (sigC_suf hsT) ((formalsC (typeC N) c.name).2.adv.must [123])).trans h3L).length_le
 have h6l:=((untilF_suf (itemC_suf hsT) (allC [wStruct,[123]] (formalsC (typeC N) c.name).2)).trans h4L).length_le
 refine validD_of [] Tryz.func80 rfl (by kernel_rfl) ?_
 refine sr fun Z z=>?_
 simp[Tryz.f80]
 apply z
 refine sr fun Z z=>?_
 simp
 refine RVn_callC (hNm c hcL) rfl ?_
 simp
 apply z
 refine sr fun Z z=>?_
 simp
 refine RVn_callD (c_parse_parser_formals g b N L hL hLn hN hnm c.name hnL) rfl ?_
 simp
 apply z
 refine AT_seq_k fun K1 hK1=>?_
 cases hnx:(formalsC (typeC N) c.name).2.next wInterface
 ·
  refine sr fun Z z=>?_
  simp
  refine RVn_callC (c_read_Cursor_Take g wInterface b (formalsC (typeC N) c.name).2 (by omega)) rfl ?_
  simp[Cur.take,hnx]
  apply z
  refine cF (by simp) ?_
  refine sr fun Z z=>?_
  simp
  refine RVn_callD (c_parse_parser_all g [wStruct,[123]] (by decide) b (formalsC (typeC N) c.name).2 (by omega)) rfl ?_
  simp
  apply z
  refine AT_region_q fun Z z=>?_
  simp
  refine RVn_callD (c_parse_parser_fields g b N L hL hLn hN hnm (allC [wStruct,[123]] (formalsC (typeC N) c.name).2) h4L) rfl ?_
  simp
  apply z
  refine hK1 _ ?_
  refine sr fun Z z=>?_
  simp
  refine RVn_callC ((by first|exact c_read_Cursor_Must g [59] b (untilF (sigC (typeC N)) ((formalsC (typeC N) c.name).2.adv.must [123])).2 (by omega)|exact c_read_Cursor_Must g [59] b (untilF (itemC (typeC N)) (allC [wStruct,[123]] (formalsC (typeC N) c.name).2)).2 (by omega))) rfl ?_
  simp
  apply z
  refine sr fun Z z=>?_
  simp
  apply z
  refine AT_ret ?_
  simp[encD,Tryz.f80]
  all_goals simp[typedC,hnx,sg0,ex0,ty0]
 ·
  refine sr fun Z z=>?_
  simp
  refine RVn_callC (c_read_Cursor_Take g wInterface b (formalsC (typeC N) c.name).2 (by omega)) rfl ?_
  simp[Cur.take,hnx]
  apply z
  refine cT (by simp) ?_
  refine sr fun Z z=>?_
  simp
  refine RVn_callC (c_read_Cursor_Must g [123] b (formalsC (typeC N) c.name).2.adv (by omega)) rfl ?_
  simp
  apply z
  refine AT_region_q fun Z z=>?_
  simp
  refine RVn_callD (c_parse_parser_sigs g b N L hL hLn hN hnm ((formalsC (typeC N) c.name).2.adv.must [123]) h3L) rfl ?_
  simp
  apply z
  refine hK1 _ ?_
  refine sr fun Z z=>?_
  simp
  refine RVn_callC ((by first|exact c_read_Cursor_Must g [59] b (untilF (sigC (typeC N)) ((formalsC (typeC N) c.name).2.adv.must [123])).2 (by omega)|exact c_read_Cursor_Must g [59] b (untilF (itemC (typeC N)) (allC [wStruct,[123]] (formalsC (typeC N) c.name).2)).2 (by omega))) rfl ?_
  simp
  apply z
  refine sr fun Z z=>?_
  simp
  apply z
  refine AT_ret ?_
  simp[encD,Tryz.f80]
  all_goals simp[typedC,hnx,sg0,ex0,ty0]

theorem c_parse_parser_method (b N:Nat) (L:List Tk) (hL:∀ t∈L,t.2.1.length≤1000000) (hLn:L.length < 900000) (hN:L.length < N∧N≤1000000) (hnm:∀ s:Str,s.length≤1000000→Valid Tryz.prog (G0 g false) 54 [.str s] (.bool (isName s))) (c:Cur) (hcL:c.l <:+ L):ValidD Tryz.prog (G0 g false) 82 [.ro [.gp b 0]] b (encC 154 c) (.agg (encD (methodC (typeC N) (exprC N) c).1)) (encC 154 (methodC (typeC N) (exprC N) c).2):=by
 have hNm:=fun (c:Cur) (h2:c.l <:+ L)=>c_read_Cursor_Name g b c (by have:=h2.length_le;omega) hnm (fun t ht=>hL t (h2.subset ht))
 have hX:=fun (c:Cur) (h2:c.l <:+ L)=>c_read_Cursor_Expr g b L hL (by omega) hnm N c (by have:=h2.length_le;omega) hN.2 h2
 have hsT:=typeC_suf N
 have hsE:=exprC_suf N
 have hcl:=hcL.length_le
 have h0L:=(c.must_suf [40]).trans hcL
 have h1L:=(Cur.name_suf _).trans h0L
 have h2L:=(Cur.name_suf _).trans h1L
 have h2l:=h2L.length_le
 have haL:=(Cur.adv_suf (c.must [40]).name.name).trans h2L
 have hvL:=(varsC_suf ((c.must [40]).name.name.l.length+1) (c.must [40]).name.name.adv).trans haL
 have hvl:=hvL.length_le
 obtain ⟨v,hv⟩:∃ v,v=recvC (c.must [40]).name.name:=⟨_,rfl⟩
 have hrL:v.2.l <:+ L:=by rw[hv];exact (recvC_suf _).trans h2L
 have hrl:=hrL.length_le
 have hmL:=(Cur.must_suf v.2 [41]).trans hrL
 have hsL:=(sigC_suf hsT (v.2.must [41])).trans hmL
 have hsl:=hsL.length_le
 have hbL:=(allC_suf [[123],wReturn] (sigC (typeC N) (v.2.must [41])).2).trans hsL
 have hel:=((hsE (allC [[123],wReturn] (sigC (typeC N) (v.2.must [41])).2)).trans hbL).length_le
 refine validD_of [(107006,9)] Tryz.func82 rfl (by kernel_rfl) ?_
 refine sr fun Z z=>?_
 simp[Tryz.f82]
 apply z
 refine sr fun Z z=>?_
 simp
 refine RVn_callC (c_read_Cursor_Must g [40] b c (by omega)) rfl ?_
 simp
 apply z
 refine sr fun Z z=>?_
 simp
 refine RVn_callC (hNm (c.must [40]) h0L) rfl ?_
 simp
 apply z
 refine sr fun Z z=>?_
 simp
 refine RVn_callC (hNm (c.must [40]).name h1L) rfl ?_
 simp
 apply z
 refine sr fun Z z=>?_
 simp
 apply z
 refine AT_seq_k fun K1 hK1=>?_
 cases hnx:(c.must [40]).name.name.next [91]
 ·
  have hv2:v=([],(c.must [40]).name.name):=by rw[hv,recvC,if_neg (by rw[hnx];exact Bool.false_ne_true)]
  refine sr fun Z z=>?_
  simp
  refine RVn_callC (c_read_Cursor_Take g [91] b (c.must [40]).name.name (by omega)) rfl ?_
  simp[Cur.take,hnx]
  apply z
  refine cF (by simp) ?_
  refine AT_skip ?_
  refine hK1 _ ?_
  refine sr fun Z z=>?_
  simp
  refine RVn_callC ((by have h:=c_read_Cursor_Must g [41] b v.2 (by omega);first|(rw[hv4] at h;exact h)|(rw[hv2] at h;exact h))) rfl ?_
  simp
  apply z
  refine sr fun Z z=>?_
  simp
  refine RVn_callD ((by have h:=c_parse_parser_sig g b N L hL hLn hN hnm (v.2.must [41]) hmL;simp only[encG] at h;first|(rw[hv4] at h;exact h)|(rw[hv2] at h;exact h))) rfl ?_
  simp
  apply z
  refine sr fun Z z=>?_
  simp
  refine RVn_callD ((by have h:=c_parse_parser_all g [[123],wReturn] (by decide) b (sigC (typeC N) (v.2.must [41])).2 (by omega);first|(rw[hv4] at h;exact h)|(rw[hv2] at h;exact h))) rfl ?_
  simp
  apply z
  refine sr fun Z z=>?_
  simp
  refine RVn_callC ((by have h:=hX (allC [[123],wReturn] (sigC (typeC N) (v.2.must [41])).2) hbL;simp only[encE_def] at h;first|(rw[hv4] at h;exact h)|(rw[hv2] at h;exact h))) rfl ?_
  simp
  apply z
  refine sr fun Z z=>?_
  simp
  refine RVn_callD ((by have h:=c_parse_parser_all g [[125],[59]] (by decide) b (exprC N (allC [[123],wReturn] (sigC (typeC N) (v.2.must [41])).2)).2 (by omega);first|(rw[hv4] at h;exact h)|(rw[hv2] at h;exact h))) rfl ?_
  simp
  apply z
  refine sr fun Z z=>?_
  simp
  apply z
  refine AT_ret ?_
  simp[encD,Tryz.f82]
  all_goals first|(· simp[methodC,← hv,hv3,encS,encD,encG,encF,sg0,ex0,ty0,encTy_def,encE_mk,encE_def])|(· simp[methodC,← hv,hv2])
 ·
  have hv2:v=((varsC ((c.must [40]).name.name.l.length+1) (c.must [40]).name.name.adv).1,(varsC ((c.must [40]).name.name.l.length+1) (c.must [40]).name.name.adv).2.must [93]):=by rw[hv,recvC,if_pos hnx]
  have ha9:=Cur.adv_len hnx
  refine sr fun Z z=>?_
  simp
  refine RVn_callC (c_read_Cursor_Take g [91] b (c.must [40]).name.name (by omega)) rfl ?_
  simp[Cur.take,hnx]
  apply z
  refine cT (by simp) ?_
  refine AT_seq_k fun K2 hK2=>?_
  refine AT_block ?_
  refine AT_loop_q [0,2,7] [2,7] (fun j s=>∃ k acc m,(varsC ((c.must [40]).name.name.l.length+1) (c.must [40]).name.name.adv)=(acc++(varsC m k).1,(varsC m k).2)∧(k.l <:+ L∧k.l.length < m∧acc.length+m≤1000001)∧j=m∧s={ n:=86,tm:=[(0,.v (.ro [.gp b 0]) none),(2,.lp 2 0),(7,.lp 7 0)],bx:=[(2,encD ⟨0,[],[],[],[],[],[],sg0,ex0,0⟩),(7,encD ⟨3,(c.must [40]).name.nm,[],[],[],(c.must [40]).nm,acc,sg0,ex0,(c.must [40]).name.at_⟩)],tb:=[(7,6,107006,9)],sh:=[(b,(encC 154 k))],hint:=[(107006,9)] }) ((c.must [40]).name.name.l.length+1) (by first|rfl|simp) ?_ ?_
  ·
   exact ⟨(c.must [40]).name.name.adv,[],(c.must [40]).name.name.l.length+1,by simp,⟨haL,by omega,by simp;omega⟩,rfl,by simp[encD,sg0,ex0,ty0]⟩
  ·
   rintro j s ⟨k,acc,m,hq,⟨hkL,hkm,ham⟩,rfl,rfl⟩ K3 hK3
   obtain ⟨m,rfl⟩:∃ i,j=i+1:=⟨j - 1,by omega⟩
   have hnL:=k.name_suf.trans hkL
   have hnl:=hnL.length_le
   have hn2:=k.name_suf.length_le
   refine AT_block ?_
   refine sr fun Z z=>?_
   simp[encD,sg0,ex0,ty0]
   refine RVn_callC (hNm k hkL) rfl ?_
   simp
   apply z
   refine sr fun Z z=>?_
   simp
   repeat refine sg ?_
   apply z
   cases hcm:k.name.next [44]
   ·
    have hq2:(varsC ((c.must [40]).name.name.l.length+1) (c.must [40]).name.name.adv)=(acc++[k.nm],k.name):=by rw[hq,varsC,if_neg (by rw[hcm];exact Bool.false_ne_true)]
    have hv3:v=(acc++[k.nm],k.name.must [93]):=by rw[hv2,hq2]
    have hv4:=congrArg Prod.snd hv3
    have hv5:=congrArg Prod.fst hv3
    simp only[] at hv4 hv5
    refine sr fun Z z=>?_
    simp
    refine RVn_callC (c_read_Cursor_Take g [44] b k.name (by omega)) rfl ?_
    simp[Cur.take,hcm]
    apply z
    refine cT (by simp) ?_
    refine AT_exit ?_
    refine hK2 _ ?_
    refine AT_region_q fun Z z=>?_
    simp
    refine RVn_callC (c_read_Cursor_Must g [93] b k.name (by omega)) rfl ?_
    simp
    apply z
    refine hK1 _ ?_
    refine sr fun Z z=>?_
    simp
    refine RVn_callC ((by have h:=c_read_Cursor_Must g [41] b v.2 (by omega);first|(rw[hv4] at h;exact h)|(rw[hv2] at h;exact h))) rfl ?_
    simp
    apply z
    refine sr fun Z z=>?_
    simp
    refine RVn_callD ((by have h:=c_parse_parser_sig g b N L hL hLn hN hnm (v.2.must [41]) hmL;simp only[encG] at h;first|(rw[hv4] at h;exact h)|(rw[hv2] at h;exact h))) rfl ?_
    simp
    apply z
    refine sr fun Z z=>?_
    simp
    refine RVn_callD ((by have h:=c_parse_parser_all g [[123],wReturn] (by decide) b (sigC (typeC N) (v.2.must [41])).2 (by omega);first|(rw[hv4] at h;exact h)|(rw[hv2] at h;exact h))) rfl ?_
    simp
    apply z
    refine sr fun Z z=>?_
    simp
    refine RVn_callC ((by have h:=hX (allC [[123],wReturn] (sigC (typeC N) (v.2.must [41])).2) hbL;simp only[encE_def] at h;first|(rw[hv4] at h;exact h)|(rw[hv2] at h;exact h))) rfl ?_
    simp
    apply z
    refine sr fun Z z=>?_
    simp
    refine RVn_callD ((by have h:=c_parse_parser_all g [[125],[59]] (by decide) b (exprC N (allC [[123],wReturn] (sigC (typeC N) (v.2.must [41])).2)).2 (by omega);first|(rw[hv4] at h;exact h)|(rw[hv2] at h;exact h))) rfl ?_
    simp
    apply z
    refine sr fun Z z=>?_
    simp
    apply z
    refine AT_ret ?_
    simp[encD,Tryz.f82]
    all_goals first|(· simp[methodC,← hv,hv3,encS])|(· simp[methodC,← hv,hv2,encS,encD,encG,encF,sg0,ex0,ty0,encTy_def,encE_mk,encE_def])
   ·
    refine sr fun Z z=>?_
    simp
    refine RVn_callC (c_read_Cursor_Take g [44] b k.name (by omega)) rfl ?_
    simp[Cur.take,hcm]
    apply z
    refine cF (by simp) ?_
    refine AT_skip ?_
    refine hK3 _ (by first|rfl|simp) (m) (by omega) ?_
    have ha:=Cur.adv_len hcm
    refine ⟨k.name.adv,acc++[k.nm],m,by rw[hq,varsC,if_pos hcm];simp,⟨(Cur.adv_suf _).trans hnL,by omega,by simp;omega⟩,rfl,by simp[encS,encD,sg0,ex0,ty0]⟩

end Go.Proofs.YtfgafcjebfjepaaGreatDoor
end

section
/- Contracts: programs, read. -/
set_option linter.all false
set_option maxHeartbeats 1000000
set_option maxRecDepth 10000
namespace Go.Proofs.YtfgafcjebfjepaaGreatDoor
open Go Go.Pv
variable (g:Nat→Option (List AV)) (rnd:Bool)

theorem c_parse_parser_program (b N:Nat) (L:List Tk) (hL:∀ t∈L,t.2.1.length≤1000000) (hLn:L.length < 900000) (hN:L.length < N∧N≤1000000) (hnm:∀ s:Str,s.length≤1000000→Valid Tryz.prog (G0 g false) 54 [.str s] (.bool (isName s))) (c:Cur) (hcL:c.l <:+ L):ValidD Tryz.prog (G0 g false) 38 [.ro [.gp b 0]] b (encC 154 c) (.agg (encPg (programC (typeC N) (exprC N) c).1)) (encC 154 (programC (typeC N) (exprC N) c).2):=by
 have hX:=fun (c:Cur) (h2:c.l <:+ L)=>c_read_Cursor_Expr g b L hL (by omega) hnm N c (by have:=h2.length_le;omega) hN.2 h2
 have hsT:=typeC_suf N
 have hsE:=exprC_suf N
 have hcl:=hcL.length_le
 have h0L:=(allC_suf [wPackage,wMain,[59]] c).trans hcL
 have h0l:=h0L.length_le
 obtain ⟨D,hD⟩:∃ D,D=(declsC (typeC N) (exprC N) ((allC [wPackage,wMain,[59]] c).l.length+1) (allC [wPackage,wMain,[59]] c)):=⟨_,rfl⟩
 have hDL:D.2.l <:+ L:=by rw[hD];exact (declsC_suf hsT hsE _ _).trans h0L
 have hDl:=hDL.length_le
 have haL:=(allC_suf [wMain,[40],[41],[123],[95],[61]] D.2).trans hDL
 have hel:=((hsE (allC [wMain,[40],[41],[123],[95],[61]] D.2)).trans haL).length_le
 refine validD_of [(103000,45)] Tryz.func38 rfl (by kernel_rfl) ?_
 refine sr fun Z z=>?_
 simp[Tryz.f38]
 apply z
 refine AT_scope ?_
 refine sr fun Z z=>?_
 simp
 apply z
 refine sr fun Z z=>?_
 simp
 refine RVn_callD (c_parse_parser_all g [wPackage,wMain,[59]] (by decide) b c (by omega)) rfl ?_
 simp
 apply z
 refine AT_seq_k fun K1 hK1=>?_
 refine AT_label ?_
 refine hK1 _ ?_
 refine AT_seq_k fun K2 hK2=>?_
 refine AT_block ?_
 refine AT_loop_q [0,2,3] [2,3] (fun j s=>∃ k acc m,(declsC (typeC N) (exprC N) ((allC [wPackage,wMain,[59]] c).l.length+1) (allC [wPackage,wMain,[59]] c))=(acc++(declsC (typeC N) (exprC N) m k).1,(declsC (typeC N) (exprC N) m k).2)∧(k.l <:+ L∧k.l.length < m∧acc.length+m≤1000001)∧j=m∧s={ n:=60,tm:=[(0,.v (.ro [.gp b 0]) none),(2,.lp 2 0),(3,.lp 3 0)],bx:=[(2,encPg pg0),(3,encPg ⟨acc,ex0⟩)],tb:=[(3,0,103000,45)],sh:=[(b,(encC 154 k))],hint:=[(103000,45)] }) ((allC [wPackage,wMain,[59]] c).l.length+1) (by first|rfl|simp) ?_ ?_
 ·
  exact ⟨(allC [wPackage,wMain,[59]] c),[],(allC [wPackage,wMain,[59]] c).l.length+1,by simp,⟨h0L,by omega,by simp;omega⟩,rfl,by simp[encPg,pg0,ex0,ty0]⟩
 ·
  rintro j s ⟨k,acc,m,hq,⟨hkL,hkm,ham⟩,rfl,rfl⟩ K3 hK3
  obtain ⟨m,rfl⟩:∃ i,j=i+1:=⟨j - 1,by omega⟩
  have hkl:=hkL.length_le
  have haL2:=k.adv_suf.trans hkL
  have hal2:=haL2.length_le
  refine AT_block ?_
  refine AT_block ?_
  cases hty:k.next wType
  ·
   refine sr fun Z z=>?_
   simp[encPg,pg0,ex0,ty0]
   refine RVn_callC (c_read_Cursor_Take g wType b k (by omega)) rfl ?_
   simp[Cur.take,hty]
   apply z
   refine cF (by simp) ?_
   cases hfn:k.next wFunc
   ·
    have hq9:D=(acc,k.fail):=by
      rw[hD,hq,declsC,if_neg (by rw[hty];exact Bool.false_ne_true),if_neg (by rw[hfn];exact Bool.false_ne_true)];simp
    have hDs:=congrArg Prod.snd hq9
    have hDf:=congrArg Prod.fst hq9
    simp only[] at hDs hDf
    refine sr fun Z z=>?_
    simp
    refine RVn_callC (c_read_Cursor_Take g wFunc b k (by omega)) rfl ?_
    simp[Cur.take,hfn]
    apply z
    refine cT (by simp) ?_
    refine sr fun Z z=>?_
    simp
    refine RVn_callC ((by have h:=c_read_Cursor_Must g wFunc b k (by omega);rw[Cur.must,if_neg (by rw[hfn];exact Bool.false_ne_true),← hDs] at h;exact h)) rfl ?_
    simp
    apply z
    refine AT_exit ?_
    refine hK2 _ ?_
    refine sr fun Z z=>?_
    simp
    refine RVn_callD ((by have h:=c_parse_parser_all g [wMain,[40],[41],[123],[95],[61]] (by decide) b D.2 (by omega);first|exact h|(rw[hDs] at h;exact h))) rfl ?_
    simp
    apply z
    refine sr fun Z z=>?_
    simp
    refine RVn_callC ((by have h:=hX (allC [wMain,[40],[41],[123],[95],[61]] D.2) haL;simp only[encE_def] at h;first|exact h|(rw[hDs] at h;exact h))) rfl ?_
    simp
    apply z
    refine sr fun Z z=>?_
    simp
    refine RVn_callC ((by have h:=c_read_Cursor_Must g [125] b (exprC N (allC [wMain,[40],[41],[123],[95],[61]] D.2)).2 (by omega);first|exact h|(rw[hDs] at h;exact h))) rfl ?_
    simp
    apply z
    refine sr fun Z z=>?_
    simp
    apply z
    refine AT_ret ?_
    simp[encPg,Tryz.f38]
    all_goals simp[programC,← hD,hDf,hDs]
   ·
    refine sr fun Z z=>?_
    simp
    refine RVn_callC (c_read_Cursor_Take g wFunc b k (by omega)) rfl ?_
    simp[Cur.take,hfn]
    apply z
    refine cF (by simp) ?_
    cases hmn:k.adv.next wMain
    ·
     refine sr fun Z z=>?_
     simp
     refine RVn_callC (c_read_Cursor_Next g wMain b k.adv (by omega)) rfl ?_
     simp[hmn]
     apply z
     refine cF (by simp) ?_
     refine AT_any_q [0,2,3] [2,3] (fun z9=>z9={ n:=60,tm:=[(0,.v (.ro [.gp b 0]) none),(2,.lp 2 0),(3,.lp 3 0)],bx:=[(2,encPg pg0),(3,encPg ⟨acc++[(methodC (typeC N) (exprC N) k.adv).1],ex0⟩)],tb:=[(3,0,103000,45)],sh:=[(b,(encC 154 (methodC (typeC N) (exprC N) k.adv).2))],hint:=[(103000,45)] }) Pt.mixed (fun K hK hQ=>?_) ?_
     ·
      refine ANY_take 0 (by rfl) hQ rfl rfl (by simp) (.inr ⟨_,_,_,_,_,_,rfl,rfl,Pt.foff_31_0,rfl⟩) (by kernel_rfl) (by kernel_rfl) (by kernel_rfl) ?_
      refine ANY_take 2 (by rfl) hQ rfl rfl (by simp) (.inl ⟨_,rfl,rfl⟩) (by kernel_rfl) (by kernel_rfl) (by kernel_rfl) ?_
      refine ANY_ready [1,3] (by kernel_rfl) (by simp) ?_
      refine AnyAll.cons rfl (fun Z hZ=>?_) ?_
      ·
       simp
       refine hZ _ ?_
       clear hZ Z
       refine ANY_one 3 (by kernel_rfl) rfl fun Z hZ=>?_
       ·
        simp
        refine RVn_callD (c_parse_parser_method g b N L hL hLn hN hnm k.adv haL2) rfl ?_
        simp
        refine hZ _ ?_
        clear hZ Z
        refine ANY_one 4 (by kernel_rfl) rfl fun Z hZ=>?_
        ·
         simp
         refine hZ _ ?_
         clear hZ Z
         refine ANY_one 5 (by kernel_rfl) rfl fun Z hZ=>?_
         ·
          simp
          repeat refine sg ?_
          refine hZ _ ?_
          clear hZ Z
          refine ANY_take 6 (by rfl) hQ rfl rfl (by simp) (.inr ⟨_,_,_,_,_,_,rfl,rfl,Pt.foff_31_0,rfl⟩) (by kernel_rfl) (by kernel_rfl) (by kernel_rfl) ?_
          refine ANY_one 7 (by kernel_rfl) rfl fun Z hZ=>?_
          ·
           simp
           refine hZ _ ?_
           clear hZ Z
           refine ANY_done (by kernel_rfl) ?_
           refine hK _ (by first|rfl|simp) ?_
           simp[encPg,pg0,ex0,ty0,encD]
      refine AnyAll.cons rfl (fun Z hZ=>?_) ?_
      ·
       simp
       refine RVn_callD (c_parse_parser_method g b N L hL hLn hN hnm k.adv haL2) rfl ?_
       simp
       refine hZ _ ?_
       clear hZ Z
       refine ANY_ready [1,4] (by kernel_rfl) (by simp) ?_
       refine AnyAll.cons rfl (fun Z hZ=>?_) ?_
       ·
        simp
        refine hZ _ ?_
        clear hZ Z
        refine ANY_one 4 (by kernel_rfl) rfl fun Z hZ=>?_
        ·
         simp
         refine hZ _ ?_
         clear hZ Z
         refine ANY_one 5 (by kernel_rfl) rfl fun Z hZ=>?_
         ·
          simp
          repeat refine sg ?_
          refine hZ _ ?_
          clear hZ Z
          refine ANY_take 6 (by rfl) hQ rfl rfl (by simp) (.inr ⟨_,_,_,_,_,_,rfl,rfl,Pt.foff_31_0,rfl⟩) (by kernel_rfl) (by kernel_rfl) (by kernel_rfl) ?_
          refine ANY_one 7 (by kernel_rfl) rfl fun Z hZ=>?_
          ·
           simp
           refine hZ _ ?_
           clear hZ Z
           refine ANY_done (by kernel_rfl) ?_
           refine hK _ (by first|rfl|simp) ?_
           simp[encPg,pg0,ex0,ty0,encD]
       refine AnyAll.cons rfl (fun Z hZ=>?_) ?_
       ·
        simp
        refine hZ _ ?_
        clear hZ Z
        refine ANY_one 1 (by kernel_rfl) rfl fun Z hZ=>?_
        ·
         simp
         refine hZ _ ?_
         clear hZ Z
         refine ANY_one 5 (by kernel_rfl) rfl fun Z hZ=>?_
         ·
          simp
          repeat refine sg ?_
          refine hZ _ ?_
          clear hZ Z
          refine ANY_take 6 (by rfl) hQ rfl rfl (by simp) (.inr ⟨_,_,_,_,_,_,rfl,rfl,Pt.foff_31_0,rfl⟩) (by kernel_rfl) (by kernel_rfl) (by kernel_rfl) ?_
          refine ANY_one 7 (by kernel_rfl) rfl fun Z hZ=>?_
          ·
           simp
           refine hZ _ ?_
           clear hZ Z
           refine ANY_done (by kernel_rfl) ?_
           refine hK _ (by first|rfl|simp) ?_
           simp[encPg,pg0,ex0,ty0,encD]
       exact AnyAll.nil
      exact AnyAll.nil
     rintro _ rfl
     refine hK3 _ (by first|rfl|simp) (m) (by omega) ?_
     (· have ha:=Cur.adv_len hfn
        have ht:=(methodC_suf hsT hsE k.adv).length_le
        refine ⟨(methodC (typeC N) (exprC N) k.adv).2,acc++[(methodC (typeC N) (exprC N) k.adv).1],m,by rw[hq,declsC,if_neg (by rw[hty];exact Bool.false_ne_true),if_pos hfn,if_neg (by rw[hmn];exact Bool.false_ne_true)];simp,⟨(methodC_suf hsT hsE _).trans haL2,by omega,by simp;omega⟩,rfl,by simp[encPg,pg0,ex0,ty0,encD]⟩)
    ·
     have hq9:D=(acc,k.adv):=by
       rw[hD,hq,declsC,if_neg (by rw[hty];exact Bool.false_ne_true),if_pos hfn,if_pos hmn];simp
     have hDs:=congrArg Prod.snd hq9
     have hDf:=congrArg Prod.fst hq9
     simp only[] at hDs hDf
     refine sr fun Z z=>?_
     simp
     refine RVn_callC (c_read_Cursor_Next g wMain b k.adv (by omega)) rfl ?_
     simp[hmn]
     apply z
     refine cT (by simp) ?_
     refine AT_exit ?_
     refine hK2 _ ?_
     refine sr fun Z z=>?_
     simp
     refine RVn_callD ((by have h:=c_parse_parser_all g [wMain,[40],[41],[123],[95],[61]] (by decide) b D.2 (by omega);first|exact h|(rw[hDs] at h;exact h))) rfl ?_
     simp
     apply z
     refine sr fun Z z=>?_
     simp
     refine RVn_callC ((by have h:=hX (allC [wMain,[40],[41],[123],[95],[61]] D.2) haL;simp only[encE_def] at h;first|exact h|(rw[hDs] at h;exact h))) rfl ?_
     simp
     apply z
     refine sr fun Z z=>?_
     simp
     refine RVn_callC ((by have h:=c_read_Cursor_Must g [125] b (exprC N (allC [wMain,[40],[41],[123],[95],[61]] D.2)).2 (by omega);first|exact h|(rw[hDs] at h;exact h))) rfl ?_
     simp
     apply z
     refine sr fun Z z=>?_
     simp
     apply z
     refine AT_ret ?_
     simp[encPg,Tryz.f38]
     all_goals simp[programC,← hD,hDf,hDs]
  ·
   refine sr fun Z z=>?_
   simp[encPg,pg0,ex0,ty0]
   refine RVn_callC (c_read_Cursor_Take g wType b k (by omega)) rfl ?_
   simp[Cur.take,hty]
   apply z
   refine cT (by simp) ?_
   refine AT_any_q [0,2,3] [2,3] (fun z9=>z9={ n:=60,tm:=[(0,.v (.ro [.gp b 0]) none),(2,.lp 2 0),(3,.lp 3 0)],bx:=[(2,encPg pg0),(3,encPg ⟨acc++[(typedC (typeC N) k.adv).1],ex0⟩)],tb:=[(3,0,103000,45)],sh:=[(b,(encC 154 (typedC (typeC N) k.adv).2))],hint:=[(103000,45)] }) Pt.mixed (fun K hK hQ=>?_) ?_
   ·
    refine ANY_take 0 (by rfl) hQ rfl rfl (by simp) (.inr ⟨_,_,_,_,_,_,rfl,rfl,Pt.foff_31_0,rfl⟩) (by kernel_rfl) (by kernel_rfl) (by kernel_rfl) ?_
    refine ANY_take 2 (by rfl) hQ rfl rfl (by simp) (.inl ⟨_,rfl,rfl⟩) (by kernel_rfl) (by kernel_rfl) (by kernel_rfl) ?_
    refine ANY_ready [1,3] (by kernel_rfl) (by simp) ?_
    refine AnyAll.cons rfl (fun Z hZ=>?_) ?_
    ·
     simp
     refine hZ _ ?_
     clear hZ Z
     refine ANY_one 3 (by kernel_rfl) rfl fun Z hZ=>?_
     ·
      simp
      refine RVn_callD (c_parse_parser_typed g b N L hL hLn hN hnm k.adv haL2) rfl ?_
      simp
      refine hZ _ ?_
      clear hZ Z
      refine ANY_one 4 (by kernel_rfl) rfl fun Z hZ=>?_
      ·
       simp
       refine hZ _ ?_
       clear hZ Z
       refine ANY_one 5 (by kernel_rfl) rfl fun Z hZ=>?_
       ·
        simp
        repeat refine sg ?_
        refine hZ _ ?_
        clear hZ Z
        refine ANY_take 6 (by rfl) hQ rfl rfl (by simp) (.inr ⟨_,_,_,_,_,_,rfl,rfl,Pt.foff_31_0,rfl⟩) (by kernel_rfl) (by kernel_rfl) (by kernel_rfl) ?_
        refine ANY_one 7 (by kernel_rfl) rfl fun Z hZ=>?_
        ·
         simp
         refine hZ _ ?_
         clear hZ Z
         refine ANY_done (by kernel_rfl) ?_
         refine hK _ (by first|rfl|simp) ?_
         simp[encPg,pg0,ex0,ty0,encD]
    refine AnyAll.cons rfl (fun Z hZ=>?_) ?_
    ·
     simp
     refine RVn_callD (c_parse_parser_typed g b N L hL hLn hN hnm k.adv haL2) rfl ?_
     simp
     refine hZ _ ?_
     clear hZ Z
     refine ANY_ready [1,4] (by kernel_rfl) (by simp) ?_
     refine AnyAll.cons rfl (fun Z hZ=>?_) ?_
     ·
      simp
      refine hZ _ ?_
      clear hZ Z
      refine ANY_one 4 (by kernel_rfl) rfl fun Z hZ=>?_
      ·
       simp
       refine hZ _ ?_
       clear hZ Z
       refine ANY_one 5 (by kernel_rfl) rfl fun Z hZ=>?_
       ·
        simp
        repeat refine sg ?_
        refine hZ _ ?_
        clear hZ Z
        refine ANY_take 6 (by rfl) hQ rfl rfl (by simp) (.inr ⟨_,_,_,_,_,_,rfl,rfl,Pt.foff_31_0,rfl⟩) (by kernel_rfl) (by kernel_rfl) (by kernel_rfl) ?_
        refine ANY_one 7 (by kernel_rfl) rfl fun Z hZ=>?_
        ·
         simp
         refine hZ _ ?_
         clear hZ Z
         refine ANY_done (by kernel_rfl) ?_
         refine hK _ (by first|rfl|simp) ?_
         simp[encPg,pg0,ex0,ty0,encD]
     refine AnyAll.cons rfl (fun Z hZ=>?_) ?_
     ·
      simp
      refine hZ _ ?_
      clear hZ Z
      refine ANY_one 1 (by kernel_rfl) rfl fun Z hZ=>?_
      ·
       simp
       refine hZ _ ?_
       clear hZ Z
       refine ANY_one 5 (by kernel_rfl) rfl fun Z hZ=>?_
       ·
        simp
        repeat refine sg ?_
        refine hZ _ ?_
        clear hZ Z
        refine ANY_take 6 (by rfl) hQ rfl rfl (by simp) (.inr ⟨_,_,_,_,_,_,rfl,rfl,Pt.foff_31_0,rfl⟩) (by kernel_rfl) (by kernel_rfl) (by kernel_rfl) ?_
        refine ANY_one 7 (by kernel_rfl) rfl fun Z hZ=>?_
        ·
         simp
         refine hZ _ ?_
         clear hZ Z
         refine ANY_done (by kernel_rfl) ?_
         refine hK _ (by first|rfl|simp) ?_
         simp[encPg,pg0,ex0,ty0,encD]
     exact AnyAll.nil
    exact AnyAll.nil
   rintro _ rfl
   refine hK3 _ (by first|rfl|simp) (m) (by omega) ?_
   (· have ha:=Cur.adv_len hty
      have ht:=(typedC_suf hsT k.adv).length_le
      refine ⟨(typedC (typeC N) k.adv).2,acc++[(typedC (typeC N) k.adv).1],m,by rw[hq,declsC,if_pos hty];simp,⟨(typedC_suf hsT _).trans haL2,by omega,by simp;omega⟩,rfl,by simp[encPg,pg0,ex0,ty0,encD]⟩)

end Go.Proofs.YtfgafcjebfjepaaGreatDoor
end

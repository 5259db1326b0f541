import Derived.Test.YtfgafcjebfjepaaGreatDoorPt
import Derived.Test.YtfgafcjebfjepaaGreatDoorPvPb
import Derived.Test.YtfgafcjebfjepaaGreatDoorPvLa
import Derived.Test.YtfgafcjebfjepaaGreatDoorXRdB
import Derived.Test.YtfgafcjebfjepaaGreatDoorPvOe
import Derived.Test.YtfgafcjebfjepaaGreatDoorXLxE
import Derived.Test.YtfgafcjebfjepaaGreatDoorXNaB
section
/- Contracts: types, read. -/
set_option linter.all false
set_option maxHeartbeats 1000000
set_option maxRecDepth 10000
namespace Go.Proofs.YtfgafcjebfjepaaGreatDoor
open Go Go.Pv
variable (g:Nat→Option (List AV)) (rnd:Bool)

theorem c_read_Cursor_targs (q b n:Nat) (L:List Tk) (hT:∀ c,c.l.length < n→c.l <:+ L→ValidC Tryz.prog (G0 g false) 156 [] b (encC 154 c) (.agg (encTy (typeC q c).1)) (encC 154 (typeC q c).2)) (c:Cur) (hc:c.next [91]=true→c.adv.l.length < n) (hcL:c.l <:+ L) (hn:n≤1000000) (hLn:L.length≤1000000):ValidC Tryz.prog (G0 g false) 129 [] b (encC 154 c) (.slice ((targsC (typeC q) c).1.map encTy)) (encC 154 (targsC (typeC q) c).2):=by
 have hcl:=hcL.length_le
 refine validC_of [] Tryz.func129 rfl (by kernel_rfl) ?_
 refine sr fun Z z=>?_
 simp[Tryz.f129]
 apply z
 refine AT_seq_k fun K1 hK1=>?_
 cases hnx:c.next [91]
 ·
  refine sr fun Z z=>?_
  simp
  refine RVn_callC (c_read_Cursor_Take g [91] b c (by omega)) rfl ?_
  simp[Cur.take,hnx]
  apply z
  refine cT (by simp) ?_
  refine sr fun Z z=>?_
  simp
  apply z
  refine AT_ret ?_
  simp[Tryz.f129]
  all_goals simp[targsC,hnx]
 ·
  have hll:=(listC_suf (typeC_suf q) c.adv).length_le
  have ha:=c.adv_suf.length_le
  refine sr fun Z z=>?_
  simp
  refine RVn_callC (c_read_Cursor_Take g [91] b c (by omega)) rfl ?_
  simp[Cur.take,hnx]
  apply z
  refine cF (by simp) ?_
  refine AT_skip ?_
  refine hK1 _ ?_
  refine sr fun Z z=>?_
  simp
  refine RVn_callC (c_read_list_api_Type g (typeC q) b n L (typeC_suf q) hT c.adv (hc hnx) (c.adv_suf.trans hcL) hn) rfl ?_
  simp
  apply z
  refine sr fun Z z=>?_
  simp
  refine RVn_callC (c_read_Cursor_Must g [93] b (listC (typeC q) c.adv).2 (by omega)) rfl ?_
  simp
  apply z
  refine sr fun Z z=>?_
  simp
  apply z
  refine AT_ret ?_
  simp[Tryz.f129]
  all_goals simp[targsC,hnx]

theorem c_read_Cursor_Type (b:Nat) (L:List Tk) (hL:∀ t∈L,t.2.1.length≤1000000) (hLn:L.length < 1000000) (hnm:∀ s:Str,s.length≤1000000→Valid Tryz.prog (G0 g false) 54 [.str s] (.bool (isName s))):∀ (n:Nat) (c:Cur),c.l.length < n→n≤1000000→c.l <:+ L→ValidC Tryz.prog (G0 g false) 156 [] b (encC 154 c) (.agg (encTy (typeC n c).1)) (encC 154 (typeC n c).2):=by
 intro n
 induction n with
 | zero=>intro c hc;omega
 | succ q ih=>
 intro c hc hq hcL
 have hnl:=c.name_suf.length_le
 have hnx:c.name.next [91]=true→c.name.adv.l.length < q:=fun h=>by
   have h1:=(Cur.name_next h).2
   have h2:=c.name.adv_suf.length_le
   omega
 refine validC_of [] Tryz.func156 rfl (by kernel_rfl) ?_
 refine sr fun Z z=>?_
 simp[Tryz.f156]
 apply z
 refine sr fun Z z=>?_
 simp
 refine RVn_callC (c_read_Cursor_Name g b c (by omega) hnm (fun t ht=>hL t (hcL.subset ht))) rfl ?_
 simp
 apply z
 refine sr fun Z z=>?_
 simp
 refine RVn_callC (c_read_Cursor_targs g q b q L (fun c h h2=>ih c h (by omega) h2) c.name hnx (c.name_suf.trans hcL) (by omega) (by omega)) rfl ?_
 simp
 apply z
 refine AT_ret ?_
 simp[Tryz.f156]
 all_goals simp[typeC,encTy_mk]

end Go.Proofs.YtfgafcjebfjepaaGreatDoor
end

section
/- Contracts: expressions, read. -/
set_option linter.all false
set_option maxHeartbeats 1000000
set_option maxRecDepth 10000
namespace Go.Proofs.YtfgafcjebfjepaaGreatDoor
open Go Go.Pv
variable (g:Nat→Option (List AV)) (rnd:Bool)

theorem c_read_Cursor_args (q b n:Nat) (L:List Tk) (hE:∀ c,c.l.length < n→c.l <:+ L→ValidC Tryz.prog (G0 g false) 83 [] b (encC 154 c) (.agg (encE (exprC q c).1)) (encC 154 (exprC q c).2)) (e:Str) (c:Cur) (hc:c.l.length < n) (hcL:c.l <:+ L) (hn:n≤1000000) (hLn:L.length≤1000000):ValidC Tryz.prog (G0 g false) 130 [.str e] b (encC 154 c) (.slice ((argsC (exprC q) e c).1.map encE)) (encC 154 (argsC (exprC q) e c).2):=by
 have hcl:=hcL.length_le
 have hll:=(listC_suf (exprC_suf q) c).length_le
 refine validC_of [] Tryz.func130 rfl (by kernel_rfl) ?_
 refine sr fun Z z=>?_
 simp[Tryz.f130]
 apply z
 refine sr fun Z z=>?_
 simp
 apply z
 refine AT_seq_k fun K1 hK1=>?_
 cases hnx:c.next e
 ·
  refine sr fun Z z=>?_
  simp
  refine RVn_callC (c_read_Cursor_Next g e b c (by omega)) rfl ?_
  simp[hnx]
  apply z
  refine cT (by simp) ?_
  refine AT_region_q fun Z z=>?_
  simp
  refine RVn_callC (c_read_list_api_Expr g (exprC q) b n L (exprC_suf q) hE c hc hcL hn) rfl ?_
  simp
  apply z
  refine hK1 _ ?_
  refine sr fun Z z=>?_
  simp
  refine RVn_callC (c_read_Cursor_Must g e b _ (by first|(simp only[hnx];omega)|omega)) rfl ?_
  simp
  apply z
  refine sr fun Z z=>?_
  simp
  apply z
  refine AT_ret ?_
  simp[Tryz.f130]
  all_goals simp[argsC,hnx]
 ·
  refine sr fun Z z=>?_
  simp
  refine RVn_callC (c_read_Cursor_Next g e b c (by omega)) rfl ?_
  simp[hnx]
  apply z
  refine cF (by simp) ?_
  refine AT_skip ?_
  refine hK1 _ ?_
  refine sr fun Z z=>?_
  simp
  refine RVn_callC (c_read_Cursor_Must g e b _ (by first|(simp only[hnx];omega)|omega)) rfl ?_
  simp
  apply z
  refine sr fun Z z=>?_
  simp
  apply z
  refine AT_ret ?_
  simp[Tryz.f130]
  all_goals simp[argsC,hnx]

theorem c_read_Cursor_rest (q b n:Nat) (L:List Tk) (hL:∀ t∈L,t.2.1.length≤1000000) (hLn:L.length < 1000000) (hnm:∀ s:Str,s.length≤1000000→Valid Tryz.prog (G0 g false) 54 [.str s] (.bool (isName s))) (hT:∀ c,c.l.length < n→c.l <:+ L→ValidC Tryz.prog (G0 g false) 156 [] b (encC 154 c) (.agg (encTy (typeC q c).1)) (encC 154 (typeC q c).2)) (hE:∀ c,c.l.length < n→c.l <:+ L→ValidC Tryz.prog (G0 g false) 83 [] b (encC 154 c) (.agg (encE (exprC q c).1)) (encC 154 (exprC q c).2)) (e:Exp) (c:Cur) (hc:c.l.length < n) (hcL:c.l <:+ L) (hn:n≤1000000):ValidC Tryz.prog (G0 g false) 131 [.agg (encE e)] b (encC 154 c) (.agg (encE (restC (typeC q) (exprC q) e c).1)) (encC 154 (restC (typeC q) (exprC q) e c).2):=by
 have hcl:=hcL.length_le
 have hnl:=c.name_suf.length_le
 have hal:=c.adv_suf.length_le
 have htl:=(typeC_suf q c.adv).length_le
 have hgl:=(targsC_suf (typeC_suf q) c.name).length_le
 have hml:=((targsC (typeC q) c.name).2.must_suf [40])
 have hml2:=hml.length_le
 have hcnt:=argsC_count (exprC_suf q) [41] ((targsC (typeC q) c.name).2.must [40])
 refine validC_of [(48,29)] Tryz.func131 rfl (by kernel_rfl) ?_
 refine sr fun Z z=>?_
 simp[Tryz.f131]
 apply z
 refine sr fun Z z=>?_
 simp
 refine RVn_callC (c_read_Cursor_first g b c (by omega)) rfl ?_
 simp[encK]
 apply z
 refine AT_seq_k fun K1 hK1=>?_
 cases h40:c.next [40]
 ·
  refine sr fun Z z=>?_
  simp
  refine RVn_callC (c_read_Cursor_Take g [40] b c (by omega)) rfl ?_
  simp[Cur.take,h40]
  apply z
  refine cF (by simp) ?_
  refine AT_skip ?_
  refine hK1 _ ?_
  refine sr fun Z z=>?_
  simp
  refine RVn_callC (c_read_Cursor_Name g b c (by omega) hnm (fun t ht=>hL t (hcL.subset ht))) rfl ?_
  simp
  apply z
  refine AT_seq_k fun K2 hK2=>?_
  cases h91:c.name.next [91]
  ·
   cases h40b:c.name.next [40]
   ·
    refine sr fun Z z=>?_
    simp
    refine RVn_callC (c_read_Cursor_Next g [91] b c.name (by omega)) rfl ?_
    simp[h91]
    repeat refine sg ?_
    refine RVn_callC (c_read_Cursor_Next g [40] b c.name (by omega)) rfl ?_
    simp[h40b]
    repeat refine sg ?_
    apply z
    refine cT (by simp) ?_
    refine sr fun Z z=>?_
    simp
    apply z
    refine AT_ret ?_
    simp[Tryz.f131]
    all_goals first|(· simp[restC,h40,ty0])|(· simp[restC,h40,h91,ty0])|(· simp[restC,h40,h91,h40b,encE_mk,ty0])
   ·
    refine sr fun Z z=>?_
    simp
    refine RVn_callC (c_read_Cursor_Next g [91] b c.name (by omega)) rfl ?_
    simp[h91]
    repeat refine sg ?_
    refine RVn_callC (c_read_Cursor_Next g [40] b c.name (by omega)) rfl ?_
    simp[h40b]
    repeat refine sg ?_
    apply z
    refine cF (by simp) ?_
    refine AT_skip ?_
    refine hK2 _ ?_
    refine sr fun Z z=>?_
    simp
    refine RVn_callC (c_read_Cursor_targs g q b n L hT c.name (fun h=>by have:=(Cur.name_next h).2;have:=c.name.adv_suf.length_le;omega) (c.name_suf.trans hcL) hn (by omega)) rfl ?_
    simp
    apply z
    refine sr fun Z z=>?_
    simp
    refine RVn_callC (c_read_Cursor_Must g [40] b _ (by omega)) rfl ?_
    simp
    apply z
    refine AT_seq_any [0,4,7] [4,7] (fun z9=>z9={ n:=54,tm:=[(0,.v (.gp b 0) none),(4,.lp 4 0),(7,.lp 7 0)],bx:=[(4,[.int .i64 0,.str [],.str [],.slice [],.int .i64 0,.slice [],.slice [],.int .i64 0]),(7,[.int .i64 2,.str c.nm,.str [],.slice [],.int .i64 0,.slice ((targsC (typeC q) c.name).1.map encTy),.slice ((e :: (argsC (exprC q) [41] ((targsC (typeC q) c.name).2.must [40])).1).map encE),.int .i64 c.at_])],tb:=[(7,6,48,29)],sh:=[(b,(encC 154 (argsC (exprC q) [41] ((targsC (typeC q) c.name).2.must [40])).2))],hint:=[(48,29)] }) Pt.mixed (fun K hK hQ=>?_) ?_
    ·
     refine ANY_take 2 (by rfl) hQ rfl rfl (by simp) (.inl ⟨_,rfl,rfl⟩) (by kernel_rfl) (by kernel_rfl) (by kernel_rfl) ?_
     refine ANY_ready [0,3] (by kernel_rfl) (by simp) ?_
     refine AnyAll.cons rfl (fun Z hZ=>?_) ?_
     ·
      simp
      refine hZ _ ?_
      clear hZ Z
      refine ANY_ready [1,3] (by kernel_rfl) (by simp) ?_
      refine AnyAll.cons rfl (fun Z hZ=>?_) ?_
      ·
       simp
       refine hZ _ ?_
       clear hZ Z
       refine ANY_one 3 (by kernel_rfl) rfl fun Z hZ=>?_
       ·
        simp
        refine RVn_callC (c_read_Cursor_args g q b n L hE [41] _ (by omega) (hml.trans ((targsC_suf (typeC_suf q) c.name).trans (c.name_suf.trans hcL))) hn (by omega)) rfl ?_
        simp
        refine hZ _ ?_
        clear hZ Z
        refine ANY_one 4 (by kernel_rfl) rfl fun Z hZ=>?_
        ·
         simp
         repeat refine sg ?_
         refine hZ _ ?_
         clear hZ Z
         refine ANY_take 5 (by rfl) hQ rfl rfl (by simp) (.inr ⟨_,_,_,_,_,_,rfl,rfl,Pt.foff_29_4,rfl⟩) (by kernel_rfl) (by kernel_rfl) (by kernel_rfl) ?_
         refine ANY_one 6 (by kernel_rfl) rfl fun Z hZ=>?_
         ·
          simp
          refine hZ _ ?_
          clear hZ Z
          refine ANY_done (by kernel_rfl) ?_
          refine hK _ (by first|rfl|simp) ?_
          simp
      refine AnyAll.cons rfl (fun Z hZ=>?_) ?_
      ·
       simp
       refine RVn_callC (c_read_Cursor_args g q b n L hE [41] _ (by omega) (hml.trans ((targsC_suf (typeC_suf q) c.name).trans (c.name_suf.trans hcL))) hn (by omega)) rfl ?_
       simp
       refine hZ _ ?_
       clear hZ Z
       refine ANY_one 1 (by kernel_rfl) rfl fun Z hZ=>?_
       ·
        simp
        refine hZ _ ?_
        clear hZ Z
        refine ANY_one 4 (by kernel_rfl) rfl fun Z hZ=>?_
        ·
         simp
         repeat refine sg ?_
         refine hZ _ ?_
         clear hZ Z
         refine ANY_take 5 (by rfl) hQ rfl rfl (by simp) (.inr ⟨_,_,_,_,_,_,rfl,rfl,Pt.foff_29_4,rfl⟩) (by kernel_rfl) (by kernel_rfl) (by kernel_rfl) ?_
         refine ANY_one 6 (by kernel_rfl) rfl fun Z hZ=>?_
         ·
          simp
          refine hZ _ ?_
          clear hZ Z
          refine ANY_done (by kernel_rfl) ?_
          refine hK _ (by first|rfl|simp) ?_
          simp
      exact AnyAll.nil
     refine AnyAll.cons rfl (fun Z hZ=>?_) ?_
     ·
      simp
      refine RVn_callC (c_read_Cursor_args g q b n L hE [41] _ (by omega) (hml.trans ((targsC_suf (typeC_suf q) c.name).trans (c.name_suf.trans hcL))) hn (by omega)) rfl ?_
      simp
      refine hZ _ ?_
      clear hZ Z
      refine ANY_one 0 (by kernel_rfl) rfl fun Z hZ=>?_
      ·
       simp
       refine hZ _ ?_
       clear hZ Z
       refine ANY_one 1 (by kernel_rfl) rfl fun Z hZ=>?_
       ·
        simp
        refine hZ _ ?_
        clear hZ Z
        refine ANY_one 4 (by kernel_rfl) rfl fun Z hZ=>?_
        ·
         simp
         repeat refine sg ?_
         refine hZ _ ?_
         clear hZ Z
         refine ANY_take 5 (by rfl) hQ rfl rfl (by simp) (.inr ⟨_,_,_,_,_,_,rfl,rfl,Pt.foff_29_4,rfl⟩) (by kernel_rfl) (by kernel_rfl) (by kernel_rfl) ?_
         refine ANY_one 6 (by kernel_rfl) rfl fun Z hZ=>?_
         ·
          simp
          refine hZ _ ?_
          clear hZ Z
          refine ANY_done (by kernel_rfl) ?_
          refine hK _ (by first|rfl|simp) ?_
          simp
     exact AnyAll.nil
    rintro _ rfl
    refine sr fun Z z=>?_
    simp
    apply z
    refine AT_ret ?_
    simp[Tryz.f131]
    all_goals first|(· simp[restC,h40,ty0])|(· simp[restC,h40,h91,ty0])|(· simp[restC,h40,h91,h40b,encE_mk,ty0])
  ·
   refine sr fun Z z=>?_
   simp
   refine RVn_callC (c_read_Cursor_Next g [91] b c.name (by omega)) rfl ?_
   simp[h91]
   repeat refine sg ?_
   apply z
   refine cF (by simp) ?_
   refine AT_skip ?_
   refine hK2 _ ?_
   refine sr fun Z z=>?_
   simp
   refine RVn_callC (c_read_Cursor_targs g q b n L hT c.name (fun h=>by have:=(Cur.name_next h).2;have:=c.name.adv_suf.length_le;omega) (c.name_suf.trans hcL) hn (by omega)) rfl ?_
   simp
   apply z
   refine sr fun Z z=>?_
   simp
   refine RVn_callC (c_read_Cursor_Must g [40] b _ (by omega)) rfl ?_
   simp
   apply z
   refine AT_seq_any [0,4,7] [4,7] (fun z9=>z9={ n:=54,tm:=[(0,.v (.gp b 0) none),(4,.lp 4 0),(7,.lp 7 0)],bx:=[(4,[.int .i64 0,.str [],.str [],.slice [],.int .i64 0,.slice [],.slice [],.int .i64 0]),(7,[.int .i64 2,.str c.nm,.str [],.slice [],.int .i64 0,.slice ((targsC (typeC q) c.name).1.map encTy),.slice ((e :: (argsC (exprC q) [41] ((targsC (typeC q) c.name).2.must [40])).1).map encE),.int .i64 c.at_])],tb:=[(7,6,48,29)],sh:=[(b,(encC 154 (argsC (exprC q) [41] ((targsC (typeC q) c.name).2.must [40])).2))],hint:=[(48,29)] }) Pt.mixed (fun K hK hQ=>?_) ?_
   ·
    refine ANY_take 2 (by rfl) hQ rfl rfl (by simp) (.inl ⟨_,rfl,rfl⟩) (by kernel_rfl) (by kernel_rfl) (by kernel_rfl) ?_
    refine ANY_ready [0,3] (by kernel_rfl) (by simp) ?_
    refine AnyAll.cons rfl (fun Z hZ=>?_) ?_
    ·
     simp
     refine hZ _ ?_
     clear hZ Z
     refine ANY_ready [1,3] (by kernel_rfl) (by simp) ?_
     refine AnyAll.cons rfl (fun Z hZ=>?_) ?_
     ·
      simp
      refine hZ _ ?_
      clear hZ Z
      refine ANY_one 3 (by kernel_rfl) rfl fun Z hZ=>?_
      ·
       simp
       refine RVn_callC (c_read_Cursor_args g q b n L hE [41] _ (by omega) (hml.trans ((targsC_suf (typeC_suf q) c.name).trans (c.name_suf.trans hcL))) hn (by omega)) rfl ?_
       simp
       refine hZ _ ?_
       clear hZ Z
       refine ANY_one 4 (by kernel_rfl) rfl fun Z hZ=>?_
       ·
        simp
        repeat refine sg ?_
        refine hZ _ ?_
        clear hZ Z
        refine ANY_take 5 (by rfl) hQ rfl rfl (by simp) (.inr ⟨_,_,_,_,_,_,rfl,rfl,Pt.foff_29_4,rfl⟩) (by kernel_rfl) (by kernel_rfl) (by kernel_rfl) ?_
        refine ANY_one 6 (by kernel_rfl) rfl fun Z hZ=>?_
        ·
         simp
         refine hZ _ ?_
         clear hZ Z
         refine ANY_done (by kernel_rfl) ?_
         refine hK _ (by first|rfl|simp) ?_
         simp
     refine AnyAll.cons rfl (fun Z hZ=>?_) ?_
     ·
      simp
      refine RVn_callC (c_read_Cursor_args g q b n L hE [41] _ (by omega) (hml.trans ((targsC_suf (typeC_suf q) c.name).trans (c.name_suf.trans hcL))) hn (by omega)) rfl ?_
      simp
      refine hZ _ ?_
      clear hZ Z
      refine ANY_one 1 (by kernel_rfl) rfl fun Z hZ=>?_
      ·
       simp
       refine hZ _ ?_
       clear hZ Z
       refine ANY_one 4 (by kernel_rfl) rfl fun Z hZ=>?_
       ·
        simp
        repeat refine sg ?_
        refine hZ _ ?_
        clear hZ Z
        refine ANY_take 5 (by rfl) hQ rfl rfl (by simp) (.inr ⟨_,_,_,_,_,_,rfl,rfl,Pt.foff_29_4,rfl⟩) (by kernel_rfl) (by kernel_rfl) (by kernel_rfl) ?_
        refine ANY_one 6 (by kernel_rfl) rfl fun Z hZ=>?_
        ·
         simp
         refine hZ _ ?_
         clear hZ Z
         refine ANY_done (by kernel_rfl) ?_
         refine hK _ (by first|rfl|simp) ?_
         simp
     exact AnyAll.nil
    refine AnyAll.cons rfl (fun Z hZ=>?_) ?_
    ·
     simp
     refine RVn_callC (c_read_Cursor_args g q b n L hE [41] _ (by omega) (hml.trans ((targsC_suf (typeC_suf q) c.name).trans (c.name_suf.trans hcL))) hn (by omega)) rfl ?_
     simp
     refine hZ _ ?_
     clear hZ Z
     refine ANY_one 0 (by kernel_rfl) rfl fun Z hZ=>?_
     ·
      simp
      refine hZ _ ?_
      clear hZ Z
      refine ANY_one 1 (by kernel_rfl) rfl fun Z hZ=>?_
      ·
       simp
       refine hZ _ ?_
       clear hZ Z
       refine ANY_one 4 (by kernel_rfl) rfl fun Z hZ=>?_
       ·
        simp
        repeat refine sg ?_
        refine hZ _ ?_
        clear hZ Z
        refine ANY_take 5 (by rfl) hQ rfl rfl (by simp) (.inr ⟨_,_,_,_,_,_,rfl,rfl,Pt.foff_29_4,rfl⟩) (by kernel_rfl) (by kernel_rfl) (by kernel_rfl) ?_
        refine ANY_one 6 (by kernel_rfl) rfl fun Z hZ=>?_
        ·
         simp
         refine hZ _ ?_
         clear hZ Z
         refine ANY_done (by kernel_rfl) ?_
         refine hK _ (by first|rfl|simp) ?_
         simp
    exact AnyAll.nil
   rintro _ rfl
   refine sr fun Z z=>?_
   simp
   apply z
   refine AT_ret ?_
   simp[Tryz.f131]
   all_goals first|(· simp[restC,h40,ty0])|(· simp[restC,h40,h91,encE_mk,ty0])|(· simp[restC,h40,h91,h40b,encE_mk,encTy_def,ty0])
 ·
  refine sr fun Z z=>?_
  simp
  refine RVn_callC (c_read_Cursor_Take g [40] b c (by omega)) rfl ?_
  simp[Cur.take,h40]
  apply z
  refine cT (by simp) ?_
  refine AT_seq_any [0,3,4] [3,4] (fun z9=>z9={ n:=54,tm:=[(0,.v (.gp b 0) none),(3,.lp 3 0),(4,.lp 4 0)],bx:=[(3,encE (.mk 5 [] (typeC q c.adv).1 [] [e] c.first.2.2)),(4,[.int .i64 0,.str [],.str [],.slice [],.int .i64 0,.slice [],.slice [],.int .i64 0])],tb:=[],sh:=[(b,(encC 154 (typeC q c.adv).2))],hint:=[(48,29)] }) Pt.mixed (fun K hK hQ=>?_) ?_
  ·
   refine ANY_take 2 (by rfl) hQ rfl rfl (by simp) (.inl ⟨_,rfl,rfl⟩) (by kernel_rfl) (by kernel_rfl) (by kernel_rfl) ?_
   refine ANY_take 4 (by rfl) hQ rfl rfl (by simp) (.inl ⟨_,rfl,rfl⟩) (by kernel_rfl) (by kernel_rfl) (by kernel_rfl) ?_
   refine ANY_ready [0,3] (by kernel_rfl) (by simp) ?_
   refine AnyAll.cons rfl (fun Z hZ=>?_) ?_
   ·
    simp
    refine hZ _ ?_
    clear hZ Z
    refine ANY_ready [1,3] (by kernel_rfl) (by simp) ?_
    refine AnyAll.cons rfl (fun Z hZ=>?_) ?_
    ·
     simp
     refine hZ _ ?_
     clear hZ Z
     refine ANY_one 3 (by kernel_rfl) rfl fun Z hZ=>?_
     ·
      simp
      refine RVn_callC (hT c.adv (by omega) (c.adv_suf.trans hcL)) rfl ?_
      simp[encTy_def]
      refine hZ _ ?_
      clear hZ Z
      refine ANY_one 5 (by kernel_rfl) rfl fun Z hZ=>?_
      ·
       simp
       refine hZ _ ?_
       clear hZ Z
       refine ANY_one 6 (by kernel_rfl) rfl fun Z hZ=>?_
       ·
        simp
        refine hZ _ ?_
        clear hZ Z
        refine ANY_done (by kernel_rfl) ?_
        refine hK _ (by first|rfl|simp) ?_
        simp[encE_mk]
    refine AnyAll.cons rfl (fun Z hZ=>?_) ?_
    ·
     simp
     refine RVn_callC (hT c.adv (by omega) (c.adv_suf.trans hcL)) rfl ?_
     simp[encTy_def]
     refine hZ _ ?_
     clear hZ Z
     refine ANY_one 1 (by kernel_rfl) rfl fun Z hZ=>?_
     ·
      simp
      refine hZ _ ?_
      clear hZ Z
      refine ANY_one 5 (by kernel_rfl) rfl fun Z hZ=>?_
      ·
       simp
       refine hZ _ ?_
       clear hZ Z
       refine ANY_one 6 (by kernel_rfl) rfl fun Z hZ=>?_
       ·
        simp
        refine hZ _ ?_
        clear hZ Z
        refine ANY_done (by kernel_rfl) ?_
        refine hK _ (by first|rfl|simp) ?_
        simp[encE_mk]
    exact AnyAll.nil
   refine AnyAll.cons rfl (fun Z hZ=>?_) ?_
   ·
    simp
    refine RVn_callC (hT c.adv (by omega) (c.adv_suf.trans hcL)) rfl ?_
    simp[encTy_def]
    refine hZ _ ?_
    clear hZ Z
    refine ANY_one 0 (by kernel_rfl) rfl fun Z hZ=>?_
    ·
     simp
     refine hZ _ ?_
     clear hZ Z
     refine ANY_one 1 (by kernel_rfl) rfl fun Z hZ=>?_
     ·
      simp
      refine hZ _ ?_
      clear hZ Z
      refine ANY_one 5 (by kernel_rfl) rfl fun Z hZ=>?_
      ·
       simp
       refine hZ _ ?_
       clear hZ Z
       refine ANY_one 6 (by kernel_rfl) rfl fun Z hZ=>?_
       ·
        simp
        refine hZ _ ?_
        clear hZ Z
        refine ANY_done (by kernel_rfl) ?_
        refine hK _ (by first|rfl|simp) ?_
        simp[encE_mk]
   exact AnyAll.nil
  rintro _ rfl
  refine sr fun Z z=>?_
  simp
  refine RVn_callC (c_read_Cursor_Must g [41] b _ (by omega)) rfl ?_
  simp
  apply z
  refine sr fun Z z=>?_
  simp
  apply z
  refine AT_ret ?_
  simp[Tryz.f131]
  all_goals first|(· simp[restC,h40,encE_mk])|(· simp[restC,h40,h91,encE_mk,encTy_def,ty0])|(· simp[restC,h40,h91,h40b,encE_mk,encTy_def,ty0])

theorem c_read_Cursor_Expr (b:Nat) (L:List Tk) (hL:∀ t∈L,t.2.1.length≤1000000) (hLn:L.length < 1000000) (hnm:∀ s:Str,s.length≤1000000→Valid Tryz.prog (G0 g false) 54 [.str s] (.bool (isName s))):∀ (n:Nat) (c:Cur),c.l.length < n→n≤1000000→c.l <:+ L→ValidC Tryz.prog (G0 g false) 83 [] b (encC 154 c) (.agg (encE (exprC n c).1)) (encC 154 (exprC n c).2):=by
 intro n
 induction n with
 | zero=>intro c hc;omega
 | succ q ih=>
 intro c hc hq hcL
 have hcl:=hcL.length_le
 have hnl:=c.name_suf.length_le
 have hT:=fun c h h2=>c_read_Cursor_Type g b L hL hLn hnm q c h (by omega) h2
 have hE:=fun c h h2=>ih c h (by omega) h2
 have hbs:=baseC_suf (typeC_suf q) (exprC_suf q) c
 have hbl:=hbs.length_le
 have hgs:=(targsC_suf (typeC_suf q) c.name)
 have hgl:=hgs.length_le
 have hms:=(targsC (typeC q) c.name).2.must_suf [123]
 have hml:=hms.length_le
 have hrs:=restC_suf (typeC_suf q) (exprC_suf q)
 have hrl:=fun e c=>(hrs e c).length_le
 refine validC_of [] Tryz.func83 rfl (by kernel_rfl) ?_
 refine sr fun Z z=>?_
 simp[Tryz.f83]
 apply z
 refine sr fun Z z=>?_
 simp
 refine RVn_callC (c_read_Cursor_Name g b c (by omega) hnm (fun t ht=>hL t (hcL.subset ht))) rfl ?_
 simp
 apply z
 refine sr fun Z z=>?_
 simp
 apply z
 refine AT_seq_k fun K1 hK1=>?_
 cases h91:c.name.next [91]
 cases h123:c.name.next [123]
 refine sr fun Z z=>?_
 simp
 refine RVn_callC (c_read_Cursor_Next g [91] b c.name (by omega)) rfl ?_
 simp[h91]
 repeat refine sg ?_
 refine RVn_callC (c_read_Cursor_Next g [123] b c.name (by omega)) rfl ?_
 simp[h123]
 repeat refine sg ?_
 apply z
 refine cF (by simp) ?_
 refine AT_skip ?_
 refine hK1 _ ?_
 refine AT_seq_k fun K2 hK2=>?_
 refine AT_block ?_
 refine AT_loop_q [0,2,5] [2,5] (fun j s=>∃ k e,dotsC (restC (typeC q) (exprC q)) (baseC (typeC q) (exprC q) c).2.l.length (baseC (typeC q) (exprC q) c).1 (baseC (typeC q) (exprC q) c).2=dotsC (restC (typeC q) (exprC q)) k.l.length e k∧k.l <:+ c.l∧j=k.l.length∧s={ n:=38,tm:=[(0,.v (.gp b 0) none),(2,.lp 2 0),(5,.lp 5 0)],bx:=[(2,[.int .i64 0,.str [],.str [],.slice [],.int .i64 0,.slice [],.slice [],.int .i64 0]),(5,encE e)],tb:=[],sh:=[(b,(encC 154 k))],hint:=[] }) ((baseC (typeC q) (exprC q) c).2.l.length) (by first|rfl|simp) ?_ ?_
 refine ⟨(baseC (typeC q) (exprC q) c).2,(baseC (typeC q) (exprC q) c).1,rfl,hbs,rfl,?_⟩
 (· simp[baseC,h91,h123,encE_mk,ty0])
 rintro j s ⟨k,e,hk,hkc,rfl,rfl⟩ K3 hK3
 refine AT_seq_k fun K4 hK4=>?_
 have hkl:=hkc.length_le
 cases hnx:k.next [46]
 refine sr fun Z z=>?_
 simp
 refine RVn_callC (c_read_Cursor_Take g [46] b k (by omega)) rfl ?_
 simp[Cur.take,hnx]
 apply z
 refine cF (by simp) ?_
 refine AT_exit ?_
 refine hK2 _ ?_
 refine sr fun Z z=>?_
 simp
 apply z
 refine AT_ret ?_
 simp[Tryz.f83]
 rw[exprC,hk,dotsC_at hrl,if_neg (by simp[hnx])];simp
 have ha:=Cur.adv_len hnx
 have hla:=hrl e k.adv
 refine sr fun Z z=>?_
 simp
 refine RVn_callC (c_read_Cursor_Take g [46] b k (by omega)) rfl ?_
 simp[Cur.take,hnx]
 apply z
 refine cT (by simp) ?_
 refine AT_skip ?_
 refine hK4 _ ?_
 refine AT_block ?_
 refine AT_region_q fun Z z=>?_
 simp
 refine RVn_callC (c_read_Cursor_rest g q b q L hL hLn hnm hT hE e k.adv (by omega) (k.adv_suf.trans (hkc.trans hcL)) (by omega)) rfl ?_
 simp
 apply z
 refine hK3 _ (by first|rfl|simp) ((restC (typeC q) (exprC q) e k.adv).2.l.length) (by omega) ?_
 exact ⟨(restC (typeC q) (exprC q) e k.adv).2,(restC (typeC q) (exprC q) e k.adv).1,by rw[hk,dotsC_at hrl,if_pos hnx],(hrs _ _).trans (k.adv_suf.trans hkc),rfl,by simp⟩
 have hnn:=(Cur.name_next h123).2
 refine sr fun Z z=>?_
 simp
 refine RVn_callC (c_read_Cursor_Next g [91] b c.name (by omega)) rfl ?_
 simp[h91]
 repeat refine sg ?_
 refine RVn_callC (c_read_Cursor_Next g [123] b c.name (by omega)) rfl ?_
 simp[h123]
 repeat refine sg ?_
 apply z
 refine cT (by simp) ?_
 refine sr fun Z z=>?_
 simp
 refine RVn_callC (c_read_Cursor_targs g q b q L hT c.name (fun h=>by have:=(Cur.name_next h).2;have:=c.name.adv_suf.length_le;omega) (c.name_suf.trans hcL) (by omega) (by omega)) rfl ?_
 simp
 apply z
 refine sr fun Z z=>?_
 simp
 refine RVn_callC (c_read_Cursor_Must g [123] b _ (by omega)) rfl ?_
 simp
 apply z
 refine AT_region_q fun Z z=>?_
 simp
 refine RVn_callC (c_read_Cursor_args g q b q L hE [125] _ (by omega) (hms.trans (hgs.trans (c.name_suf.trans hcL))) (by omega) (by omega)) rfl ?_
 simp
 apply z
 refine hK1 _ ?_
 refine AT_seq_k fun K5 hK5=>?_
 refine AT_block ?_
 refine AT_loop_q [0,2,5] [2,5] (fun j s=>∃ k e,dotsC (restC (typeC q) (exprC q)) (baseC (typeC q) (exprC q) c).2.l.length (baseC (typeC q) (exprC q) c).1 (baseC (typeC q) (exprC q) c).2=dotsC (restC (typeC q) (exprC q)) k.l.length e k∧k.l <:+ c.l∧j=k.l.length∧s={ n:=38,tm:=[(0,.v (.gp b 0) none),(2,.lp 2 0),(5,.lp 5 0)],bx:=[(2,[.int .i64 0,.str [],.str [],.slice [],.int .i64 0,.slice [],.slice [],.int .i64 0]),(5,encE e)],tb:=[],sh:=[(b,(encC 154 k))],hint:=[] }) ((baseC (typeC q) (exprC q) c).2.l.length) (by first|rfl|simp) ?_ ?_
 refine ⟨(baseC (typeC q) (exprC q) c).2,(baseC (typeC q) (exprC q) c).1,rfl,hbs,rfl,?_⟩
 (· simp[baseC,h91,h123,encE_mk])
 rintro j s ⟨k,e,hk,hkc,rfl,rfl⟩ K6 hK6
 refine AT_seq_k fun K7 hK7=>?_
 have hkl:=hkc.length_le
 cases hnx:k.next [46]
 refine sr fun Z z=>?_
 simp
 refine RVn_callC (c_read_Cursor_Take g [46] b k (by omega)) rfl ?_
 simp[Cur.take,hnx]
 apply z
 refine cF (by simp) ?_
 refine AT_exit ?_
 refine hK5 _ ?_
 refine sr fun Z z=>?_
 simp
 apply z
 refine AT_ret ?_
 simp[Tryz.f83]
 rw[exprC,hk,dotsC_at hrl,if_neg (by simp[hnx])];simp
 have ha:=Cur.adv_len hnx
 have hla:=hrl e k.adv
 refine sr fun Z z=>?_
 simp
 refine RVn_callC (c_read_Cursor_Take g [46] b k (by omega)) rfl ?_
 simp[Cur.take,hnx]
 apply z
 refine cT (by simp) ?_
 refine AT_skip ?_
 refine hK7 _ ?_
 refine AT_block ?_
 refine AT_region_q fun Z z=>?_
 simp
 refine RVn_callC (c_read_Cursor_rest g q b q L hL hLn hnm hT hE e k.adv (by omega) (k.adv_suf.trans (hkc.trans hcL)) (by omega)) rfl ?_
 simp
 apply z
 refine hK6 _ (by first|rfl|simp) ((restC (typeC q) (exprC q) e k.adv).2.l.length) (by omega) ?_
 exact ⟨(restC (typeC q) (exprC q) e k.adv).2,(restC (typeC q) (exprC q) e k.adv).1,by rw[hk,dotsC_at hrl,if_pos hnx],(hrs _ _).trans (k.adv_suf.trans hkc),rfl,by simp⟩
 have hnn:=(Cur.name_next h91).2
 refine sr fun Z z=>?_
 simp
 refine RVn_callC (c_read_Cursor_Next g [91] b c.name (by omega)) rfl ?_
 simp[h91]
 repeat refine sg ?_
 apply z
 refine cT (by simp) ?_
 refine sr fun Z z=>?_
 simp
 refine RVn_callC (c_read_Cursor_targs g q b q L hT c.name (fun h=>by have:=(Cur.name_next h).2;have:=c.name.adv_suf.length_le;omega) (c.name_suf.trans hcL) (by omega) (by omega)) rfl ?_
 simp
 apply z
 refine sr fun Z z=>?_
 simp
 refine RVn_callC (c_read_Cursor_Must g [123] b _ (by omega)) rfl ?_
 simp
 apply z
 refine AT_region_q fun Z z=>?_
 simp
 refine RVn_callC (c_read_Cursor_args g q b q L hE [125] _ (by omega) (hms.trans (hgs.trans (c.name_suf.trans hcL))) (by omega) (by omega)) rfl ?_
 simp
 apply z
 refine hK1 _ ?_
 refine AT_seq_k fun K8 hK8=>?_
 refine AT_block ?_
 refine AT_loop_q [0,2,5] [2,5] (fun j s=>∃ k e,dotsC (restC (typeC q) (exprC q)) (baseC (typeC q) (exprC q) c).2.l.length (baseC (typeC q) (exprC q) c).1 (baseC (typeC q) (exprC q) c).2=dotsC (restC (typeC q) (exprC q)) k.l.length e k∧k.l <:+ c.l∧j=k.l.length∧s={ n:=38,tm:=[(0,.v (.gp b 0) none),(2,.lp 2 0),(5,.lp 5 0)],bx:=[(2,[.int .i64 0,.str [],.str [],.slice [],.int .i64 0,.slice [],.slice [],.int .i64 0]),(5,encE e)],tb:=[],sh:=[(b,(encC 154 k))],hint:=[] }) ((baseC (typeC q) (exprC q) c).2.l.length) (by first|rfl|simp) ?_ ?_
 refine ⟨(baseC (typeC q) (exprC q) c).2,(baseC (typeC q) (exprC q) c).1,rfl,hbs,rfl,?_⟩
 (· simp[baseC,h91,encE_mk])
 rintro j s ⟨k,e,hk,hkc,rfl,rfl⟩ K9 hK9
 refine AT_seq_k fun K10 hK10=>?_
 have hkl:=hkc.length_le
 cases hnx:k.next [46]
 refine sr fun Z z=>?_
 simp
 refine RVn_callC (c_read_Cursor_Take g [46] b k (by omega)) rfl ?_
 simp[Cur.take,hnx]
 apply z
 refine cF (by simp) ?_
 refine AT_exit ?_
 refine hK8 _ ?_
 refine sr fun Z z=>?_
 simp
 apply z
 refine AT_ret ?_
 simp[Tryz.f83]
 rw[exprC,hk,dotsC_at hrl,if_neg (by simp[hnx])];simp
 have ha:=Cur.adv_len hnx
 have hla:=hrl e k.adv
 refine sr fun Z z=>?_
 simp
 refine RVn_callC (c_read_Cursor_Take g [46] b k (by omega)) rfl ?_
 simp[Cur.take,hnx]
 apply z
 refine cT (by simp) ?_
 refine AT_skip ?_
 refine hK10 _ ?_
 refine AT_block ?_
 refine AT_region_q fun Z z=>?_
 simp
 refine RVn_callC (c_read_Cursor_rest g q b q L hL hLn hnm hT hE e k.adv (by omega) (k.adv_suf.trans (hkc.trans hcL)) (by omega)) rfl ?_
 simp
 apply z
 refine hK9 _ (by first|rfl|simp) ((restC (typeC q) (exprC q) e k.adv).2.l.length) (by omega) ?_
 exact ⟨(restC (typeC q) (exprC q) e k.adv).2,(restC (typeC q) (exprC q) e k.adv).1,by rw[hk,dotsC_at hrl,if_pos hnx],(hrs _ _).trans (k.adv_suf.trans hkc),rfl,by simp⟩

end Go.Proofs.YtfgafcjebfjepaaGreatDoor
end

section
/- Contracts: lex.Tokens. -/
set_option linter.all false
set_option maxHeartbeats 1000000
set_option maxRecDepth 10000
namespace Go.Proofs.YtfgafcjebfjepaaGreatDoor
open Go Go.Pv
variable (g:Nat→Option (List AV)) (rnd:Bool)

theorem c_lex_Tokens (s:Str) (hs:s.length≤1000000000):Valid Tryz.prog (G0 g rnd) 73 [.str s] (lexV 154 (lexT s)):=by

 refine valid_of [(104000,167)] Tryz.func73 rfl (by kernel_rfl) ?_
 refine sr fun Z z=>?_
 simp[Tryz.f73]
 apply z
 refine AT_scope ?_
 refine AT_seq_k fun K1 hK1=>?_
 refine sr fun Z z=>?_
 simp
 repeat (refine ⟨by first|omega|assumption|exact Rows_map _ _ encK_cells _|exact ⟨Rows_map _ _ encK_cells _,by omega⟩|(simp at *;omega),?_⟩)
 apply z
 refine AT_cond (g:=none) rfl (fun hb11=>?_) (fun hb11=>?_)
 simp at hb11
 refine sr fun Z z=>?_
 simp[hb11]
 repeat (refine ⟨by first|omega|assumption|exact Rows_map _ _ encK_cells _|exact ⟨Rows_map _ _ encK_cells _,by omega⟩|(simp at *;omega),?_⟩)
 refine RVn_call (c_fault_New g rnd _ _) ?_
 simp
 repeat (refine ⟨by first|omega|assumption|exact Rows_map _ _ encK_cells _|exact ⟨Rows_map _ _ encK_cells _,by omega⟩|(simp at *;omega),?_⟩)
 apply z
 refine AT_ret ?_
 simp[Tryz.f73]
 (rw[show lexT s=(none,65536) by unfold lexT;rw[if_neg (by omega)]]
  exact ⟨_,rfl,by simp⟩)
 simp at hb11
 refine AT_skip ?_
 refine hK1 _ ?_
 refine sr fun Z z=>?_
 simp
 apply z
 refine sr fun Z z=>?_
 simp
 repeat (refine ⟨by first|omega|assumption|exact Rows_map _ _ encK_cells _|exact ⟨Rows_map _ _ encK_cells _,by omega⟩|(simp at *;omega),?_⟩)
 apply z
 refine sr fun Z z=>?_
 simp
 repeat (refine ⟨by first|omega|assumption|exact Rows_map _ _ encK_cells _|exact ⟨Rows_map _ _ encK_cells _,by omega⟩|(simp at *;omega),?_⟩)
 apply z
 refine AT_seq_k fun K2 hK2=>?_
 refine AT_label ?_
 refine hK2 _ ?_
 refine AT_seq_k fun K3 hK3=>?_
 refine AT_block ?_
 refine AT_loop_q [1,2,3,4,5,6] [4,1,5] (fun j s1=>∃ k n out,(k≤s.length∧out.length≤k∧s.length - k < n)∧lexT s=lxA n out k (s.drop k)∧j=s.length - k∧s1={ n:=65,tm:=[(1,.lp 1 0),(2,.v (.slice []) none),(3,.v .nilIface none),(4,.lp 4 0),(5,.lp 5 0),(6,.cl 118 [4,1,5])],bx:=[(4,[.slice (out.map encK)]),(1,[.str s]),(5,[.int .i64 (k:Nat)])],tb:=[(4,0,gid 4 0,167)],sh:=[],hint:=[(104000,167)] }) (s.length) (by first|rfl|simp) ?_ ?_
 exact ⟨0,s.length+1,[],by simp[lexT];omega⟩
 rintro j s1 ⟨k,n,out,⟨hk,hol,hn⟩,hc,rfl,rfl⟩ K4 hK4
 refine AT_seq_k fun K5 hK5=>?_
 refine sr fun Z z=>?_
 simp
 repeat (refine ⟨by first|omega|assumption|exact Rows_map _ _ encK_cells _|exact ⟨Rows_map _ _ encK_cells _,by omega⟩|(simp at *;omega),?_⟩)
 apply z
 refine AT_cond (g:=none) rfl (fun hb17=>?_) (fun hb17=>?_)
 simp at hb17
 refine AT_skip ?_
 refine hK5 _ ?_
 refine AT_block ?_
 refine sr fun Z z=>?_
 simp[hb17]
 repeat (refine ⟨by first|omega|assumption|exact Rows_map _ _ encK_cells _|exact ⟨Rows_map _ _ encK_cells _,by omega⟩|(simp at *;omega),?_⟩)
 apply z
 refine AT_block ?_
 refine sr fun Z z=>?_
 simp[hb17]
 repeat (refine ⟨by first|omega|assumption|exact Rows_map _ _ encK_cells _|exact ⟨Rows_map _ _ encK_cells _,by omega⟩|(simp at *;omega),?_⟩)
 refine RVn_call (c_name_Class g rnd _) ?_
 simp
 repeat (refine ⟨by first|omega|assumption|exact Rows_map _ _ encK_cells _|exact ⟨Rows_map _ _ encK_cells _,by omega⟩|(simp at *;omega),?_⟩)
 apply z
 refine AT_cond (g:=none) rfl (fun hb23=>?_) (fun hb23=>?_)
 simp at hb23
 refine AT_region_q fun Z z=>?_
 obtain ⟨kk,hkk⟩:∃ kk,kk=k+1:=⟨_,rfl⟩
 simp[hb23]
 repeat (refine ⟨by first|omega|assumption|exact Rows_map _ _ encK_cells _|exact ⟨Rows_map _ _ encK_cells _,by omega⟩|(simp at *;omega),?_⟩)
 apply z
 refine hK4 _ (by first|rfl|simp) (s.length - kk) (by omega) ?_
 have hn1:0 < n:=by omega
 obtain ⟨n,rfl⟩:∃ m,n=m+1:=⟨n - 1,by omega⟩
 (rw[lxA_sp hb17 hb23] at hc
  refine ⟨kk,n,_,⟨?_,?_,?_⟩,by rw[hc,← hkk],rfl,?_⟩
  · omega
  · (try simp only[List.length_append,List.length_singleton]);omega
  · omega
  · simp[hkk])
 simp at hb23
 refine sr fun Z z=>?_
 simp
 repeat (refine ⟨by first|omega|assumption|exact Rows_map _ _ encK_cells _|exact ⟨Rows_map _ _ encK_cells _,by omega⟩|(simp at *;omega),?_⟩)
 refine RVn_call (c_strings_HasPrefix g rnd _ _) ?_
 simp
 repeat (refine ⟨by first|omega|assumption|exact Rows_map _ _ encK_cells _|exact ⟨Rows_map _ _ encK_cells _,by omega⟩|(simp at *;omega),?_⟩)
 apply z
 refine AT_cond (g:=none) rfl (fun hb31=>?_) (fun hb31=>?_)
 refine sr fun Z z=>?_
 simp[hb31]
 repeat (refine ⟨by first|omega|assumption|exact Rows_map _ _ encK_cells _|exact ⟨Rows_map _ _ encK_cells _,by omega⟩|(simp at *;omega),?_⟩)
 refine RVn_call (c_strings_IndexByte g rnd _ 10) ?_
 simp
 repeat (refine ⟨by first|omega|assumption|exact Rows_map _ _ encK_cells _|exact ⟨Rows_map _ _ encK_cells _,by omega⟩|(simp at *;omega),?_⟩)
 apply z
 refine AT_seq_k fun K6 hK6=>?_
 refine sr fun Z z=>?_
 simp
 repeat (refine ⟨by first|omega|assumption|exact Rows_map _ _ encK_cells _|exact ⟨Rows_map _ _ encK_cells _,by omega⟩|(simp at *;omega),?_⟩)
 apply z
 refine AT_cond (g:=none) rfl (fun hb37=>?_) (fun hb37=>?_)
 simp at hb37
 refine AT_exit ?_
 refine hK3 _ ?_
 refine sr fun Z z=>?_
 simp[hb37]
 repeat (refine ⟨by first|omega|assumption|exact Rows_map _ _ encK_cells _|exact ⟨Rows_map _ _ encK_cells _,by omega⟩|(simp at *;omega),?_⟩)
 apply z
 refine AT_ret ?_
 simp[Tryz.f73]
 (obtain ⟨n,rfl⟩:∃ m,n=m+1:=⟨n - 1,by omega⟩
  rw[lxA_com0 hb17 hb23 hb31 hb37] at hc
  rw[hc]
  exact ⟨_,rfl,by simp[encK]⟩)
 simp at hb37
 refine AT_skip ?_
 refine hK6 _ ?_
 refine AT_region_q fun Z z=>?_
 have hil:=Lib.indexByte_ge (s.drop k) 10
 have hiu:=(indexByte_lt (s.drop k) 10).resolve_right (by simp;omega)
 rw[List.length_drop] at hiu
 obtain ⟨kk,hkk⟩:∃ kk,kk=k+(Lib.indexByte (s.drop k) 10).toNat:=⟨_,rfl⟩
 have hcp:=com_pos hb17 hb31 hb37
 simp
 repeat (refine ⟨by first|omega|assumption|exact Rows_map _ _ encK_cells _|exact ⟨Rows_map _ _ encK_cells _,by omega⟩|(simp at *;omega),?_⟩)
 apply z
 refine hK4 _ (by first|rfl|simp) (s.length - kk) (by omega) ?_
 have hn1:0 < n:=by omega
 obtain ⟨n,rfl⟩:∃ m,n=m+1:=⟨n - 1,by omega⟩
 (rw[lxA_com hb17 hb23 hb31 hb37] at hc
  refine ⟨kk,n,_,⟨?_,?_,?_⟩,by rw[hc,← hkk],rfl,?_⟩
  · omega
  · (try simp only[List.length_append,List.length_singleton]);omega
  · omega
  · simp[hkk,Int.toNat_of_nonneg hb37])
 refine sr fun Z z=>?_
 simp[hb17,hb31]
 repeat (refine ⟨by first|omega|assumption|exact Rows_map _ _ encK_cells _|exact ⟨Rows_map _ _ encK_cells _,by omega⟩|(simp at *;omega),?_⟩)
 refine RVn_call (c_name_Class g rnd _) ?_
 simp
 repeat (refine ⟨by first|omega|assumption|exact Rows_map _ _ encK_cells _|exact ⟨Rows_map _ _ encK_cells _,by omega⟩|(simp at *;omega),?_⟩)
 apply z
 refine AT_cond (g:=none) rfl (fun hb41=>?_) (fun hb41=>?_)
 simp at hb41
 refine AT_region_q fun Z z=>?_
 have hwl:=wordN_le (s.drop k)
 rw[List.length_drop] at hwl
 obtain ⟨kk,hkk⟩:∃ kk,kk=k+wordN (s.drop k):=⟨_,rfl⟩
 have hcp:=wordN_pos hb17 hb41
 simp[hb41]
 repeat (refine ⟨by first|omega|assumption|exact Rows_map _ _ encK_cells _|exact ⟨Rows_map _ _ encK_cells _,by omega⟩|(simp at *;omega),?_⟩)
 refine RVn_call (c_lex_word g rnd _ (by simp;omega)) ?_
 simp
 repeat (refine ⟨by first|omega|assumption|exact Rows_map _ _ encK_cells _|exact ⟨Rows_map _ _ encK_cells _,by omega⟩|(simp at *;omega),?_⟩)
 refine RVn_callB (c_lex_Tokens_1 g rnd _ _ _ _ _ (by omega) (by omega) (by omega) (by omega) (Rows_map _ _ encK_cells _) (by simp;omega)) (by simp) ?_
 simp
 repeat (refine ⟨by first|omega|assumption|exact Rows_map _ _ encK_cells _|exact ⟨Rows_map _ _ encK_cells _,by omega⟩|(simp at *;omega),?_⟩)
 apply z
 refine hK4 _ (by first|rfl|simp) (s.length - kk) (by omega) ?_
 have hn1:0 < n:=by omega
 obtain ⟨n,rfl⟩:∃ m,n=m+1:=⟨n - 1,by omega⟩
 (rw[lxA_word hb17 hb23 hb31 hb41] at hc
  refine ⟨kk,n,_,⟨?_,?_,?_⟩,by rw[hc,← hkk],rfl,?_⟩
  · omega
  · (try simp only[List.length_append,List.length_singleton]);omega
  · omega
  · simp[hkk,encK,List.map_append,toNat_add,drop_take_add])
 simp at hb41
 refine sr fun Z z=>?_
 simp[hb17]
 repeat (refine ⟨by first|omega|assumption|exact Rows_map _ _ encK_cells _|exact ⟨Rows_map _ _ encK_cells _,by omega⟩|(simp at *;omega),?_⟩)
 refine RVn_call (c_strings_IndexByte g rnd _ _) ?_
 simp
 repeat (refine ⟨by first|omega|assumption|exact Rows_map _ _ encK_cells _|exact ⟨Rows_map _ _ encK_cells _,by omega⟩|(simp at *;omega),?_⟩)
 apply z
 refine AT_cond (g:=none) rfl (fun hb51=>?_) (fun hb51=>?_)
 simp at hb51
 refine AT_region_q fun Z z=>?_
 obtain ⟨kk,hkk⟩:∃ kk,kk=k+1:=⟨_,rfl⟩
 simp[hb51]
 repeat (refine ⟨by first|omega|assumption|exact Rows_map _ _ encK_cells _|exact ⟨Rows_map _ _ encK_cells _,by omega⟩|(simp at *;omega),?_⟩)
 refine RVn_callB (c_lex_Tokens_1 g rnd _ _ _ _ _ (by omega) (by omega) (by omega) (by omega) (Rows_map _ _ encK_cells _) (by simp;omega)) (by simp) ?_
 simp
 repeat (refine ⟨by first|omega|assumption|exact Rows_map _ _ encK_cells _|exact ⟨Rows_map _ _ encK_cells _,by omega⟩|(simp at *;omega),?_⟩)
 apply z
 refine hK4 _ (by first|rfl|simp) (s.length - kk) (by omega) ?_
 have hn1:0 < n:=by omega
 obtain ⟨n,rfl⟩:∃ m,n=m+1:=⟨n - 1,by omega⟩
 (rw[lxA_sign hb17 hb23 hb31 hb41 hb51] at hc
  refine ⟨kk,n,_,⟨?_,?_,?_⟩,by rw[hc,← hkk],rfl,?_⟩
  · omega
  · (try simp only[List.length_append,List.length_singleton]);omega
  · omega
  · simp[hkk,encK,List.map_append,drop_take_one hb17])
 simp at hb51
 refine sr fun Z z=>?_
 simp
 repeat (refine ⟨by first|omega|assumption|exact Rows_map _ _ encK_cells _|exact ⟨Rows_map _ _ encK_cells _,by omega⟩|(simp at *;omega),?_⟩)
 refine RVn_call (c_fault_New g rnd _ _) ?_
 simp
 repeat (refine ⟨by first|omega|assumption|exact Rows_map _ _ encK_cells _|exact ⟨Rows_map _ _ encK_cells _,by omega⟩|(simp at *;omega),?_⟩)
 apply z
 refine AT_ret ?_
 simp[Tryz.f73]
 (obtain ⟨n,rfl⟩:∃ m,n=m+1:=⟨n - 1,by omega⟩
  rw[lxA_bad hb17 hb23 hb31 hb41 hb51] at hc
  rw[hc]
  exact ⟨_,rfl,by simp⟩)
 simp at hb17
 refine AT_exit ?_
 refine hK3 _ ?_
 refine sr fun Z z=>?_
 simp
 repeat (refine ⟨by first|omega|assumption|exact Rows_map _ _ encK_cells _|exact ⟨Rows_map _ _ encK_cells _,by omega⟩|(simp at *;omega),?_⟩)
 apply z
 refine AT_ret ?_
 simp[Tryz.f73]
 (obtain ⟨n,rfl⟩:∃ m,n=m+1:=⟨n - 1,by omega⟩
  rw[lxA_end hk hb17] at hc
  rw[hc]
  exact ⟨_,rfl,by simp[encK]⟩)

end Go.Proofs.YtfgafcjebfjepaaGreatDoor
end

section
/- Contracts: texts, read. -/
set_option linter.all false
set_option maxHeartbeats 1000000
set_option maxRecDepth 10000
namespace Go.Proofs.YtfgafcjebfjepaaGreatDoor
open Go Go.Pv
variable (g:Nat→Option (List AV)) (rnd:Bool)

theorem c_read_New (l:List Tk):ValidN Tryz.prog (G0 g false) 74 [.slice (l.map encK)] (encC 154 ⟨l,none⟩):=by

 refine validN_of [] Tryz.func74 rfl (by kernel_rfl) ?_
 refine sr fun Z z=>?_
 simp[Tryz.f74]
 apply z
 refine sr fun Z z=>?_
 simp
 apply z
 refine AT_esc 5 rfl (by simp) (noClP_of (by simp)) fun b=>?_
 refine AT_ret ?_
 simp[Tryz.f74]
 all_goals simp[encC,errA]

theorem c_read_Cursor_End (b:Nat) (c:Cur) (hb:c.l.length≤1000000):ValidC Tryz.prog (G0 g false) 75 [] b (encC 154 c) (errA 154 (endC c).err) (encC 154 (endC c)):=by

 refine validC_of [] Tryz.func75 rfl (by kernel_rfl) ?_
 refine sr fun Z z=>?_
 simp[Tryz.f75]
 apply z
 refine AT_seq_k fun K1 hK1=>?_
 cases h3:(c.first.1 != 3)
 ·
  refine sr fun Z z=>?_
  simp
  refine RVn_callC (c_read_Cursor_first g b c hb) rfl ?_
  simp[encK,h3]
  apply z
  refine cF (by simp) ?_
  refine AT_skip ?_
  refine hK1 _ ?_
  refine sr fun Z z=>?_
  simp[encC]
  apply z
  refine AT_ret ?_
  simp[Tryz.f75]
  all_goals simp[endC,h3,encC]
 ·
  refine sr fun Z z=>?_
  simp
  refine RVn_callC (c_read_Cursor_first g b c hb) rfl ?_
  simp[encK,h3]
  apply z
  refine cT (by simp) ?_
  refine AT_region_q fun Z z=>?_
  simp
  refine RVn_callC (c_read_Cursor_fail g b c hb) rfl ?_
  simp
  apply z
  refine hK1 _ ?_
  refine sr fun Z z=>?_
  simp[encC]
  apply z
  refine AT_ret ?_
  simp[Tryz.f75]
  all_goals simp[endC,h3,encC]

end Go.Proofs.YtfgafcjebfjepaaGreatDoor
end

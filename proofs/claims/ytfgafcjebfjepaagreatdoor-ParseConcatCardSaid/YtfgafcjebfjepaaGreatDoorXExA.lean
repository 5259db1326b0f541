import Derived.Test.YtfgafcjebfjepaaGreatDoorPt
import Derived.Test.YtfgafcjebfjepaaGreatDoorPvPb
import Derived.Test.YtfgafcjebfjepaaGreatDoorPvLa
import Derived.Test.YtfgafcjebfjepaaGreatDoorXPaD
import Derived.Test.YtfgafcjebfjepaaGreatDoorXRdE
import Derived.Test.YtfgafcjebfjepaaGreatDoorXNaB
import Derived.WideMake
import Derived.Test.YtfgafcjebfjepaaGreatDoorPvFb
import Derived.Test.YtfgafcjebfjepaaGreatDoorPvHa
import Derived.Test.YtfgafcjebfjepaaGreatDoorPvMc
import Derived.Test.YtfgafcjebfjepaaGreatDoorXTyD
section
/- Contracts: texts of programs, read. -/
set_option linter.all false
set_option maxHeartbeats 1000000
set_option maxRecDepth 10000
namespace Go.Proofs.YtfgafcjebfjepaaGreatDoor
open Go Go.Pv
variable (g:Nat→Option (List AV)) (rnd:Bool)

theorem c_parse_whole_api_Program (s:Str) (hs:s.length≤1000000) (hres:g 1=some reservedA):Valid Tryz.prog (G0 g false) 37 [.str s,.func 38 []] (.tup [.agg (encPg (wholeC 154 pg0 rdP s).1),(wholeC 154 pg0 rdP s).2]):=by

 refine valid_of [] Tryz.func37 rfl (by kernel_rfl) ?_
 refine sr fun Z z=>?_
 simp[Tryz.f37]
 apply z
 refine sr fun Z z=>?_
 simp
 apply z
 rcases hx:lexT s with ⟨_|l,m⟩
 ·
  refine sr fun Z z=>?_
  simp
  refine RVn_call ((by have h:=c_lex_Tokens g false s (by omega);rw[hx] at h;exact h)) ?_
  simp[lexV]
  apply z
  refine AT_seq_k fun K1 hK1=>?_
  refine sr fun Z z=>?_
  simp
  apply z
  refine cT (by simp) ?_
  refine sr fun Z z=>?_
  simp
  apply z
  refine AT_ret ?_
  simp[Tryz.f37]
  all_goals first|(· simp[wholeC,hx,encPg,pg0,ex0,ty0])|(· simp[wholeC,hx,← hp,he,errA,encPg,pg0,ex0,ty0,encTy_def,encE_mk,encE_def,encD,encG])
 ·
  obtain ⟨hsl,hll,hlt⟩:=lexT_bounds hx
  obtain ⟨p,hp⟩:∃ p,p=rdP l:=⟨_,rfl⟩
  have hpl:p.2.l.length≤l.length:=by rw[hp];exact (programC_suf (typeC_suf _) (exprC_suf _) _).length_le
  refine sr fun Z z=>?_
  simp
  refine RVn_call ((by have h:=c_lex_Tokens g false s (by omega);rw[hx] at h;exact h)) ?_
  simp[lexV]
  apply z
  refine AT_seq_k fun K2 hK2=>?_
  refine sr fun Z z=>?_
  simp
  apply z
  refine cF (by simp) ?_
  refine AT_skip ?_
  refine hK2 _ ?_
  refine sr fun Z z=>?_
  simp
  refine RVn_callN (c_read_New g l) fun b=>?_
  simp
  apply z
  refine AT_freeze 24 rfl (by simp) (noClP_of (by simp)) rfl ?_
  simp
  refine sr fun Z z=>?_
  simp
  refine RVn_callD ((by have h:=c_parse_parser_program g b (l.length+1) l (fun t ht=>by have:=hlt t ht;omega) (by omega) ⟨by omega,by omega⟩ (fun s hs=>c_name_Is g false s (by omega) hres) ⟨l,none⟩ (List.suffix_refl _);rw[show programC (typeC (l.length+1)) (exprC (l.length+1)) ⟨l,none⟩=p from hp.symm] at h;exact h)) rfl ?_
  simp
  apply z
  refine AT_seq_k fun K3 hK3=>?_
  refine sr fun Z z=>?_
  simp
  refine RVn_callC (c_read_Cursor_End g b p.2 (by omega)) rfl ?_
  simp
  apply z
  cases he:(endC p.2).err
  ·
   refine sr fun Z z=>?_
   simp[errA]
   apply z
   refine cF (by simp) ?_
   refine AT_skip ?_
   refine hK3 _ ?_
   refine sr fun Z z=>?_
   simp
   apply z
   refine AT_ret ?_
   simp[Tryz.f37]
   all_goals first|(· simp[wholeC,hx,encPg,pg0,ex0,ty0])|(· simp[wholeC,hx,← hp,he,encPg])
  ·
   refine sr fun Z z=>?_
   simp[errA]
   apply z
   refine cT (by simp) ?_
   refine sr fun Z z=>?_
   simp
   apply z
   refine AT_ret ?_
   simp[Tryz.f37]
   all_goals first|(· simp[wholeC,hx,encPg,pg0,ex0,ty0])|(· simp[wholeC,hx,← hp,he,errA,encPg,pg0,ex0,ty0])

theorem c_parse_Program (s:Str) (hs:s.length≤1000000) (hres:g 1=some reservedA):Valid Tryz.prog (G0 g false) 14 [.str s] (.tup [.agg (encPg (wholeC 154 pg0 rdP s).1),(wholeC 154 pg0 rdP s).2]):=by

 refine valid_of [] Tryz.func14 rfl (by kernel_rfl) ?_
 refine sr fun Z z=>?_
 simp[Tryz.f14]
 apply z
 refine sr fun Z z=>?_
 simp
 refine RVn_call (c_parse_whole_api_Program g s hs hres) ?_
 simp
 apply z
 refine AT_ret ?_
 simp[Tryz.f14]

end Go.Proofs.YtfgafcjebfjepaaGreatDoor
end

section
/- Contracts: the rules of declarations, a declaration. -/
set_option linter.all false
set_option maxHeartbeats 1000000
set_option maxRecDepth 10000
namespace Go.Proofs.YtfgafcjebfjepaaGreatDoor
open Go Go.Pv
variable (g:Nat→Option (List AV)) (rnd:Bool)

theorem next_other {c:Cur} {s t:Str} (h:c.next s=true) (hne:s≠t):c.next t=false:=by
  obtain ⟨-,x,r,hl,h1,h2⟩:=Cur.next_cons h
  have he:=(Cur.next_cons h).1
  simp[Cur.next,Cur.first,he,hl,h2,hne]

def rulesM:List (List UInt8×Nat):=[(wType,80),(wFunc,82)]

theorem run_mapUpdate_new {P:Program} {w:World} (mty kt et:TypeId) (r clock:Nat) (es:Array MapEntry) (s:ByteArray) (val:Value) (hm:P.underlying mty=some (.map kt et)) (hk:P.underlying kt=some .string) (hb:w.heap[r]? = some (.map es clock)) (hf:Instr.findNow .string (.string s) es.toList 0=some none):
    (Instr.mapUpdate mty (.map (some r)) (.string s) val).run P w=.ok () { w with heap:=w.heap.setIfInBounds r (.map (es.push { key:=.string s,val:=val,born:=clock }) (clock+1)) }:=by
  have hc:(Instr.checkKey false 10000 kt (.string s)).run P w=.ok () w:=MapKept.run_checkKey (k:=.string s) hk (by simp[MapKept.IsKey]) false 9999
  simp[Instr.mapUpdate,run_underlying hm,MapKept.run_getObj_map hb,hc,MapKept.run_findKey hk hf,MapKept.run_setObj_map _ hb,Result.andThen]

theorem rules_calls (w:World):Calls Tryz.prog 76 #[] w fun e w'=>e=.returned (.map (some w.heap.size))∧w'.heap[w.heap.size]? = some (.map (entries rulesM) 2)∧Frm w.heap.size (fun _=>False) w w':=by
  go_enter Tryz.func76,Tryz.ntmps76
  go_wp2
  rw[run_makeMap_plain]
  go_wp2
  rw[run_mapUpdate_new (P:=Tryz.prog) 137 9 80 w.heap.size 0 #[] ⟨#[116,121,112,101]⟩ _ (by kernel_rfl) (by kernel_rfl) (heap_alloc_new w _) rfl]
  go_wp2
  rw[run_mapUpdate_new (P:=Tryz.prog) 137 9 80 w.heap.size 1 #[entryAt 0 (wType,80)] ⟨#[102,117,110,99]⟩ _ (by kernel_rfl) (by kernel_rfl) (by simp[entryAt,wType]) (by kernel_rfl)]
  go_wp2
  have hlt:w.heap.size < (w.alloc (.map #[] 0)).heap.size:=by simp
  refine ⟨rfl,_,by simp[results,Tryz.f76],rfl,?_,rfl,rfl,rfl,?_,fun k hk _=>?_⟩
  · rw[Array.getElem?_setIfInBounds_self_of_lt hlt]
    simp[entries,rulesM,entryAt,wFunc]
  · simp
  · rw[Array.getElem?_setIfInBounds_ne (Nat.ne_of_gt hk)]
    exact heap_alloc_old w _ hk
theorem c_parse_rules:ValidM Tryz.prog (G0 g false) 76 [] rulesM:=by
  refine ⟨by kernel_rfl,fun lim w cargs _ hargs=>?_⟩
  obtain rfl:cargs=[]:=List.eq_nil_of_length_eq_zero hargs.1
  refine (rules_calls w).mono fun e w'=>?_
  rintro ⟨rfl,h1,h2⟩
  exact ⟨w.heap.size,rfl,Nat.le_refl _,h1,h2⟩

theorem rules_two {i:Nat} {x:List UInt8×Nat} (h:rulesM[i]? = some x):(i=0∧x=(wType,80))∨(i=1∧x=(wFunc,82)):=by
  match i,h with
  | 0,h=>injection h with h;exact .inl ⟨rfl,h.symm⟩
  | 1,h=>injection h with h;exact .inr ⟨rfl,h.symm⟩

theorem c_parse_parser_decl (b N:Nat) (L:List Tk) (hL:∀ t∈L,t.2.1.length≤1000000) (hLn:L.length < 900000) (hN:L.length < N∧N≤1000000) (hnm:∀ s:Str,s.length≤1000000→Valid Tryz.prog (G0 g false) 54 [.str s] (.bool (isName s))) (c:Cur) (hcL:c.l <:+ L):ValidD Tryz.prog (G0 g false) 36 [.ro [.gp b 0]] b (encC 154 c) (.agg (encD (declC (typeC N) (exprC N) c).1)) (encC 154 (declC (typeC N) (exprC N) c).2):=by
 have hcl:=hcL.length_le
 have haL:=c.adv_suf.trans hcL
 refine validD_of [] Tryz.func36 rfl (by kernel_rfl) ?_
 refine sr fun Z z=>?_
 simp[Tryz.f36]
 apply z
 refine AT_seq_k fun K1 hK1=>?_
 refine AT_seq_regionX ?_
 refine RVx_spec (spec_callM (d:=5) rfl rfl rfl rfl (c_parse_rules g) rfl) ?_
 rintro _ rfl
 refine RVx_spec (spec_range (ty:=137) (kt:=9) (et:=80) (d:=6) (m:=5) (es:=rulesM) rfl rfl rfl rfl (by kernel_rfl) rfl rfl) ?_
 rintro _ rfl
 refine AT_block ?_
 refine AT_loop_q [0,2,6] [2] (fun j s=>∃ sn,((sn=[]∨(sn=[0]∧c.next wType=false))∨((sn=[1]∧c.next wFunc=false)∨(sn=[0,1]∧c.next wType=false∧c.next wFunc=false))∨(sn=[1,0]∧c.next wType=false∧c.next wFunc=false))∧j=2 - sn.length∧s={ n:=27,tm:=[(0,.v (.ro [.gp b 0]) none),(2,.lp 2 0),(6,.it (.walk rulesM sn))],bx:=[(2,encD dc0)],tb:=[],sh:=[(b,(encC 154 c))],hint:=[] }) (2) (by first|rfl|simp) ?_ ?_
 ·
  exact ⟨[],.inl (.inl rfl),rfl,by simp[encD,dc0,sg0,ex0,ty0]⟩
 ·
  rintro j s ⟨sn,hsn,hj,rfl⟩ K2 hK2
  rcases hsn with (rfl|⟨rfl,hty⟩)|((⟨rfl,hfn⟩|⟨rfl,hty,hfn⟩)|⟨rfl,hty,hfn⟩)
  ·
   refine AT_seq_regionX ?_
   refine RVx_spec (spec_next (t:=6) (es:=rulesM) (seen:=[]) rfl rfl rfl rfl rfl) ?_
   rintro _ (⟨hall,rfl⟩|⟨i,x,hx,hi,rfl⟩)
   ·
    exact absurd (hall 0 (by decide)) (by decide)
   ·
    rcases rules_two hx with ⟨rfl,rfl⟩|⟨rfl,rfl⟩
    ·
     clear hx hi
     refine RVx_rest fun Z hz=>?_
     simp
     refine hz _ ?_
     clear hz Z
     refine AT_seq_k fun K3 hK3=>?_
     refine cT (by simp) ?_
     refine AT_skip ?_
     refine hK3 _ ?_
     refine AT_block ?_
     refine AT_seq_regionX ?_
     refine RVx_spec (spec_entry (t:=6) (es:=rulesM) (seen:=[]) (i:=0) (x:=(wType,80)) rfl rfl rfl rfl rfl) ?_
     rintro _ rfl
     refine RVx_rest fun Z hz=>?_
     simp
     refine hz _ ?_
     clear hz Z
     cases hty:c.next wType
     ·
      refine sr fun Z z=>?_
      simp[encD,dc0,sg0,ex0,ty0]
      refine RVn_callC (c_read_Cursor_Take g wType b c (by omega)) rfl ?_
      simp[Cur.take,hty]
      apply z
      refine cF (by simp) ?_
      refine AT_skip ?_
      refine hK2 _ (by first|rfl|simp) (j - 1) (by simp at hj;omega) ?_
      exact ⟨[0],.inl (.inr ⟨rfl,hty⟩),by simp at hj ⊢;omega,by simp[encD,dc0,sg0,ex0,ty0]⟩
     ·
      refine sr fun Z z=>?_
      simp[encD,dc0,sg0,ex0,ty0]
      refine RVn_callC (c_read_Cursor_Take g wType b c (by omega)) rfl ?_
      simp[Cur.take,hty]
      apply z
      refine cT (by simp) ?_
      refine sr fun Z z=>?_
      simp
      refine RVn_callD (c_parse_parser_typed g b N L hL hLn hN hnm c.adv haL) rfl ?_
      simp[encD]
      apply z
      refine AT_ret ?_
      simp[encD,Tryz.f36]
      all_goals first|(· simp[declC,hty])|(· simp[declC,hty,hfn,dc0,sg0,ex0,ty0,encD,encG,encE_def,encTy_def,encE_mk])|(· have hty2:c.next wType=false:=next_other hfn (by decide);simp[declC,hty2,hfn])|skip
    ·
     clear hx hi
     refine RVx_rest fun Z hz=>?_
     simp
     refine hz _ ?_
     clear hz Z
     refine AT_seq_k fun K4 hK4=>?_
     refine cT (by simp) ?_
     refine AT_skip ?_
     refine hK4 _ ?_
     refine AT_block ?_
     refine AT_seq_regionX ?_
     refine RVx_spec (spec_entry (t:=6) (es:=rulesM) (seen:=[]) (i:=1) (x:=(wFunc,82)) rfl rfl rfl rfl rfl) ?_
     rintro _ rfl
     refine RVx_rest fun Z hz=>?_
     simp
     refine hz _ ?_
     clear hz Z
     cases hfn:c.next wFunc
     ·
      refine sr fun Z z=>?_
      simp[encD,dc0,sg0,ex0,ty0]
      refine RVn_callC (c_read_Cursor_Take g wFunc b c (by omega)) rfl ?_
      simp[Cur.take,hfn]
      apply z
      refine cF (by simp) ?_
      refine AT_skip ?_
      refine hK2 _ (by first|rfl|simp) (j - 1) (by simp at hj;omega) ?_
      exact ⟨[1],.inr (.inl (.inl ⟨rfl,hfn⟩)),by simp at hj ⊢;omega,by simp[encD,dc0,sg0,ex0,ty0]⟩
     ·
      refine sr fun Z z=>?_
      simp[encD,dc0,sg0,ex0,ty0]
      refine RVn_callC (c_read_Cursor_Take g wFunc b c (by omega)) rfl ?_
      simp[Cur.take,hfn]
      apply z
      refine cT (by simp) ?_
      refine sr fun Z z=>?_
      simp
      refine RVn_callD (c_parse_parser_method g b N L hL hLn hN hnm c.adv haL) rfl ?_
      simp[encD]
      apply z
      refine AT_ret ?_
      simp[encD,Tryz.f36]
      all_goals first|(· simp[declC,hty])|(· simp[declC,hty,hfn,dc0,sg0,ex0,ty0,encD,encG,encE_def,encTy_def,encE_mk])|(· have hty2:c.next wType=false:=next_other hfn (by decide);simp[declC,hty2,hfn])|skip
  ·
   refine AT_seq_regionX ?_
   refine RVx_spec (spec_next (t:=6) (es:=rulesM) (seen:=[0]) rfl rfl rfl rfl rfl) ?_
   rintro _ (⟨hall,rfl⟩|⟨i,x,hx,hi,rfl⟩)
   ·
    exact absurd (hall 1 (by decide)) (by decide)
   ·
    rcases rules_two hx with ⟨rfl,rfl⟩|⟨rfl,rfl⟩
    ·
     exact absurd (show 0∈[0] by decide) hi
    ·
     clear hx hi
     refine RVx_rest fun Z hz=>?_
     simp
     refine hz _ ?_
     clear hz Z
     refine AT_seq_k fun K5 hK5=>?_
     refine cT (by simp) ?_
     refine AT_skip ?_
     refine hK5 _ ?_
     refine AT_block ?_
     refine AT_seq_regionX ?_
     refine RVx_spec (spec_entry (t:=6) (es:=rulesM) (seen:=[0]) (i:=1) (x:=(wFunc,82)) rfl rfl rfl rfl rfl) ?_
     rintro _ rfl
     refine RVx_rest fun Z hz=>?_
     simp
     refine hz _ ?_
     clear hz Z
     cases hfn:c.next wFunc
     ·
      refine sr fun Z z=>?_
      simp[encD,dc0,sg0,ex0,ty0]
      refine RVn_callC (c_read_Cursor_Take g wFunc b c (by omega)) rfl ?_
      simp[Cur.take,hfn]
      apply z
      refine cF (by simp) ?_
      refine AT_skip ?_
      refine hK2 _ (by first|rfl|simp) (j - 1) (by simp at hj;omega) ?_
      exact ⟨[0,1],.inr (.inl (.inr ⟨rfl,hty,hfn⟩)),by simp at hj ⊢;omega,by simp[encD,dc0,sg0,ex0,ty0]⟩
     ·
      refine sr fun Z z=>?_
      simp[encD,dc0,sg0,ex0,ty0]
      refine RVn_callC (c_read_Cursor_Take g wFunc b c (by omega)) rfl ?_
      simp[Cur.take,hfn]
      apply z
      refine cT (by simp) ?_
      refine sr fun Z z=>?_
      simp
      refine RVn_callD (c_parse_parser_method g b N L hL hLn hN hnm c.adv haL) rfl ?_
      simp[encD]
      apply z
      refine AT_ret ?_
      simp[encD,Tryz.f36]
      all_goals first|(· simp[declC,hty])|(· simp[declC,hty,hfn])|(· have hty2:c.next wType=false:=next_other hfn (by decide);simp[declC,hty2,hfn])|skip
  ·
   refine AT_seq_regionX ?_
   refine RVx_spec (spec_next (t:=6) (es:=rulesM) (seen:=[1]) rfl rfl rfl rfl rfl) ?_
   rintro _ (⟨hall,rfl⟩|⟨i,x,hx,hi,rfl⟩)
   ·
    exact absurd (hall 0 (by decide)) (by decide)
   ·
    rcases rules_two hx with ⟨rfl,rfl⟩|⟨rfl,rfl⟩
    ·
     clear hx hi
     refine RVx_rest fun Z hz=>?_
     simp
     refine hz _ ?_
     clear hz Z
     refine AT_seq_k fun K6 hK6=>?_
     refine cT (by simp) ?_
     refine AT_skip ?_
     refine hK6 _ ?_
     refine AT_block ?_
     refine AT_seq_regionX ?_
     refine RVx_spec (spec_entry (t:=6) (es:=rulesM) (seen:=[1]) (i:=0) (x:=(wType,80)) rfl rfl rfl rfl rfl) ?_
     rintro _ rfl
     refine RVx_rest fun Z hz=>?_
     simp
     refine hz _ ?_
     clear hz Z
     cases hty:c.next wType
     ·
      refine sr fun Z z=>?_
      simp[encD,dc0,sg0,ex0,ty0]
      refine RVn_callC (c_read_Cursor_Take g wType b c (by omega)) rfl ?_
      simp[Cur.take,hty]
      apply z
      refine cF (by simp) ?_
      refine AT_skip ?_
      refine hK2 _ (by first|rfl|simp) (j - 1) (by simp at hj;omega) ?_
      exact ⟨[1,0],.inr (.inr ⟨rfl,hty,hfn⟩),by simp at hj ⊢;omega,by simp[encD,dc0,sg0,ex0,ty0]⟩
     ·
      refine sr fun Z z=>?_
      simp[encD,dc0,sg0,ex0,ty0]
      refine RVn_callC (c_read_Cursor_Take g wType b c (by omega)) rfl ?_
      simp[Cur.take,hty]
      apply z
      refine cT (by simp) ?_
      refine sr fun Z z=>?_
      simp
      refine RVn_callD (c_parse_parser_typed g b N L hL hLn hN hnm c.adv haL) rfl ?_
      simp[encD]
      apply z
      refine AT_ret ?_
      simp[encD,Tryz.f36]
      all_goals first|(· simp[declC,hty])|(· simp[declC,hty,hfn,dc0,sg0,ex0,ty0,encD,encG,encE_def,encTy_def,encE_mk])|(· have hty2:c.next wType=false:=next_other hfn (by decide);simp[declC,hty2,hfn])|skip
    ·
     exact absurd (show 1∈[1] by decide) hi
  ·
   refine AT_seq_regionX ?_
   refine RVx_spec (spec_next (t:=6) (es:=rulesM) (seen:=[0,1]) rfl rfl rfl rfl rfl) ?_
   rintro _ (⟨hall,rfl⟩|⟨i,x,hx,hi,rfl⟩)
   ·
    clear hall
    refine RVx_rest fun Z hz=>?_
    simp
    refine hz _ ?_
    clear hz Z
    refine AT_seq_k fun K7 hK7=>?_
    refine cF (by simp) ?_
    refine AT_exit ?_
    refine hK1 _ ?_
    refine sr fun Z z=>?_
    simp[encD,dc0,sg0,ex0,ty0]
    refine RVn_callC ((by have h:=c_read_Cursor_Must g wType b c (by omega);rw[Cur.must,if_neg (by rw[hty];exact Bool.false_ne_true)] at h;exact h)) rfl ?_
    simp
    apply z
    refine sr fun Z z=>?_
    simp
    apply z
    refine AT_ret ?_
    simp[encD,Tryz.f36]
    all_goals first|(· simp[declC,hty])|(· simp[declC,hty,hfn,dc0,sg0,ex0,ty0])|(· have hty2:c.next wType=false:=next_other hfn (by decide);simp[declC,hty2,hfn])|skip
   ·
    rcases rules_two hx with ⟨rfl,rfl⟩|⟨rfl,rfl⟩
    ·
     exact absurd (show 0∈[0,1] by decide) hi
    ·
     exact absurd (show 1∈[0,1] by decide) hi
  ·
   refine AT_seq_regionX ?_
   refine RVx_spec (spec_next (t:=6) (es:=rulesM) (seen:=[1,0]) rfl rfl rfl rfl rfl) ?_
   rintro _ (⟨hall,rfl⟩|⟨i,x,hx,hi,rfl⟩)
   ·
    clear hall
    refine RVx_rest fun Z hz=>?_
    simp
    refine hz _ ?_
    clear hz Z
    refine AT_seq_k fun K8 hK8=>?_
    refine cF (by simp) ?_
    refine AT_exit ?_
    refine hK1 _ ?_
    refine sr fun Z z=>?_
    simp[encD,dc0,sg0,ex0,ty0]
    refine RVn_callC ((by have h:=c_read_Cursor_Must g wType b c (by omega);rw[Cur.must,if_neg (by rw[hty];exact Bool.false_ne_true)] at h;exact h)) rfl ?_
    simp
    apply z
    refine sr fun Z z=>?_
    simp
    apply z
    refine AT_ret ?_
    simp[encD,Tryz.f36]
    all_goals first|(· simp[declC,hty])|(· simp[declC,hty,hfn,dc0,sg0,ex0,ty0])|(· have hty2:c.next wType=false:=next_other hfn (by decide);simp[declC,hty2,hfn])|skip
   ·
    rcases rules_two hx with ⟨rfl,rfl⟩|⟨rfl,rfl⟩
    ·
     exact absurd (show 0∈[1,0] by decide) hi
    ·
     exact absurd (show 1∈[1,0] by decide) hi

end Go.Proofs.YtfgafcjebfjepaaGreatDoor
end

section
/- Contracts: texts of declarations, read; whether a text is a program. -/
set_option linter.all false
set_option maxHeartbeats 1000000
set_option maxRecDepth 10000
namespace Go.Proofs.YtfgafcjebfjepaaGreatDoor
open Go Go.Pv
variable (g:Nat→Option (List AV)) (rnd:Bool)

theorem c_parse_whole_api_Decl (s:Str) (hs:s.length≤1000000) (hres:g 1=some reservedA):Valid Tryz.prog (G0 g false) 35 [.str s,.func 36 []] (.tup [.agg (encD (wholeC 154 dc0 rdD s).1),(wholeC 154 dc0 rdD s).2]):=by

 refine valid_of [] Tryz.func35 rfl (by kernel_rfl) ?_
 refine sr fun Z z=>?_
 simp[Tryz.f35]
 apply z
 refine sr fun Z z=>?_
 simp
 apply z
 rcases hx:lexT s with ⟨_|l,m⟩
 ·
  refine sr fun Z z=>?_
  simp
  refine RVn_call ((by have h:=c_lex_Tokens g false s (by omega);rw[hx] at h;exact h)) ?_
  simp[lexV]
  apply z
  refine AT_seq_k fun K1 hK1=>?_
  refine sr fun Z z=>?_
  simp
  apply z
  refine cT (by simp) ?_
  refine sr fun Z z=>?_
  simp
  apply z
  refine AT_ret ?_
  simp[Tryz.f35]
  all_goals first|(· simp[wholeC,hx,encD,dc0,sg0,ex0,ty0])|(· simp[wholeC,hx,← hp,he,errA,encD,dc0,sg0,ex0,ty0,encG,encTy_def,encE_mk,encE_def])
 ·
  obtain ⟨hsl,hll,hlt⟩:=lexT_bounds hx
  obtain ⟨p,hp⟩:∃ p,p=rdD l:=⟨_,rfl⟩
  have hpl:p.2.l.length≤l.length:=by rw[hp];exact (declC_suf (typeC_suf _) (exprC_suf _) _).length_le
  refine sr fun Z z=>?_
  simp
  refine RVn_call ((by have h:=c_lex_Tokens g false s (by omega);rw[hx] at h;exact h)) ?_
  simp[lexV]
  apply z
  refine AT_seq_k fun K2 hK2=>?_
  refine sr fun Z z=>?_
  simp
  apply z
  refine cF (by simp) ?_
  refine AT_skip ?_
  refine hK2 _ ?_
  refine sr fun Z z=>?_
  simp
  refine RVn_callN (c_read_New g l) fun b=>?_
  simp
  apply z
  refine AT_freeze 24 rfl (by simp) (noClP_of (by simp)) rfl ?_
  simp
  refine sr fun Z z=>?_
  simp
  refine RVn_callD ((by have h:=c_parse_parser_decl g b (l.length+1) l (fun t ht=>by have:=hlt t ht;omega) (by omega) ⟨by omega,by omega⟩ (fun s hs=>c_name_Is g false s (by omega) hres) ⟨l,none⟩ (List.suffix_refl _);rw[show declC (typeC (l.length+1)) (exprC (l.length+1)) ⟨l,none⟩=p from hp.symm] at h;exact h)) rfl ?_
  simp
  apply z
  refine AT_seq_k fun K3 hK3=>?_
  refine sr fun Z z=>?_
  simp
  refine RVn_callC (c_read_Cursor_End g b p.2 (by omega)) rfl ?_
  simp
  apply z
  cases he:(endC p.2).err
  ·
   refine sr fun Z z=>?_
   simp[errA]
   apply z
   refine cF (by simp) ?_
   refine AT_skip ?_
   refine hK3 _ ?_
   refine sr fun Z z=>?_
   simp
   apply z
   refine AT_ret ?_
   simp[Tryz.f35]
   all_goals first|(· simp[wholeC,hx,encD,dc0,sg0,ex0,ty0])|(· simp[wholeC,hx,← hp,he,encD])
  ·
   refine sr fun Z z=>?_
   simp[errA]
   apply z
   refine cT (by simp) ?_
   refine sr fun Z z=>?_
   simp
   apply z
   refine AT_ret ?_
   simp[Tryz.f35]
   all_goals first|(· simp[wholeC,hx,encD,dc0,sg0,ex0,ty0])|(· simp[wholeC,hx,← hp,he,errA,encD,dc0,sg0,ex0,ty0])

theorem c_parse_Decl (s:Str) (hs:s.length≤1000000) (hres:g 1=some reservedA):Valid Tryz.prog (G0 g false) 13 [.str s] (.tup [.agg (encD (wholeC 154 dc0 rdD s).1),(wholeC 154 dc0 rdD s).2]):=by

 refine valid_of [] Tryz.func13 rfl (by kernel_rfl) ?_
 refine sr fun Z z=>?_
 simp[Tryz.f13]
 apply z
 refine sr fun Z z=>?_
 simp
 refine RVn_call (c_parse_whole_api_Decl g s hs hres) ?_
 simp
 apply z
 refine AT_ret ?_
 simp[Tryz.f13]

theorem c_parse_Tree (s:Str) (hs:s.length≤1000000) (hres:g 1=some reservedA) (R:AV) (hW:(∃ p,wholeC 154 pg0 rdP s=(p,.nilIface)∧R=.tup [.agg (encPg p),.bool true])∨(∃ p v,wholeC 154 pg0 rdP s=(p,.iface 154 v)∧R=.tup [.agg (encPg p),.bool false])):Valid Tryz.prog (G0 g false) 9 [.str s] R:=by

 refine valid_of [] Tryz.func9 rfl (by kernel_rfl) ?_
 refine sr fun Z z=>?_
 simp[Tryz.f9]
 apply z
 rcases hW with ⟨p,hp,rfl⟩|⟨p,v,hp,rfl⟩
 refine sr fun Z z=>?_
 simp
 refine RVn_call ((by have h:=c_parse_Program g s hs hres;rw[hp] at h;simp only[encPg] at h;exact h)) ?_
 simp
 apply z
 refine AT_seq_any [2,3] [2] (fun z9=>z9={ n:=14,tm:=[(2,.lp 2 0),(3,.v (.bool true) none)],bx:=[(2,encPg p)],tb:=[],sh:=[],hint:=[] }) Pt.mixed (fun K hK hQ=>?_) ?_
 refine ANY_take 1 (by rfl) hQ rfl rfl (by simp) (.inl ⟨_,rfl,rfl⟩) (by kernel_rfl) (by kernel_rfl) (by kernel_rfl) ?_
 refine ANY_ready [0,2] (by kernel_rfl) (by simp) ?_
 refine AnyAll.cons rfl (fun Z hZ=>?_) ?_
 simp
 refine hZ _ ?_
 clear hZ Z
 refine ANY_ready [2,3] (by kernel_rfl) (by simp) ?_
 refine AnyAll.cons rfl (fun Z hZ=>?_) ?_
 simp
 refine hZ _ ?_
 clear hZ Z
 refine ANY_one 3 (by kernel_rfl) rfl fun Z hZ=>?_
 simp
 refine hZ _ ?_
 clear hZ Z
 refine ANY_one 4 (by kernel_rfl) rfl fun Z hZ=>?_
 simp
 refine hZ _ ?_
 clear hZ Z
 refine ANY_done (by kernel_rfl) ?_
 refine hK _ (by first|rfl|simp) ?_
 simp[encPg]
 refine AnyAll.cons rfl (fun Z hZ=>?_) ?_
 simp
 refine hZ _ ?_
 clear hZ Z
 refine ANY_one 2 (by kernel_rfl) rfl fun Z hZ=>?_
 simp
 refine hZ _ ?_
 clear hZ Z
 refine ANY_one 4 (by kernel_rfl) rfl fun Z hZ=>?_
 simp
 refine hZ _ ?_
 clear hZ Z
 refine ANY_done (by kernel_rfl) ?_
 refine hK _ (by first|rfl|simp) ?_
 simp[encPg]
 exact AnyAll.nil
 refine AnyAll.cons rfl (fun Z hZ=>?_) ?_
 simp
 refine hZ _ ?_
 clear hZ Z
 refine ANY_one 0 (by kernel_rfl) rfl fun Z hZ=>?_
 simp
 refine hZ _ ?_
 clear hZ Z
 refine ANY_one 3 (by kernel_rfl) rfl fun Z hZ=>?_
 simp
 refine hZ _ ?_
 clear hZ Z
 refine ANY_one 4 (by kernel_rfl) rfl fun Z hZ=>?_
 simp
 refine hZ _ ?_
 clear hZ Z
 refine ANY_done (by kernel_rfl) ?_
 refine hK _ (by first|rfl|simp) ?_
 simp[encPg]
 exact AnyAll.nil
 rintro _ rfl
 refine AT_ret ?_
 simp[encPg,Tryz.f9]
 refine sr fun Z z=>?_
 simp
 refine RVn_call ((by have h:=c_parse_Program g s hs hres;rw[hp] at h;simp only[encPg] at h;exact h)) ?_
 simp
 apply z
 refine AT_seq_any [2,3] [2] (fun z9=>z9={ n:=14,tm:=[(2,.lp 2 0),(3,.v (.bool false) none)],bx:=[(2,encPg p)],tb:=[],sh:=[],hint:=[] }) Pt.mixed (fun K hK hQ=>?_) ?_
 refine ANY_take 1 (by rfl) hQ rfl rfl (by simp) (.inl ⟨_,rfl,rfl⟩) (by kernel_rfl) (by kernel_rfl) (by kernel_rfl) ?_
 refine ANY_ready [0,2] (by kernel_rfl) (by simp) ?_
 refine AnyAll.cons rfl (fun Z hZ=>?_) ?_
 simp
 refine hZ _ ?_
 clear hZ Z
 refine ANY_ready [2,3] (by kernel_rfl) (by simp) ?_
 refine AnyAll.cons rfl (fun Z hZ=>?_) ?_
 simp
 refine hZ _ ?_
 clear hZ Z
 refine ANY_one 3 (by kernel_rfl) rfl fun Z hZ=>?_
 simp
 refine hZ _ ?_
 clear hZ Z
 refine ANY_one 4 (by kernel_rfl) rfl fun Z hZ=>?_
 simp
 refine hZ _ ?_
 clear hZ Z
 refine ANY_done (by kernel_rfl) ?_
 refine hK _ (by first|rfl|simp) ?_
 simp[encPg]
 refine AnyAll.cons rfl (fun Z hZ=>?_) ?_
 simp
 refine hZ _ ?_
 clear hZ Z
 refine ANY_one 2 (by kernel_rfl) rfl fun Z hZ=>?_
 simp
 refine hZ _ ?_
 clear hZ Z
 refine ANY_one 4 (by kernel_rfl) rfl fun Z hZ=>?_
 simp
 refine hZ _ ?_
 clear hZ Z
 refine ANY_done (by kernel_rfl) ?_
 refine hK _ (by first|rfl|simp) ?_
 simp[encPg]
 exact AnyAll.nil
 refine AnyAll.cons rfl (fun Z hZ=>?_) ?_
 simp
 refine hZ _ ?_
 clear hZ Z
 refine ANY_one 0 (by kernel_rfl) rfl fun Z hZ=>?_
 simp
 refine hZ _ ?_
 clear hZ Z
 refine ANY_one 3 (by kernel_rfl) rfl fun Z hZ=>?_
 simp
 refine hZ _ ?_
 clear hZ Z
 refine ANY_one 4 (by kernel_rfl) rfl fun Z hZ=>?_
 simp
 refine hZ _ ?_
 clear hZ Z
 refine ANY_done (by kernel_rfl) ?_
 refine hK _ (by first|rfl|simp) ?_
 simp[encPg]
 exact AnyAll.nil
 rintro _ rfl
 refine AT_ret ?_
 simp[encPg,Tryz.f9]

end Go.Proofs.YtfgafcjebfjepaaGreatDoor
end

section
/- Contracts: expressions, counted and compared. -/
set_option linter.all false
set_option maxHeartbeats 1000000
set_option maxRecDepth 10000
namespace Go.Proofs.YtfgafcjebfjepaaGreatDoor
open Go Go.Pv
variable (g:Nat→Option (List AV)) (rnd:Bool)

theorem c_ref04x_Same (t u:Ty) (hw:wt t≤1099511627776):Valid Tryz.prog (G0 g rnd) 70 [.agg (encTy t),.agg (encTy u)] (.bool (cmpT t u==0)):=by

 refine valid_of [] Tryz.func70 rfl (by kernel_rfl) ?_
 refine sr fun Z z=>?_
 simp[Tryz.f70]
 apply z
 refine sr fun Z z=>?_
 simp
 refine RVn_call (c_ref04x_Compare g rnd t u hw) ?_
 simp
 apply z
 refine AT_ret ?_
 simp[Tryz.f70]

theorem c_ref05x_sameTypes (a b:List Ty) (hw:wts a≤1099511627776):Valid Tryz.prog (G0 g rnd) 71 [.slice (a.map encTy),.slice (b.map encTy)] (.bool (sameTs a b)):=by
 have hla:=wts_len a
 refine valid_of [] Tryz.func71 rfl (by kernel_rfl) ?_
 refine sr fun Z z=>?_
 simp[Tryz.f71]
 apply z
 refine AT_seq_k fun K1 hK1=>?_
 refine sr fun Z z=>?_
 simp
 apply z
 refine AT_cond (g:=none) rfl (fun hb10=>?_) (fun hb10=>?_)
 simp at hb10
 refine sr fun Z z=>?_
 simp
 apply z
 refine AT_ret ?_
 simp[Tryz.f71]
 (· rw[sameTs_len (show a.length≠b.length by omega)])
 simp at hb10
 have hab:a.length=b.length:=by omega
 refine AT_skip ?_
 refine hK1 _ ?_
 refine AT_seq_k fun K2 hK2=>?_
 refine sr fun Z z=>?_
 simp
 apply z
 refine AT_block ?_
 refine AT_loop_q [0,1,5] [] (fun j s=>∃ k,k≤a.length∧sameTs a b=sameTs (a.drop k) (b.drop k)∧j=a.length - k∧s={ n:=27,tm:=[(0,.v (.slice (a.map encTy)) none),(1,.v (.slice (b.map encTy)) none),(5,.v (.int .i64 k) none)],bx:=[],tb:=[],sh:=[],hint:=[] }) (a.length) (by first|rfl|simp) ?_ ?_
 exact ⟨0,by simp⟩
 rintro j s ⟨k,hk,hc,rfl,rfl⟩ K3 hK3
 refine AT_seq_k fun K4 hK4=>?_
 refine sr fun Z z=>?_
 simp
 apply z
 refine AT_cond (g:=none) rfl (fun hb14=>?_) (fun hb14=>?_)
 simp at hb14
 refine AT_skip ?_
 refine hK4 _ ?_
 refine AT_seq_k fun K5 hK5=>?_
 refine AT_block ?_
 refine AT_seq_draw Pt.mixed (by kernel_rfl) fun Z z=>?_
 have hku:k < b.length:=by omega
 have hm:=wts_mem (l:=a) (t:=a[k]) (by simp)
 have hda:=List.drop_eq_getElem_cons hb14
 have hdb:=List.drop_eq_getElem_cons hku
 simp[row_map,hku,hb14]
 refine RVdn_call (c_ref04x_Same g rnd a[k] b[k] (by omega)) ?_
 simp
 apply z
 refine AT_cond (g:=none) rfl (fun hb26=>?_) (fun hb26=>?_)
 simp at hb26
 refine sr fun Z z=>?_
 simp
 apply z
 refine AT_ret ?_
 simp[Tryz.f71]
 (· rw[hc,hda,hdb,sameTs_cons];simp[hb26])
 simp at hb26
 refine AT_skip ?_
 refine hK5 _ ?_
 refine AT_region_q fun Z z=>?_
 simp[hb26]
 repeat refine sg ?_
 apply z
 refine hK3 _ (by first|rfl|simp) (a.length - (k+1)) (by omega) ?_
 refine ⟨k+1,by omega,?_,by omega,by simp⟩
 rw[hc,hda,hdb,sameTs_cons];simp[hb26]
 simp at hb14
 refine AT_exit ?_
 refine hK2 _ ?_
 refine sr fun Z z=>?_
 simp
 apply z
 refine AT_ret ?_
 simp[Tryz.f71]
 (rw[hc,List.drop_eq_nil_of_le hb14,List.drop_eq_nil_of_le (show b.length≤k by omega)];rfl)

theorem c_ref05x_Same:∀ e f:Exp,wtE e≤1000000000→Valid Tryz.prog (G0 g rnd) 33 [.agg (encE e),.agg (encE f)] (.bool (sameE e f)):=by
 intro e
 induction e using Exp.ind with
 | h kd n t ta l p ih=>
 intro f hw
 obtain ⟨kf,m,u,ua,ul,q⟩:=f
 have hw2:n.length+1+wt t+wts ta+wtEs l≤1000000000:=by simpa[wtE_mk] using hw
 have hln:=wtEs_len l
 have hla:=wts_len ta
 refine valid_of [] Tryz.func33 rfl (by kernel_rfl) ?_
 refine sr fun Z z=>?_
 simp[Tryz.f33]
 apply z
 refine AT_seq_k fun K1 hK1=>?_
 cases h1:(kd != kf)
 cases h2:(n==m)
 refine sr fun Z z=>?_
 simp[h1,h2]
 apply z
 refine cT (by simp) ?_
 refine sr fun Z z=>?_
 simp
 apply z
 refine AT_ret ?_
 simp[Tryz.f33]
 (· simp[sameE,h2])
 cases h3:(cmpT t u==0)
 refine sr fun Z z=>?_
 simp[h1,h2]
 refine RVn_call (c_ref04x_Same g rnd t u (by omega)) ?_
 simp[h3]
 repeat refine sg ?_
 apply z
 refine cT (by simp) ?_
 refine sr fun Z z=>?_
 simp
 apply z
 refine AT_ret ?_
 simp[Tryz.f33]
 (· simp[sameE,h3])
 cases h4:(sameTs ta ua)
 refine sr fun Z z=>?_
 simp[h1,h2]
 refine RVn_call (c_ref04x_Same g rnd t u (by omega)) ?_
 simp[h3]
 repeat refine sg ?_
 refine RVn_call (c_ref05x_sameTypes g rnd ta ua (by omega)) ?_
 simp[h4]
 repeat refine sg ?_
 apply z
 refine cT (by simp) ?_
 refine sr fun Z z=>?_
 simp
 apply z
 refine AT_ret ?_
 simp[Tryz.f33]
 (· simp[sameE,h4])
 by_cases h5:(l.length:Int)=ul.length
 have h5b:((l.length:Int) != ul.length)=false:=by simpa using h5
 refine sr fun Z z=>?_
 simp[h1,h2]
 refine RVn_call (c_ref04x_Same g rnd t u (by omega)) ?_
 simp[h3]
 repeat refine sg ?_
 refine RVn_call (c_ref05x_sameTypes g rnd ta ua (by omega)) ?_
 simp[h4,h5b]
 repeat refine sg ?_
 apply z
 refine cF (by simp) ?_
 refine AT_skip ?_
 refine hK1 _ ?_
 refine AT_seq_k fun K2 hK2=>?_
 refine sr fun Z z=>?_
 simp
 apply z
 refine AT_block ?_
 refine AT_loop_q [2,3,5] [2,3] (fun j s=>∃ k,k≤l.length∧sameEs l ul=sameEs (l.drop k) (ul.drop k)∧j=l.length - k∧s={ n:=62,tm:=[(2,.lp 2 0),(3,.lp 3 0),(5,.v (.int .i64 k) none)],bx:=[(2,encE (.mk kd n t ta l p)),(3,encE (.mk kf m u ua ul q))],tb:=[],sh:=[],hint:=[] }) (l.length) (by first|rfl|simp) ?_ ?_
 exact ⟨0,by simp⟩
 rintro j s ⟨k,hk,hc,rfl,rfl⟩ K3 hK3
 refine AT_seq_k fun K4 hK4=>?_
 refine sr fun Z z=>?_
 simp
 apply z
 refine AT_cond (g:=none) rfl (fun hb47=>?_) (fun hb47=>?_)
 simp at hb47
 refine AT_skip ?_
 refine hK4 _ ?_
 refine AT_seq_k fun K5 hK5=>?_
 refine AT_block ?_
 refine AT_seq_draw Pt.mixed (by kernel_rfl) fun Z z=>?_
 have hku:k < ul.length:=by omega
 have hm:=wtEs_mem (l:=l) (e:=l[k]) (by simp)
 have hda:=List.drop_eq_getElem_cons hb47
 have hdb:=List.drop_eq_getElem_cons hku
 simp[row_map,hku,hb47]
 refine RVdn_call (ih l[k] (by simp) ul[k] (by omega)) ?_
 simp
 apply z
 refine AT_cond (g:=none) rfl (fun hb61=>?_) (fun hb61=>?_)
 simp at hb61
 refine sr fun Z z=>?_
 simp[hb61]
 apply z
 refine AT_ret ?_
 simp[Tryz.f33]
 (· have he:sameE (.mk kd n t ta l p) (.mk kf m u ua ul q)=sameEs l ul:=by simp[sameE,show (kd==kf)=true by simpa using h1,h2,h3,h4]
    rw[he,hc,hda,hdb,sameEs_cons];simp[hb61])
 simp at hb61
 refine AT_skip ?_
 refine hK5 _ ?_
 refine AT_region_q fun Z z=>?_
 simp[hb61]
 repeat refine sg ?_
 apply z
 refine hK3 _ (by first|rfl|simp) (l.length - (k+1)) (by omega) ?_
 refine ⟨k+1,by omega,?_,by omega,by simp⟩
 rw[hc,hda,hdb,sameEs_cons];simp[hb61]
 simp at hb47
 refine AT_exit ?_
 refine hK2 _ ?_
 refine sr fun Z z=>?_
 simp
 apply z
 refine AT_ret ?_
 simp[Tryz.f33]
 (· have he:sameE (.mk kd n t ta l p) (.mk kf m u ua ul q)=sameEs l ul:=by simp[sameE,show (kd==kf)=true by simpa using h1,h2,h3,h4]
    rw[he,hc,List.drop_eq_nil_of_le hb47,List.drop_eq_nil_of_le (show ul.length≤k by omega)];simp[sameEs])
 have h5b:((l.length:Int) != ul.length)=true:=by simpa using h5
 refine sr fun Z z=>?_
 simp[h1,h2]
 refine RVn_call (c_ref04x_Same g rnd t u (by omega)) ?_
 simp[h3]
 repeat refine sg ?_
 refine RVn_call (c_ref05x_sameTypes g rnd ta ua (by omega)) ?_
 simp[h4,h5b]
 repeat refine sg ?_
 apply z
 refine cT (by simp) ?_
 refine sr fun Z z=>?_
 simp
 apply z
 refine AT_ret ?_
 simp[Tryz.f33]
 (· simp[sameE,sameEs_len (show l.length≠ul.length by omega)])
 refine sr fun Z z=>?_
 simp[h1]
 apply z
 refine cT (by simp) ?_
 refine sr fun Z z=>?_
 simp
 apply z
 refine AT_ret ?_
 simp[Tryz.f33]
 (· simp[sameE,show (kd==kf)=false by simpa using h1])

end Go.Proofs.YtfgafcjebfjepaaGreatDoor
end

import Derived.Test.YtfgafcjebfjepaaGreatDoorPt
import Derived.Test.YtfgafcjebfjepaaGreatDoorPvPb
import Derived.Test.YtfgafcjebfjepaaGreatDoorPvLa
import Derived.Test.YtfgafcjebfjepaaGreatDoorXNaB
import Derived.Test.YtfgafcjebfjepaaGreatDoorXShelf
section
/- Contracts: words, errors, lines. -/
set_option linter.all false
set_option maxHeartbeats 1000000
set_option maxRecDepth 10000
namespace Go.Proofs.YtfgafcjebfjepaaGreatDoor
open Go Go.Pv
variable (g:Nat→Option (List AV)) (rnd:Bool)

theorem c_lex_word (s:Str) (hs:s.length≤1000000):Valid Tryz.prog (G0 g rnd) 121 [.str s] (.int .i64 (wordN s:Nat)):=by

 refine valid_of [] Tryz.func121 rfl (by kernel_rfl) ?_
 refine sr fun Z z=>?_
 simp[Tryz.f121]
 apply z
 refine sr fun Z z=>?_
 simp
 apply z
 refine AT_seq_k fun K1 hK1=>?_
 refine AT_block ?_
 refine AT_loop_q [0,3] [] (fun j s1=>∃ k,k≤s.length∧wordN s=k+wordN (s.drop k)∧j=s.length - k∧s1={ n:=25,tm:=[(0,.v (.str s) none),(3,.v (.int .i64 (k:Nat)) none)],bx:=[],tb:=[],sh:=[],hint:=[] }) (s.length) (by first|rfl|simp) ?_ ?_
 exact ⟨0,by simp⟩
 rintro j s1 ⟨k,hk,hc,rfl,rfl⟩ K2 hK2
 refine AT_seq_k fun K3 hK3=>?_
 by_cases hks:k < s.length
 have hda:=List.drop_eq_getElem_cons hks
 by_cases h1:1≤clsI s[k].toNat
 by_cases h2:clsI s[k].toNat≤3
 refine sr fun Z z=>?_
 simp[hks]
 refine RVn_call (c_name_Class g rnd _) ?_
 simp[hks,h1]
 repeat refine sgX ?_
 refine RVn_call (c_name_Class g rnd _) ?_
 simp[h2]
 repeat refine sgX ?_
 apply z
 refine cT (by simp) ?_
 refine AT_skip ?_
 refine hK3 _ ?_
 refine AT_block ?_
 refine AT_region_q fun Z z=>?_
 simp
 repeat refine sgX ?_
 apply z
 refine hK2 _ (by first|rfl|simp) (s.length - (k+1)) (by omega) ?_
 refine ⟨k+1,by omega,?_,by omega,by simp⟩
 rw[hc,hda,wordN_cons,if_pos (by simp[wc,h1,h2])];omega
 refine sr fun Z z=>?_
 simp[hks]
 refine RVn_call (c_name_Class g rnd _) ?_
 simp[hks,h1]
 repeat refine sgX ?_
 refine RVn_call (c_name_Class g rnd _) ?_
 simp[h2]
 repeat refine sgX ?_
 apply z
 refine cF (by simp) ?_
 refine AT_exit ?_
 refine hK1 _ ?_
 refine sr fun Z z=>?_
 simp
 apply z
 refine AT_ret ?_
 simp[Tryz.f121]
 (·rw[hc,hda,wordN_cons];simp[wc,h1,h2])
 refine sr fun Z z=>?_
 simp[hks]
 refine RVn_call (c_name_Class g rnd _) ?_
 simp[h1]
 repeat refine sgX ?_
 apply z
 refine cF (by simp) ?_
 refine AT_exit ?_
 refine hK1 _ ?_
 refine sr fun Z z=>?_
 simp
 apply z
 refine AT_ret ?_
 simp[Tryz.f121]
 (·rw[hc,hda,wordN_cons];simp[wc,h1])
 refine sr fun Z z=>?_
 simp[hks]
 apply z
 refine cF (by simp) ?_
 refine AT_exit ?_
 refine hK1 _ ?_
 refine sr fun Z z=>?_
 simp
 apply z
 refine AT_ret ?_
 simp[Tryz.f121]
 (·rw[hc,List.drop_eq_nil_of_le (by omega)];simp[wordN])

theorem c_fault_New (c n:Int):Valid Tryz.prog (G0 g rnd) 117 [.int .i64 c,.int .i64 n] (.iface 154 (.agg [.int .i64 c,.int .i64 n])):=by

 refine valid_of [] Tryz.func117 rfl (by kernel_rfl) ?_
 refine sr fun Z z=>?_
 simp[Tryz.f117]
 apply z
 refine sr fun Z z=>?_
 simp
 apply z
 refine AT_ret ?_
 simp[Tryz.f117]

theorem c_internal_stringslite_HasPrefix (s p:Str):Valid Tryz.prog (G0 g rnd) 152 [.str s,.str p] (.bool (Lib.hasPrefix s p)):=
 valid_two (by kernel_rfl) (fun _ _ _ h=>rep_str h) (fun _ _ _ h=>rep_str h) (fun _ _=>.bool _) (fun w=>Tryz.stringslite_HasPrefix ⟨s.toArray⟩ ⟨p.toArray⟩ w)

theorem c_strings_HasPrefix (s p:Str):Valid Tryz.prog (G0 g rnd) 119 [.str s,.str p] (.bool (Lib.hasPrefix s p)):=by

 refine valid_of [] Tryz.func119 rfl (by kernel_rfl) ?_
 refine sr fun Z z=>?_
 simp[Tryz.f119]
 apply z
 refine sr fun Z z=>?_
 simp
 refine RVn_call (c_internal_stringslite_HasPrefix g rnd _ _) ?_
 simp
 apply z
 refine AT_ret ?_
 simp[Tryz.f119]

theorem c_internal_stringslite_IndexByte (s:Str) (c:UInt8):Valid Tryz.prog (G0 g rnd) 153 [.str s,.int .u8 c.toNat] (.int .i64 (Lib.indexByte s c)):=
 valid_two (by kernel_rfl) (fun _ _ _ h=>rep_str h) (fun _ _ _ h=>rep_int h) (fun _ _=>.int _ _) (fun w=>by
  have:=Tryz.stringslite_IndexByte ⟨s.toArray⟩ c.toNat w
  simpa using this)

theorem c_strings_IndexByte (s:Str) (c:UInt8):Valid Tryz.prog (G0 g rnd) 120 [.str s,.int .u8 c.toNat] (.int .i64 (Lib.indexByte s c)):=by

 refine valid_of [] Tryz.func120 rfl (by kernel_rfl) ?_
 refine sr fun Z z=>?_
 simp[Tryz.f120]
 apply z
 refine sr fun Z z=>?_
 simp
 refine RVn_call (c_internal_stringslite_IndexByte g rnd _ _) ?_
 simp
 apply z
 refine AT_ret ?_
 simp[Tryz.f120]

end Go.Proofs.YtfgafcjebfjepaaGreatDoor
end

section
/- Contracts: lex. -/
set_option linter.all false
set_option maxHeartbeats 1000000
set_option maxRecDepth 10000
namespace Go.Proofs.YtfgafcjebfjepaaGreatDoor
open Go Go.Pv
variable (g:Nat→Option (List AV)) (rnd:Bool)

theorem c_lex_Tokens_1 (k n i:Int) (src:Str) (out:List (List AV)) (hs:src.length≤65536) (hi:0≤i) (hn:0≤n) (hin:i+n≤src.length) (hout:Pv.Rows 3 out) (hol:out.length≤65536):ValidB Tryz.prog (G0 g rnd) 118 [.int .i64 k,.int .i64 n] [4,1,5] [(4,[.slice out]),(1,[.str src]),(5,[.int .i64 i])] [(4,0,gid 4 0,167)] (.tup []) [(5,[.int .i64 (i+n)]),(4,[.slice (out++[[.int .i64 k,.str ((src.take (i+n).toNat).drop i.toNat),.int .i64 i]])]),(4,[.slice out]),(1,[.str src]),(5,[.int .i64 i])] [(4,0,gid 4 0,167)]:=by

 refine validB_of [] Tryz.func118 rfl (by kernel_rfl) (by simp) ?_
 refine AT_seq_draw Pt.mixed (by kernel_rfl) fun Z z=>?_
 simp[Tryz.f118]
 repeat (refine ⟨by first|omega|assumption|(constructor<;>first|assumption|omega)|(simp at *;omega),?_⟩)
 apply z
 refine AT_region_q fun Z z=>?_
 simp
 repeat (refine ⟨by first|omega|assumption|(constructor<;>first|assumption|omega)|(simp at *;omega),?_⟩)
 apply z
 simp[Tryz.f118]

end Go.Proofs.YtfgafcjebfjepaaGreatDoor
end

section
/- Contracts: the reference. -/
set_option linter.all false
set_option maxHeartbeats 1000000
set_option maxRecDepth 10000
namespace Go.Proofs.YtfgafcjebfjepaaGreatDoor
open Go Go.Pv
variable (g:Nat→Option (List AV)) (rnd:Bool)

theorem c_ref03x_sign (c:UInt8):Valid Tryz.prog (G0 g rnd) 40 [.int .u8 c.toNat] (.bool (signs.contains c)):=by
 obtain ⟨sg,hsg⟩:∃ sg,sg=signs:=⟨_,rfl⟩
 have hsl:sg.length=11:=by rw[hsg];rfl
 rw[←hsg]
 refine valid_of [] Tryz.func40 rfl (by kernel_rfl) ?_
 refine sr fun Z z=>?_
 simp[Tryz.f40]
 apply z
 refine sr fun Z z=>?_
 simp
 apply z
 refine AT_seq_k fun K1 hK1=>?_
 refine sr fun Z z=>?_
 simp
 apply z
 refine AT_block ?_
 refine AT_loop_q [0,3,4] [] (fun j s=>∃ k,k≤sg.length∧sg.contains c=(sg.drop k).contains c∧j=sg.length - k∧s={ n:=16,tm:=[(0,.v (.int .u8 c.toNat) none),(3,.v (.str sg) none),(4,.v (.int .i64 (k:Nat)) none)],bx:=[],tb:=[],sh:=[],hint:=[] }) (sg.length) (by first|rfl|simp) ?_ ?_
 exact ⟨0,by simp[hsg,signs]⟩
 rintro j s ⟨k,hk,hc,rfl,rfl⟩ K2 hK2
 refine AT_seq_k fun K3 hK3=>?_
 refine sr fun Z z=>?_
 have hsg2:([40,41,91,93,123,125,46,44,59,61,95]:List UInt8)=sg:=hsg.symm
 simp
 apply z
 refine AT_cond (g:=none) rfl (fun hb8=>?_) (fun hb8=>?_)
 simp at hb8
 refine AT_skip ?_
 refine hK3 _ ?_
 refine AT_seq_k fun K4 hK4=>?_
 refine AT_block ?_
 refine sr fun Z z=>?_
 have hks:k < sg.length:=by omega
 have hda:=List.drop_eq_getElem_cons hks
 simp[hb8]
 apply z
 refine AT_cond (g:=none) rfl (fun hb15=>?_) (fun hb15=>?_)
 simp at hb15
 refine sr fun Z z=>?_
 simp[hb15]
 apply z
 refine AT_ret ?_
 simp[Tryz.f40]
 (have he:=UInt8.toNat_inj.1 (Int.ofNat.inj hb15)
  rw[←he]
  exact List.getElem_mem _)
 simp at hb15
 refine AT_skip ?_
 refine hK4 _ ?_
 refine AT_region_q fun Z z=>?_
 simp
 repeat refine sgX ?_
 apply z
 refine hK2 _ (by first|rfl|simp) (sg.length - (k+1)) (by omega) ?_
 refine ⟨k+1,by omega,?_,by omega,by simp⟩
 have hne:(c==sg[k])=false:=by
   simp only[beq_eq_false_iff_ne,ne_eq]
   intro he
   exact hb15 (by rw[he])
 rw[hc,hda,List.contains_cons,hne,Bool.false_or]
 simp at hb8
 refine AT_exit ?_
 refine hK1 _ ?_
 refine sr fun Z z=>?_
 simp
 apply z
 refine AT_ret ?_
 simp[Tryz.f40]
 (intro hm
  rw[←List.contains_iff_mem,hc,List.drop_eq_nil_of_le hb8] at hm
  cases hm)

end Go.Proofs.YtfgafcjebfjepaaGreatDoor
end

section
/- Contracts: the reference's tokens. -/
set_option linter.all false
set_option maxHeartbeats 1000000
set_option maxRecDepth 10000
namespace Go.Proofs.YtfgafcjebfjepaaGreatDoor
open Go Go.Pv
variable (g:Nat→Option (List AV)) (rnd:Bool)

theorem c_ref03x_Tokens (s:Str) (hs:s.length≤1000000000):Valid Tryz.prog (G0 g rnd) 16 [.str s] (lexR (lexT s)):=by

 refine valid_of [(3,88)] Tryz.func16 rfl (by kernel_rfl) ?_
 refine sr fun Z z=>?_
 simp[Tryz.f16]
 apply z
 refine AT_seq_k fun K1 hK1=>?_
 refine sr fun Z z=>?_
 simp
 repeat ((with_reducible refine ⟨?_,?_⟩);next=>(first|omega|assumption|exact Rows_map _ _ encK_cells _|exact ⟨Rows_map _ _ encK_cells _,by omega⟩|exact ⟨Rows_map _ _ encK_cells _,by simp;omega⟩|(simp at *;omega)))
 apply z
 refine AT_cond (g:=none) rfl (fun hb10=>?_) (fun hb10=>?_)
 simp at hb10
 refine sr fun Z z=>?_
 simp[hb10]
 repeat ((with_reducible refine ⟨?_,?_⟩);next=>(first|omega|assumption|exact Rows_map _ _ encK_cells _|exact ⟨Rows_map _ _ encK_cells _,by omega⟩|exact ⟨Rows_map _ _ encK_cells _,by simp;omega⟩|(simp at *;omega)))
 apply z
 refine AT_ret ?_
 simp[Tryz.f16]
 (rw[show lexT s=(none,65536) by unfold lexT;rw[if_neg (by omega)]];rfl)
 simp at hb10
 refine AT_skip ?_
 refine hK1 _ ?_
 refine sr fun Z z=>?_
 simp
 apply z
 refine AT_seq_k fun K2 hK2=>?_
 refine sr fun Z z=>?_
 simp
 apply z
 refine AT_block ?_
 refine AT_loop_q [0,2,3,4] [2] (fun j s1=>∃ k n out,(k≤s.length∧out.length≤k∧s.length - k < n)∧lexT s=lxA n out k (s.drop k)∧j=s.length - k∧s1={ n:=107,tm:=[(0,.v (.str s) none),(2,.lp 2 0),(3,.v (.slice (out.map encK)) (some (3,88))),(4,.v (.int .i64 (k:Nat)) none)],bx:=[(2,[.slice [],.int .i64 0])],tb:=[],sh:=[],hint:=[(3,88)] }) (s.length) (by first|rfl|simp) ?_ ?_
 exact ⟨0,s.length+1,[],by simp[lexT];omega⟩
 rintro j s1 ⟨k,n,out,⟨hk,hol,hn⟩,hc,rfl,rfl⟩ K3 hK3
 refine AT_seq_k fun K4 hK4=>?_
 refine sr fun Z z=>?_
 simp
 repeat ((with_reducible refine ⟨?_,?_⟩);next=>(first|omega|assumption|exact Rows_map _ _ encK_cells _|exact ⟨Rows_map _ _ encK_cells _,by omega⟩|exact ⟨Rows_map _ _ encK_cells _,by simp;omega⟩|(simp at *;omega)))
 apply z
 refine AT_cond (g:=none) rfl (fun hb15=>?_) (fun hb15=>?_)
 simp at hb15
 refine AT_skip ?_
 refine hK4 _ ?_
 refine AT_block ?_
 refine sr fun Z z=>?_
 simp[hb15]
 repeat ((with_reducible refine ⟨?_,?_⟩);next=>(first|omega|assumption|exact Rows_map _ _ encK_cells _|exact ⟨Rows_map _ _ encK_cells _,by omega⟩|exact ⟨Rows_map _ _ encK_cells _,by simp;omega⟩|(simp at *;omega)))
 apply z
 refine sr fun Z z=>?_
 simp
 repeat ((with_reducible refine ⟨?_,?_⟩);next=>(first|omega|assumption|exact Rows_map _ _ encK_cells _|exact ⟨Rows_map _ _ encK_cells _,by omega⟩|exact ⟨Rows_map _ _ encK_cells _,by simp;omega⟩|(simp at *;omega)))
 apply z
 refine sr fun Z z=>?_
 simp
 repeat ((with_reducible refine ⟨?_,?_⟩);next=>(first|omega|assumption|exact Rows_map _ _ encK_cells _|exact ⟨Rows_map _ _ encK_cells _,by omega⟩|exact ⟨Rows_map _ _ encK_cells _,by simp;omega⟩|(simp at *;omega)))
 refine RVn_call (c_ref01x_Class g rnd _) ?_
 simp
 repeat ((with_reducible refine ⟨?_,?_⟩);next=>(first|omega|assumption|exact Rows_map _ _ encK_cells _|exact ⟨Rows_map _ _ encK_cells _,by omega⟩|exact ⟨Rows_map _ _ encK_cells _,by simp;omega⟩|(simp at *;omega)))
 apply z
 refine AT_seq_k fun K5 hK5=>?_
 refine AT_block ?_
 refine sr fun Z z=>?_
 simp
 repeat ((with_reducible refine ⟨?_,?_⟩);next=>(first|omega|assumption|exact Rows_map _ _ encK_cells _|exact ⟨Rows_map _ _ encK_cells _,by omega⟩|exact ⟨Rows_map _ _ encK_cells _,by simp;omega⟩|(simp at *;omega)))
 apply z
 refine AT_cond (g:=none) rfl (fun hb25=>?_) (fun hb25=>?_)
 simp at hb25
 refine AT_skip ?_
 refine hK5 _ ?_
 refine AT_region_q fun Z z=>?_
 (obtain ⟨kk,hkk⟩:∃ kk,kk=k+1:=⟨_,rfl⟩)
 simp[hb25]
 apply z
 refine hK3 _ (by first|rfl|simp) (s.length - kk) (by omega) ?_
 have hn1:0 < n:=by omega
 obtain ⟨n,rfl⟩:∃ m,n=m+1:=⟨n - 1,by omega⟩
 (rw[lxA_sp hb15 hb25] at hc
  refine ⟨kk,n,_,⟨?_,?_,?_⟩,by rw[hc,hkk],rfl,?_⟩
  · omega
  · (try simp only[List.length_append,List.length_singleton]);omega
  · omega
  · simp[hkk])
 simp at hb25
 by_cases h47:(((s[k].toNat:Nat):Int)==47)=true
 by_cases hk1:(k:Int)+1 < s.length
 have hk1n:k+1 < s.length:=by omega
 by_cases h48:(((s[k+1].toNat:Nat):Int)==47)=true
 have hpre:Lib.hasPrefix (s.drop k) [47,47]=true:=(pre_iff hb15).2 ⟨UInt8.toNat_inj.1 (Int.ofNat.inj (beq_iff_eq.1 h47)),hk1n,UInt8.toNat_inj.1 (Int.ofNat.inj (beq_iff_eq.1 h48))⟩
 refine sr fun Z z=>?_
 simp[h47,hk1,hk1n,h48]
 repeat ((with_reducible refine ⟨?_,?_⟩);next=>(first|omega|assumption|exact Rows_map _ _ encK_cells _|exact ⟨Rows_map _ _ encK_cells _,by omega⟩|exact ⟨Rows_map _ _ encK_cells _,by simp;omega⟩|(simp at *;omega)))
 apply z
 refine cT (by simp) ?_
 refine AT_block ?_
 refine AT_loop_q [0,2,3,4,6] [2] (fun j s1=>∃ q,(k+1≤q∧q≤s.length)∧nlN (s.drop k)=q - k+nlN (s.drop q)∧j=s.length - q∧s1={ n:=107,tm:=[(0,.v (.str s) none),(2,.lp 2 0),(3,.v (.slice (out.map encK)) (some (3,88))),(4,.v (.int .i64 (k:Nat)) none),(6,.v (.int .i64 (q:Nat)) none)],bx:=[(2,[.slice [],.int .i64 0])],tb:=[],sh:=[],hint:=[(3,88)] }) (s.length - (k+1)) (by first|rfl|simp) ?_ ?_
 exact ⟨k+1,by omega,by rw[List.drop_eq_getElem_cons hb15,nlN_cons,if_neg (by intro he;rw[he] at h47;exact absurd h47 (by decide))];omega,rfl,by simp⟩
 rintro j s1 ⟨q,⟨hq3,hq4⟩,hq,rfl,rfl⟩ K6 hK6
 refine AT_seq_k fun K7 hK7=>?_
 by_cases hq1:q < s.length
 by_cases hq2:((s[q].toNat:Nat):Int)=10
 have hz:nlN (s.drop q)=0:=by rw[List.drop_eq_getElem_cons hq1,nlN_cons,if_pos (UInt8.toNat_inj.1 (Int.ofNat.inj hq2))]
 refine sr fun Z z=>?_
 simp[hq1,hq2]
 repeat ((with_reducible refine ⟨?_,?_⟩);next=>(first|omega|assumption|exact Rows_map _ _ encK_cells _|exact ⟨Rows_map _ _ encK_cells _,by omega⟩|exact ⟨Rows_map _ _ encK_cells _,by simp;omega⟩|(simp at *;omega)))
 apply z
 refine cF (by simp) ?_
 refine AT_exit ?_
 refine hK5 _ ?_
 refine AT_region_q fun Z z=>?_
 (have hkq:q=q:=rfl
  obtain ⟨kk,hkk⟩:∃ kk,kk=q:=⟨_,rfl⟩)
 simp
 apply z
 refine hK3 _ (by first|rfl|simp) (s.length - kk) (by omega) ?_
 have hn1:0 < n:=by omega
 obtain ⟨n,rfl⟩:∃ m,n=m+1:=⟨n - 1,by omega⟩
 (rw[lxA_comR hb15 hb25 hpre (by omega),show k+nlN (s.drop k)=q by omega] at hc
  refine ⟨kk,n,_,⟨?_,?_,?_⟩,by rw[hc,hkk],rfl,?_⟩
  · omega
  · (try simp only[List.length_append,List.length_singleton]);omega
  · omega
  · simp[hkk])
 have hz:nlN (s.drop q)=1+nlN (s.drop (q+1)):=by rw[List.drop_eq_getElem_cons hq1,nlN_cons,if_neg (fun he=>hq2 (by rw[he];rfl))]
 refine sr fun Z z=>?_
 simp[hq1]
 repeat ((with_reducible refine ⟨?_,?_⟩);next=>(first|omega|assumption|exact Rows_map _ _ encK_cells _|exact ⟨Rows_map _ _ encK_cells _,by omega⟩|exact ⟨Rows_map _ _ encK_cells _,by simp;omega⟩|(simp at *;omega)))
 apply z
 refine cT (by simp[hq2]) ?_
 refine AT_skip ?_
 refine hK7 _ ?_
 refine AT_block ?_
 refine AT_region_q fun Z z=>?_
 simp
 repeat ((with_reducible refine ⟨?_,?_⟩);next=>(first|omega|assumption|exact Rows_map _ _ encK_cells _|exact ⟨Rows_map _ _ encK_cells _,by omega⟩|exact ⟨Rows_map _ _ encK_cells _,by simp;omega⟩|(simp at *;omega)))
 apply z
 refine hK6 _ (by first|rfl|simp) (s.length - (q+1)) (by omega) ?_
 exact ⟨q+1,by omega,by rw[hq,hz];omega,rfl,by simp⟩
 have hz:nlN (s.drop q)=0:=by rw[List.drop_eq_nil_of_le (by omega)];rfl
 refine sr fun Z z=>?_
 simp[hq1]
 repeat ((with_reducible refine ⟨?_,?_⟩);next=>(first|omega|assumption|exact Rows_map _ _ encK_cells _|exact ⟨Rows_map _ _ encK_cells _,by omega⟩|exact ⟨Rows_map _ _ encK_cells _,by simp;omega⟩|(simp at *;omega)))
 apply z
 refine cF (by simp) ?_
 refine AT_exit ?_
 refine hK5 _ ?_
 refine AT_region_q fun Z z=>?_
 (have hkq:q=q:=rfl
  obtain ⟨kk,hkk⟩:∃ kk,kk=q:=⟨_,rfl⟩)
 simp
 apply z
 refine hK3 _ (by first|rfl|simp) (s.length - kk) (by omega) ?_
 have hn1:0 < n:=by omega
 obtain ⟨n,rfl⟩:∃ m,n=m+1:=⟨n - 1,by omega⟩
 (rw[lxA_comR hb15 hb25 hpre (by omega),show k+nlN (s.drop k)=q by omega] at hc
  refine ⟨kk,n,_,⟨?_,?_,?_⟩,by rw[hc,hkk],rfl,?_⟩
  · omega
  · (try simp only[List.length_append,List.length_singleton]);omega
  · omega
  · simp[hkk])
 have hpre:Lib.hasPrefix (s.drop k) [47,47]=false:=by
   rw[←Bool.not_eq_true,pre_iff hb15]
   rintro ⟨-,h,he⟩
   exact h48 (by rw[he];rfl)
 rw[Bool.not_eq_true] at h48
 refine sr fun Z z=>?_
 simp[h47,hk1,hk1n,h48]
 repeat ((with_reducible refine ⟨?_,?_⟩);next=>(first|omega|assumption|exact Rows_map _ _ encK_cells _|exact ⟨Rows_map _ _ encK_cells _,by omega⟩|exact ⟨Rows_map _ _ encK_cells _,by simp;omega⟩|(simp at *;omega)))
 apply z
 refine cF (by simp) ?_
 refine sr fun Z z=>?_
 simp
 repeat ((with_reducible refine ⟨?_,?_⟩);next=>(first|omega|assumption|exact Rows_map _ _ encK_cells _|exact ⟨Rows_map _ _ encK_cells _,by omega⟩|exact ⟨Rows_map _ _ encK_cells _,by simp;omega⟩|(simp at *;omega)))
 apply z
 refine AT_cond (g:=none) rfl (fun hb55=>?_) (fun hb55=>?_)
 simp at hb55
 refine AT_seq_k fun K8 hK8=>?_
 refine AT_block ?_
 refine AT_loop_q [0,2,3,4,6] [2] (fun j s1=>∃ q,(k+1≤q∧q≤s.length)∧wordN (s.drop k)=q - k+wordN (s.drop q)∧j=s.length - q∧s1={ n:=107,tm:=[(0,.v (.str s) none),(2,.lp 2 0),(3,.v (.slice (out.map encK)) (some (3,88))),(4,.v (.int .i64 (k:Nat)) none),(6,.v (.int .i64 (q:Nat)) none)],bx:=[(2,[.slice [],.int .i64 0])],tb:=[],sh:=[],hint:=[(3,88)] }) (s.length - (k+1)) (by first|rfl|simp) ?_ ?_
 exact ⟨k+1,by omega,by rw[List.drop_eq_getElem_cons hb15,wordN_cons,if_pos (by simp[wc,hb55])];omega,rfl,by simp⟩
 rintro j s1 ⟨q,⟨hq4,hq5⟩,hq,rfl,rfl⟩ K9 hK9
 refine AT_seq_k fun K10 hK10=>?_
 by_cases hq1:q < s.length
 by_cases hq2:0 < clsI s[q].toNat
 by_cases hq3:clsI s[q].toNat < 4
 have hz:wordN (s.drop q)=1+wordN (s.drop (q+1)):=by
   rw[List.drop_eq_getElem_cons hq1,wordN_cons,if_pos (by simp only[wc,Bool.and_eq_true,decide_eq_true_eq];omega)]
 refine sr fun Z z=>?_
 simp[hq1]
 repeat ((with_reducible refine ⟨?_,?_⟩);next=>(first|omega|assumption|exact Rows_map _ _ encK_cells _|exact ⟨Rows_map _ _ encK_cells _,by omega⟩|exact ⟨Rows_map _ _ encK_cells _,by simp;omega⟩|(simp at *;omega)))
 refine RVn_call (c_ref01x_Class g rnd _) ?_
 simp[hq1,hq2]
 repeat ((with_reducible refine ⟨?_,?_⟩);next=>(first|omega|assumption|exact Rows_map _ _ encK_cells _|exact ⟨Rows_map _ _ encK_cells _,by omega⟩|exact ⟨Rows_map _ _ encK_cells _,by simp;omega⟩|(simp at *;omega)))
 refine RVn_call (c_ref01x_Class g rnd _) ?_
 simp[hq3]
 repeat ((with_reducible refine ⟨?_,?_⟩);next=>(first|omega|assumption|exact Rows_map _ _ encK_cells _|exact ⟨Rows_map _ _ encK_cells _,by omega⟩|exact ⟨Rows_map _ _ encK_cells _,by simp;omega⟩|(simp at *;omega)))
 apply z
 refine cT (by simp) ?_
 refine AT_skip ?_
 refine hK10 _ ?_
 refine AT_block ?_
 refine AT_region_q fun Z z=>?_
 simp
 repeat ((with_reducible refine ⟨?_,?_⟩);next=>(first|omega|assumption|exact Rows_map _ _ encK_cells _|exact ⟨Rows_map _ _ encK_cells _,by omega⟩|exact ⟨Rows_map _ _ encK_cells _,by simp;omega⟩|(simp at *;omega)))
 apply z
 refine hK9 _ (by first|rfl|simp) (s.length - (q+1)) (by omega) ?_
 exact ⟨q+1,by omega,by rw[hq,hz];omega,rfl,by simp⟩
 have hz:wordN (s.drop q)=0:=by
   rw[List.drop_eq_getElem_cons hq1,wordN_cons,if_neg (by simp only[wc,Bool.and_eq_true,decide_eq_true_eq];omega)]
 refine sr fun Z z=>?_
 simp[hq1]
 repeat ((with_reducible refine ⟨?_,?_⟩);next=>(first|omega|assumption|exact Rows_map _ _ encK_cells _|exact ⟨Rows_map _ _ encK_cells _,by omega⟩|exact ⟨Rows_map _ _ encK_cells _,by simp;omega⟩|(simp at *;omega)))
 refine RVn_call (c_ref01x_Class g rnd _) ?_
 simp[hq1,hq2]
 repeat ((with_reducible refine ⟨?_,?_⟩);next=>(first|omega|assumption|exact Rows_map _ _ encK_cells _|exact ⟨Rows_map _ _ encK_cells _,by omega⟩|exact ⟨Rows_map _ _ encK_cells _,by simp;omega⟩|(simp at *;omega)))
 refine RVn_call (c_ref01x_Class g rnd _) ?_
 simp[hq3]
 repeat ((with_reducible refine ⟨?_,?_⟩);next=>(first|omega|assumption|exact Rows_map _ _ encK_cells _|exact ⟨Rows_map _ _ encK_cells _,by omega⟩|exact ⟨Rows_map _ _ encK_cells _,by simp;omega⟩|(simp at *;omega)))
 apply z
 refine cF (by simp) ?_
 refine AT_exit ?_
 refine hK8 _ ?_
 refine AT_region_q fun Z z=>?_
 simp
 repeat ((with_reducible refine ⟨?_,?_⟩);next=>(first|omega|assumption|exact Rows_map _ _ encK_cells _|exact ⟨Rows_map _ _ encK_cells _,by omega⟩|exact ⟨Rows_map _ _ encK_cells _,by simp;omega⟩|(simp at *;omega)))
 apply z
 refine hK5 _ ?_
 refine AT_region_q fun Z z=>?_
 (have hkq:q=q:=rfl
  obtain ⟨kk,hkk⟩:∃ kk,kk=q:=⟨_,rfl⟩)
 simp
 apply z
 refine hK3 _ (by first|rfl|simp) (s.length - kk) (by omega) ?_
 have hn1:0 < n:=by omega
 obtain ⟨n,rfl⟩:∃ m,n=m+1:=⟨n - 1,by omega⟩
 (rw[lxA_word hb15 hb25 hpre hb55,show wordN (s.drop k)=q - k by omega,show k+(q - k)=q by omega] at hc
  refine ⟨kk,n,_,⟨?_,?_,?_⟩,by rw[hc,hkk],rfl,?_⟩
  · omega
  · (try simp only[List.length_append,List.length_singleton]);omega
  · omega
  · simp[hkk,encK,List.map_append,List.drop_take])
 have hz:wordN (s.drop q)=0:=by
   rw[List.drop_eq_getElem_cons hq1,wordN_cons,if_neg (by simp only[wc,Bool.and_eq_true,decide_eq_true_eq];omega)]
 refine sr fun Z z=>?_
 simp[hq1]
 repeat ((with_reducible refine ⟨?_,?_⟩);next=>(first|omega|assumption|exact Rows_map _ _ encK_cells _|exact ⟨Rows_map _ _ encK_cells _,by omega⟩|exact ⟨Rows_map _ _ encK_cells _,by simp;omega⟩|(simp at *;omega)))
 refine RVn_call (c_ref01x_Class g rnd _) ?_
 simp[hq2]
 repeat ((with_reducible refine ⟨?_,?_⟩);next=>(first|omega|assumption|exact Rows_map _ _ encK_cells _|exact ⟨Rows_map _ _ encK_cells _,by omega⟩|exact ⟨Rows_map _ _ encK_cells _,by simp;omega⟩|(simp at *;omega)))
 apply z
 refine cF (by simp) ?_
 refine AT_exit ?_
 refine hK8 _ ?_
 refine AT_region_q fun Z z=>?_
 simp
 repeat ((with_reducible refine ⟨?_,?_⟩);next=>(first|omega|assumption|exact Rows_map _ _ encK_cells _|exact ⟨Rows_map _ _ encK_cells _,by omega⟩|exact ⟨Rows_map _ _ encK_cells _,by simp;omega⟩|(simp at *;omega)))
 apply z
 refine hK5 _ ?_
 refine AT_region_q fun Z z=>?_
 (have hkq:q=q:=rfl
  obtain ⟨kk,hkk⟩:∃ kk,kk=q:=⟨_,rfl⟩)
 simp
 apply z
 refine hK3 _ (by first|rfl|simp) (s.length - kk) (by omega) ?_
 have hn1:0 < n:=by omega
 obtain ⟨n,rfl⟩:∃ m,n=m+1:=⟨n - 1,by omega⟩
 (rw[lxA_word hb15 hb25 hpre hb55,show wordN (s.drop k)=q - k by omega,show k+(q - k)=q by omega] at hc
  refine ⟨kk,n,_,⟨?_,?_,?_⟩,by rw[hc,hkk],rfl,?_⟩
  · omega
  · (try simp only[List.length_append,List.length_singleton]);omega
  · omega
  · simp[hkk,encK,List.map_append,List.drop_take])
 have hz:wordN (s.drop q)=0:=by rw[List.drop_eq_nil_of_le (by omega)];rfl
 refine sr fun Z z=>?_
 simp[hq1]
 repeat ((with_reducible refine ⟨?_,?_⟩);next=>(first|omega|assumption|exact Rows_map _ _ encK_cells _|exact ⟨Rows_map _ _ encK_cells _,by omega⟩|exact ⟨Rows_map _ _ encK_cells _,by simp;omega⟩|(simp at *;omega)))
 apply z
 refine cF (by simp) ?_
 refine AT_exit ?_
 refine hK8 _ ?_
 refine AT_region_q fun Z z=>?_
 simp
 repeat ((with_reducible refine ⟨?_,?_⟩);next=>(first|omega|assumption|exact Rows_map _ _ encK_cells _|exact ⟨Rows_map _ _ encK_cells _,by omega⟩|exact ⟨Rows_map _ _ encK_cells _,by simp;omega⟩|(simp at *;omega)))
 apply z
 refine hK5 _ ?_
 refine AT_region_q fun Z z=>?_
 (have hkq:q=q:=rfl
  obtain ⟨kk,hkk⟩:∃ kk,kk=q:=⟨_,rfl⟩)
 simp
 apply z
 refine hK3 _ (by first|rfl|simp) (s.length - kk) (by omega) ?_
 have hn1:0 < n:=by omega
 obtain ⟨n,rfl⟩:∃ m,n=m+1:=⟨n - 1,by omega⟩
 (rw[lxA_word hb15 hb25 hpre hb55,show wordN (s.drop k)=q - k by omega,show k+(q - k)=q by omega] at hc
  refine ⟨kk,n,_,⟨?_,?_,?_⟩,by rw[hc,hkk],rfl,?_⟩
  · omega
  · (try simp only[List.length_append,List.length_singleton]);omega
  · omega
  · simp[hkk,encK,List.map_append,List.drop_take])
 simp at hb55
 refine sr fun Z z=>?_
 simp
 repeat ((with_reducible refine ⟨?_,?_⟩);next=>(first|omega|assumption|exact Rows_map _ _ encK_cells _|exact ⟨Rows_map _ _ encK_cells _,by omega⟩|exact ⟨Rows_map _ _ encK_cells _,by simp;omega⟩|(simp at *;omega)))
 refine RVn_call (c_ref03x_sign g rnd _) ?_
 simp
 repeat ((with_reducible refine ⟨?_,?_⟩);next=>(first|omega|assumption|exact Rows_map _ _ encK_cells _|exact ⟨Rows_map _ _ encK_cells _,by omega⟩|exact ⟨Rows_map _ _ encK_cells _,by simp;omega⟩|(simp at *;omega)))
 apply z
 refine AT_cond (g:=none) rfl (fun hb87=>?_) (fun hb87=>?_)
 simp at hb87
 refine AT_region_q fun Z z=>?_
 simp[hb87]
 repeat ((with_reducible refine ⟨?_,?_⟩);next=>(first|omega|assumption|exact Rows_map _ _ encK_cells _|exact ⟨Rows_map _ _ encK_cells _,by omega⟩|exact ⟨Rows_map _ _ encK_cells _,by simp;omega⟩|(simp at *;omega)))
 apply z
 refine hK5 _ ?_
 refine AT_region_q fun Z z=>?_
 (obtain ⟨kk,hkk⟩:∃ kk,kk=k+1:=⟨_,rfl⟩)
 simp
 apply z
 refine hK3 _ (by first|rfl|simp) (s.length - kk) (by omega) ?_
 have hn1:0 < n:=by omega
 obtain ⟨n,rfl⟩:∃ m,n=m+1:=⟨n - 1,by omega⟩
 (rw[lxA_sign hb15 hb25 hpre hb55 (sign_iff.1 hb87)] at hc
  refine ⟨kk,n,_,⟨?_,?_,?_⟩,by rw[hc,hkk],rfl,?_⟩
  · omega
  · (try simp only[List.length_append,List.length_singleton]);omega
  · omega
  · simp[hkk,encK,List.map_append,drop_take_one,hb15])
 simp at hb87
 refine sr fun Z z=>?_
 simp[hb87]
 repeat ((with_reducible refine ⟨?_,?_⟩);next=>(first|omega|assumption|exact Rows_map _ _ encK_cells _|exact ⟨Rows_map _ _ encK_cells _,by omega⟩|exact ⟨Rows_map _ _ encK_cells _,by simp;omega⟩|(simp at *;omega)))
 apply z
 refine AT_ret ?_
 simp[Tryz.f16]
 (obtain ⟨n,rfl⟩:∃ m,n=m+1:=⟨n - 1,by omega⟩
  rw[lxA_bad hb15 hb25 hpre hb55 (by have:=mt sign_iff.2 hb87;omega)] at hc
  rw[hc];rfl)
 have hpre:Lib.hasPrefix (s.drop k) [47,47]=false:=by
   rw[←Bool.not_eq_true,pre_iff hb15]
   rintro ⟨-,h,he⟩
   omega
 refine sr fun Z z=>?_
 simp[h47,hk1]
 repeat ((with_reducible refine ⟨?_,?_⟩);next=>(first|omega|assumption|exact Rows_map _ _ encK_cells _|exact ⟨Rows_map _ _ encK_cells _,by omega⟩|exact ⟨Rows_map _ _ encK_cells _,by simp;omega⟩|(simp at *;omega)))
 apply z
 refine cF (by simp) ?_
 refine sr fun Z z=>?_
 simp
 repeat ((with_reducible refine ⟨?_,?_⟩);next=>(first|omega|assumption|exact Rows_map _ _ encK_cells _|exact ⟨Rows_map _ _ encK_cells _,by omega⟩|exact ⟨Rows_map _ _ encK_cells _,by simp;omega⟩|(simp at *;omega)))
 apply z
 refine AT_cond (g:=none) rfl (fun hb55=>?_) (fun hb55=>?_)
 simp at hb55
 refine AT_seq_k fun K11 hK11=>?_
 refine AT_block ?_
 refine AT_loop_q [0,2,3,4,6] [2] (fun j s1=>∃ q,(k+1≤q∧q≤s.length)∧wordN (s.drop k)=q - k+wordN (s.drop q)∧j=s.length - q∧s1={ n:=107,tm:=[(0,.v (.str s) none),(2,.lp 2 0),(3,.v (.slice (out.map encK)) (some (3,88))),(4,.v (.int .i64 (k:Nat)) none),(6,.v (.int .i64 (q:Nat)) none)],bx:=[(2,[.slice [],.int .i64 0])],tb:=[],sh:=[],hint:=[(3,88)] }) (s.length - (k+1)) (by first|rfl|simp) ?_ ?_
 exact ⟨k+1,by omega,by rw[List.drop_eq_getElem_cons hb15,wordN_cons,if_pos (by simp[wc,hb55])];omega,rfl,by simp⟩
 rintro j s1 ⟨q,⟨hq4,hq5⟩,hq,rfl,rfl⟩ K12 hK12
 refine AT_seq_k fun K13 hK13=>?_
 by_cases hq1:q < s.length
 by_cases hq2:0 < clsI s[q].toNat
 by_cases hq3:clsI s[q].toNat < 4
 have hz:wordN (s.drop q)=1+wordN (s.drop (q+1)):=by
   rw[List.drop_eq_getElem_cons hq1,wordN_cons,if_pos (by simp only[wc,Bool.and_eq_true,decide_eq_true_eq];omega)]
 refine sr fun Z z=>?_
 simp[hq1]
 repeat ((with_reducible refine ⟨?_,?_⟩);next=>(first|omega|assumption|exact Rows_map _ _ encK_cells _|exact ⟨Rows_map _ _ encK_cells _,by omega⟩|exact ⟨Rows_map _ _ encK_cells _,by simp;omega⟩|(simp at *;omega)))
 refine RVn_call (c_ref01x_Class g rnd _) ?_
 simp[hq1,hq2]
 repeat ((with_reducible refine ⟨?_,?_⟩);next=>(first|omega|assumption|exact Rows_map _ _ encK_cells _|exact ⟨Rows_map _ _ encK_cells _,by omega⟩|exact ⟨Rows_map _ _ encK_cells _,by simp;omega⟩|(simp at *;omega)))
 refine RVn_call (c_ref01x_Class g rnd _) ?_
 simp[hq3]
 repeat ((with_reducible refine ⟨?_,?_⟩);next=>(first|omega|assumption|exact Rows_map _ _ encK_cells _|exact ⟨Rows_map _ _ encK_cells _,by omega⟩|exact ⟨Rows_map _ _ encK_cells _,by simp;omega⟩|(simp at *;omega)))
 apply z
 refine cT (by simp) ?_
 refine AT_skip ?_
 refine hK13 _ ?_
 refine AT_block ?_
 refine AT_region_q fun Z z=>?_
 simp
 repeat ((with_reducible refine ⟨?_,?_⟩);next=>(first|omega|assumption|exact Rows_map _ _ encK_cells _|exact ⟨Rows_map _ _ encK_cells _,by omega⟩|exact ⟨Rows_map _ _ encK_cells _,by simp;omega⟩|(simp at *;omega)))
 apply z
 refine hK12 _ (by first|rfl|simp) (s.length - (q+1)) (by omega) ?_
 exact ⟨q+1,by omega,by rw[hq,hz];omega,rfl,by simp⟩
 have hz:wordN (s.drop q)=0:=by
   rw[List.drop_eq_getElem_cons hq1,wordN_cons,if_neg (by simp only[wc,Bool.and_eq_true,decide_eq_true_eq];omega)]
 refine sr fun Z z=>?_
 simp[hq1]
 repeat ((with_reducible refine ⟨?_,?_⟩);next=>(first|omega|assumption|exact Rows_map _ _ encK_cells _|exact ⟨Rows_map _ _ encK_cells _,by omega⟩|exact ⟨Rows_map _ _ encK_cells _,by simp;omega⟩|(simp at *;omega)))
 refine RVn_call (c_ref01x_Class g rnd _) ?_
 simp[hq1,hq2]
 repeat ((with_reducible refine ⟨?_,?_⟩);next=>(first|omega|assumption|exact Rows_map _ _ encK_cells _|exact ⟨Rows_map _ _ encK_cells _,by omega⟩|exact ⟨Rows_map _ _ encK_cells _,by simp;omega⟩|(simp at *;omega)))
 refine RVn_call (c_ref01x_Class g rnd _) ?_
 simp[hq3]
 repeat ((with_reducible refine ⟨?_,?_⟩);next=>(first|omega|assumption|exact Rows_map _ _ encK_cells _|exact ⟨Rows_map _ _ encK_cells _,by omega⟩|exact ⟨Rows_map _ _ encK_cells _,by simp;omega⟩|(simp at *;omega)))
 apply z
 refine cF (by simp) ?_
 refine AT_exit ?_
 refine hK11 _ ?_
 refine AT_region_q fun Z z=>?_
 simp
 repeat ((with_reducible refine ⟨?_,?_⟩);next=>(first|omega|assumption|exact Rows_map _ _ encK_cells _|exact ⟨Rows_map _ _ encK_cells _,by omega⟩|exact ⟨Rows_map _ _ encK_cells _,by simp;omega⟩|(simp at *;omega)))
 apply z
 refine hK5 _ ?_
 refine AT_region_q fun Z z=>?_
 (have hkq:q=q:=rfl
  obtain ⟨kk,hkk⟩:∃ kk,kk=q:=⟨_,rfl⟩)
 simp
 apply z
 refine hK3 _ (by first|rfl|simp) (s.length - kk) (by omega) ?_
 have hn1:0 < n:=by omega
 obtain ⟨n,rfl⟩:∃ m,n=m+1:=⟨n - 1,by omega⟩
 (rw[lxA_word hb15 hb25 hpre hb55,show wordN (s.drop k)=q - k by omega,show k+(q - k)=q by omega] at hc
  refine ⟨kk,n,_,⟨?_,?_,?_⟩,by rw[hc,hkk],rfl,?_⟩
  · omega
  · (try simp only[List.length_append,List.length_singleton]);omega
  · omega
  · simp[hkk,encK,List.map_append,List.drop_take])
 have hz:wordN (s.drop q)=0:=by
   rw[List.drop_eq_getElem_cons hq1,wordN_cons,if_neg (by simp only[wc,Bool.and_eq_true,decide_eq_true_eq];omega)]
 refine sr fun Z z=>?_
 simp[hq1]
 repeat ((with_reducible refine ⟨?_,?_⟩);next=>(first|omega|assumption|exact Rows_map _ _ encK_cells _|exact ⟨Rows_map _ _ encK_cells _,by omega⟩|exact ⟨Rows_map _ _ encK_cells _,by simp;omega⟩|(simp at *;omega)))
 refine RVn_call (c_ref01x_Class g rnd _) ?_
 simp[hq2]
 repeat ((with_reducible refine ⟨?_,?_⟩);next=>(first|omega|assumption|exact Rows_map _ _ encK_cells _|exact ⟨Rows_map _ _ encK_cells _,by omega⟩|exact ⟨Rows_map _ _ encK_cells _,by simp;omega⟩|(simp at *;omega)))
 apply z
 refine cF (by simp) ?_
 refine AT_exit ?_
 refine hK11 _ ?_
 refine AT_region_q fun Z z=>?_
 simp
 repeat ((with_reducible refine ⟨?_,?_⟩);next=>(first|omega|assumption|exact Rows_map _ _ encK_cells _|exact ⟨Rows_map _ _ encK_cells _,by omega⟩|exact ⟨Rows_map _ _ encK_cells _,by simp;omega⟩|(simp at *;omega)))
 apply z
 refine hK5 _ ?_
 refine AT_region_q fun Z z=>?_
 (have hkq:q=q:=rfl
  obtain ⟨kk,hkk⟩:∃ kk,kk=q:=⟨_,rfl⟩)
 simp
 apply z
 refine hK3 _ (by first|rfl|simp) (s.length - kk) (by omega) ?_
 have hn1:0 < n:=by omega
 obtain ⟨n,rfl⟩:∃ m,n=m+1:=⟨n - 1,by omega⟩
 (rw[lxA_word hb15 hb25 hpre hb55,show wordN (s.drop k)=q - k by omega,show k+(q - k)=q by omega] at hc
  refine ⟨kk,n,_,⟨?_,?_,?_⟩,by rw[hc,hkk],rfl,?_⟩
  · omega
  · (try simp only[List.length_append,List.length_singleton]);omega
  · omega
  · simp[hkk,encK,List.map_append,List.drop_take])
 have hz:wordN (s.drop q)=0:=by rw[List.drop_eq_nil_of_le (by omega)];rfl
 refine sr fun Z z=>?_
 simp[hq1]
 repeat ((with_reducible refine ⟨?_,?_⟩);next=>(first|omega|assumption|exact Rows_map _ _ encK_cells _|exact ⟨Rows_map _ _ encK_cells _,by omega⟩|exact ⟨Rows_map _ _ encK_cells _,by simp;omega⟩|(simp at *;omega)))
 apply z
 refine cF (by simp) ?_
 refine AT_exit ?_
 refine hK11 _ ?_
 refine AT_region_q fun Z z=>?_
 simp
 repeat ((with_reducible refine ⟨?_,?_⟩);next=>(first|omega|assumption|exact Rows_map _ _ encK_cells _|exact ⟨Rows_map _ _ encK_cells _,by omega⟩|exact ⟨Rows_map _ _ encK_cells _,by simp;omega⟩|(simp at *;omega)))
 apply z
 refine hK5 _ ?_
 refine AT_region_q fun Z z=>?_
 (have hkq:q=q:=rfl
  obtain ⟨kk,hkk⟩:∃ kk,kk=q:=⟨_,rfl⟩)
 simp
 apply z
 refine hK3 _ (by first|rfl|simp) (s.length - kk) (by omega) ?_
 have hn1:0 < n:=by omega
 obtain ⟨n,rfl⟩:∃ m,n=m+1:=⟨n - 1,by omega⟩
 (rw[lxA_word hb15 hb25 hpre hb55,show wordN (s.drop k)=q - k by omega,show k+(q - k)=q by omega] at hc
  refine ⟨kk,n,_,⟨?_,?_,?_⟩,by rw[hc,hkk],rfl,?_⟩
  · omega
  · (try simp only[List.length_append,List.length_singleton]);omega
  · omega
  · simp[hkk,encK,List.map_append,List.drop_take])
 simp at hb55
 refine sr fun Z z=>?_
 simp
 repeat ((with_reducible refine ⟨?_,?_⟩);next=>(first|omega|assumption|exact Rows_map _ _ encK_cells _|exact ⟨Rows_map _ _ encK_cells _,by omega⟩|exact ⟨Rows_map _ _ encK_cells _,by simp;omega⟩|(simp at *;omega)))
 refine RVn_call (c_ref03x_sign g rnd _) ?_
 simp
 repeat ((with_reducible refine ⟨?_,?_⟩);next=>(first|omega|assumption|exact Rows_map _ _ encK_cells _|exact ⟨Rows_map _ _ encK_cells _,by omega⟩|exact ⟨Rows_map _ _ encK_cells _,by simp;omega⟩|(simp at *;omega)))
 apply z
 refine AT_cond (g:=none) rfl (fun hb87=>?_) (fun hb87=>?_)
 simp at hb87
 refine AT_region_q fun Z z=>?_
 simp[hb87]
 repeat ((with_reducible refine ⟨?_,?_⟩);next=>(first|omega|assumption|exact Rows_map _ _ encK_cells _|exact ⟨Rows_map _ _ encK_cells _,by omega⟩|exact ⟨Rows_map _ _ encK_cells _,by simp;omega⟩|(simp at *;omega)))
 apply z
 refine hK5 _ ?_
 refine AT_region_q fun Z z=>?_
 (obtain ⟨kk,hkk⟩:∃ kk,kk=k+1:=⟨_,rfl⟩)
 simp
 apply z
 refine hK3 _ (by first|rfl|simp) (s.length - kk) (by omega) ?_
 have hn1:0 < n:=by omega
 obtain ⟨n,rfl⟩:∃ m,n=m+1:=⟨n - 1,by omega⟩
 (rw[lxA_sign hb15 hb25 hpre hb55 (sign_iff.1 hb87)] at hc
  refine ⟨kk,n,_,⟨?_,?_,?_⟩,by rw[hc,hkk],rfl,?_⟩
  · omega
  · (try simp only[List.length_append,List.length_singleton]);omega
  · omega
  · simp[hkk,encK,List.map_append,drop_take_one,hb15])
 simp at hb87
 refine sr fun Z z=>?_
 simp[hb87]
 repeat ((with_reducible refine ⟨?_,?_⟩);next=>(first|omega|assumption|exact Rows_map _ _ encK_cells _|exact ⟨Rows_map _ _ encK_cells _,by omega⟩|exact ⟨Rows_map _ _ encK_cells _,by simp;omega⟩|(simp at *;omega)))
 apply z
 refine AT_ret ?_
 simp[Tryz.f16]
 (obtain ⟨n,rfl⟩:∃ m,n=m+1:=⟨n - 1,by omega⟩
  rw[lxA_bad hb15 hb25 hpre hb55 (by have:=mt sign_iff.2 hb87;omega)] at hc
  rw[hc];rfl)
 have hpre:Lib.hasPrefix (s.drop k) [47,47]=false:=by
   rw[←Bool.not_eq_true,pre_iff hb15]
   rintro ⟨he,-⟩
   exact h47 (by rw[he];rfl)
 rw[Bool.not_eq_true] at h47
 refine sr fun Z z=>?_
 simp[h47]
 repeat ((with_reducible refine ⟨?_,?_⟩);next=>(first|omega|assumption|exact Rows_map _ _ encK_cells _|exact ⟨Rows_map _ _ encK_cells _,by omega⟩|exact ⟨Rows_map _ _ encK_cells _,by simp;omega⟩|(simp at *;omega)))
 apply z
 refine cF (by simp) ?_
 refine sr fun Z z=>?_
 simp
 repeat ((with_reducible refine ⟨?_,?_⟩);next=>(first|omega|assumption|exact Rows_map _ _ encK_cells _|exact ⟨Rows_map _ _ encK_cells _,by omega⟩|exact ⟨Rows_map _ _ encK_cells _,by simp;omega⟩|(simp at *;omega)))
 apply z
 refine AT_cond (g:=none) rfl (fun hb55=>?_) (fun hb55=>?_)
 simp at hb55
 refine AT_seq_k fun K14 hK14=>?_
 refine AT_block ?_
 refine AT_loop_q [0,2,3,4,6] [2] (fun j s1=>∃ q,(k+1≤q∧q≤s.length)∧wordN (s.drop k)=q - k+wordN (s.drop q)∧j=s.length - q∧s1={ n:=107,tm:=[(0,.v (.str s) none),(2,.lp 2 0),(3,.v (.slice (out.map encK)) (some (3,88))),(4,.v (.int .i64 (k:Nat)) none),(6,.v (.int .i64 (q:Nat)) none)],bx:=[(2,[.slice [],.int .i64 0])],tb:=[],sh:=[],hint:=[(3,88)] }) (s.length - (k+1)) (by first|rfl|simp) ?_ ?_
 exact ⟨k+1,by omega,by rw[List.drop_eq_getElem_cons hb15,wordN_cons,if_pos (by simp[wc,hb55])];omega,rfl,by simp⟩
 rintro j s1 ⟨q,⟨hq4,hq5⟩,hq,rfl,rfl⟩ K15 hK15
 refine AT_seq_k fun K16 hK16=>?_
 by_cases hq1:q < s.length
 by_cases hq2:0 < clsI s[q].toNat
 by_cases hq3:clsI s[q].toNat < 4
 have hz:wordN (s.drop q)=1+wordN (s.drop (q+1)):=by
   rw[List.drop_eq_getElem_cons hq1,wordN_cons,if_pos (by simp only[wc,Bool.and_eq_true,decide_eq_true_eq];omega)]
 refine sr fun Z z=>?_
 simp[hq1]
 repeat ((with_reducible refine ⟨?_,?_⟩);next=>(first|omega|assumption|exact Rows_map _ _ encK_cells _|exact ⟨Rows_map _ _ encK_cells _,by omega⟩|exact ⟨Rows_map _ _ encK_cells _,by simp;omega⟩|(simp at *;omega)))
 refine RVn_call (c_ref01x_Class g rnd _) ?_
 simp[hq1,hq2]
 repeat ((with_reducible refine ⟨?_,?_⟩);next=>(first|omega|assumption|exact Rows_map _ _ encK_cells _|exact ⟨Rows_map _ _ encK_cells _,by omega⟩|exact ⟨Rows_map _ _ encK_cells _,by simp;omega⟩|(simp at *;omega)))
 refine RVn_call (c_ref01x_Class g rnd _) ?_
 simp[hq3]
 repeat ((with_reducible refine ⟨?_,?_⟩);next=>(first|omega|assumption|exact Rows_map _ _ encK_cells _|exact ⟨Rows_map _ _ encK_cells _,by omega⟩|exact ⟨Rows_map _ _ encK_cells _,by simp;omega⟩|(simp at *;omega)))
 apply z
 refine cT (by simp) ?_
 refine AT_skip ?_
 refine hK16 _ ?_
 refine AT_block ?_
 refine AT_region_q fun Z z=>?_
 simp
 repeat ((with_reducible refine ⟨?_,?_⟩);next=>(first|omega|assumption|exact Rows_map _ _ encK_cells _|exact ⟨Rows_map _ _ encK_cells _,by omega⟩|exact ⟨Rows_map _ _ encK_cells _,by simp;omega⟩|(simp at *;omega)))
 apply z
 refine hK15 _ (by first|rfl|simp) (s.length - (q+1)) (by omega) ?_
 exact ⟨q+1,by omega,by rw[hq,hz];omega,rfl,by simp⟩
 have hz:wordN (s.drop q)=0:=by
   rw[List.drop_eq_getElem_cons hq1,wordN_cons,if_neg (by simp only[wc,Bool.and_eq_true,decide_eq_true_eq];omega)]
 refine sr fun Z z=>?_
 simp[hq1]
 repeat ((with_reducible refine ⟨?_,?_⟩);next=>(first|omega|assumption|exact Rows_map _ _ encK_cells _|exact ⟨Rows_map _ _ encK_cells _,by omega⟩|exact ⟨Rows_map _ _ encK_cells _,by simp;omega⟩|(simp at *;omega)))
 refine RVn_call (c_ref01x_Class g rnd _) ?_
 simp[hq1,hq2]
 repeat ((with_reducible refine ⟨?_,?_⟩);next=>(first|omega|assumption|exact Rows_map _ _ encK_cells _|exact ⟨Rows_map _ _ encK_cells _,by omega⟩|exact ⟨Rows_map _ _ encK_cells _,by simp;omega⟩|(simp at *;omega)))
 refine RVn_call (c_ref01x_Class g rnd _) ?_
 simp[hq3]
 repeat ((with_reducible refine ⟨?_,?_⟩);next=>(first|omega|assumption|exact Rows_map _ _ encK_cells _|exact ⟨Rows_map _ _ encK_cells _,by omega⟩|exact ⟨Rows_map _ _ encK_cells _,by simp;omega⟩|(simp at *;omega)))
 apply z
 refine cF (by simp) ?_
 refine AT_exit ?_
 refine hK14 _ ?_
 refine AT_region_q fun Z z=>?_
 simp
 repeat ((with_reducible refine ⟨?_,?_⟩);next=>(first|omega|assumption|exact Rows_map _ _ encK_cells _|exact ⟨Rows_map _ _ encK_cells _,by omega⟩|exact ⟨Rows_map _ _ encK_cells _,by simp;omega⟩|(simp at *;omega)))
 apply z
 refine hK5 _ ?_
 refine AT_region_q fun Z z=>?_
 (have hkq:q=q:=rfl
  obtain ⟨kk,hkk⟩:∃ kk,kk=q:=⟨_,rfl⟩)
 simp
 apply z
 refine hK3 _ (by first|rfl|simp) (s.length - kk) (by omega) ?_
 have hn1:0 < n:=by omega
 obtain ⟨n,rfl⟩:∃ m,n=m+1:=⟨n - 1,by omega⟩
 (rw[lxA_word hb15 hb25 hpre hb55,show wordN (s.drop k)=q - k by omega,show k+(q - k)=q by omega] at hc
  refine ⟨kk,n,_,⟨?_,?_,?_⟩,by rw[hc,hkk],rfl,?_⟩
  · omega
  · (try simp only[List.length_append,List.length_singleton]);omega
  · omega
  · simp[hkk,encK,List.map_append,List.drop_take])
 have hz:wordN (s.drop q)=0:=by
   rw[List.drop_eq_getElem_cons hq1,wordN_cons,if_neg (by simp only[wc,Bool.and_eq_true,decide_eq_true_eq];omega)]
 refine sr fun Z z=>?_
 simp[hq1]
 repeat ((with_reducible refine ⟨?_,?_⟩);next=>(first|omega|assumption|exact Rows_map _ _ encK_cells _|exact ⟨Rows_map _ _ encK_cells _,by omega⟩|exact ⟨Rows_map _ _ encK_cells _,by simp;omega⟩|(simp at *;omega)))
 refine RVn_call (c_ref01x_Class g rnd _) ?_
 simp[hq2]
 repeat ((with_reducible refine ⟨?_,?_⟩);next=>(first|omega|assumption|exact Rows_map _ _ encK_cells _|exact ⟨Rows_map _ _ encK_cells _,by omega⟩|exact ⟨Rows_map _ _ encK_cells _,by simp;omega⟩|(simp at *;omega)))
 apply z
 refine cF (by simp) ?_
 refine AT_exit ?_
 refine hK14 _ ?_
 refine AT_region_q fun Z z=>?_
 simp
 repeat ((with_reducible refine ⟨?_,?_⟩);next=>(first|omega|assumption|exact Rows_map _ _ encK_cells _|exact ⟨Rows_map _ _ encK_cells _,by omega⟩|exact ⟨Rows_map _ _ encK_cells _,by simp;omega⟩|(simp at *;omega)))
 apply z
 refine hK5 _ ?_
 refine AT_region_q fun Z z=>?_
 (have hkq:q=q:=rfl
  obtain ⟨kk,hkk⟩:∃ kk,kk=q:=⟨_,rfl⟩)
 simp
 apply z
 refine hK3 _ (by first|rfl|simp) (s.length - kk) (by omega) ?_
 have hn1:0 < n:=by omega
 obtain ⟨n,rfl⟩:∃ m,n=m+1:=⟨n - 1,by omega⟩
 (rw[lxA_word hb15 hb25 hpre hb55,show wordN (s.drop k)=q - k by omega,show k+(q - k)=q by omega] at hc
  refine ⟨kk,n,_,⟨?_,?_,?_⟩,by rw[hc,hkk],rfl,?_⟩
  · omega
  · (try simp only[List.length_append,List.length_singleton]);omega
  · omega
  · simp[hkk,encK,List.map_append,List.drop_take])
 have hz:wordN (s.drop q)=0:=by rw[List.drop_eq_nil_of_le (by omega)];rfl
 refine sr fun Z z=>?_
 simp[hq1]
 repeat ((with_reducible refine ⟨?_,?_⟩);next=>(first|omega|assumption|exact Rows_map _ _ encK_cells _|exact ⟨Rows_map _ _ encK_cells _,by omega⟩|exact ⟨Rows_map _ _ encK_cells _,by simp;omega⟩|(simp at *;omega)))
 apply z
 refine cF (by simp) ?_
 refine AT_exit ?_
 refine hK14 _ ?_
 refine AT_region_q fun Z z=>?_
 simp
 repeat ((with_reducible refine ⟨?_,?_⟩);next=>(first|omega|assumption|exact Rows_map _ _ encK_cells _|exact ⟨Rows_map _ _ encK_cells _,by omega⟩|exact ⟨Rows_map _ _ encK_cells _,by simp;omega⟩|(simp at *;omega)))
 apply z
 refine hK5 _ ?_
 refine AT_region_q fun Z z=>?_
 (have hkq:q=q:=rfl
  obtain ⟨kk,hkk⟩:∃ kk,kk=q:=⟨_,rfl⟩)
 simp
 apply z
 refine hK3 _ (by first|rfl|simp) (s.length - kk) (by omega) ?_
 have hn1:0 < n:=by omega
 obtain ⟨n,rfl⟩:∃ m,n=m+1:=⟨n - 1,by omega⟩
 (rw[lxA_word hb15 hb25 hpre hb55,show wordN (s.drop k)=q - k by omega,show k+(q - k)=q by omega] at hc
  refine ⟨kk,n,_,⟨?_,?_,?_⟩,by rw[hc,hkk],rfl,?_⟩
  · omega
  · (try simp only[List.length_append,List.length_singleton]);omega
  · omega
  · simp[hkk,encK,List.map_append,List.drop_take])
 simp at hb55
 refine sr fun Z z=>?_
 simp
 repeat ((with_reducible refine ⟨?_,?_⟩);next=>(first|omega|assumption|exact Rows_map _ _ encK_cells _|exact ⟨Rows_map _ _ encK_cells _,by omega⟩|exact ⟨Rows_map _ _ encK_cells _,by simp;omega⟩|(simp at *;omega)))
 refine RVn_call (c_ref03x_sign g rnd _) ?_
 simp
 repeat ((with_reducible refine ⟨?_,?_⟩);next=>(first|omega|assumption|exact Rows_map _ _ encK_cells _|exact ⟨Rows_map _ _ encK_cells _,by omega⟩|exact ⟨Rows_map _ _ encK_cells _,by simp;omega⟩|(simp at *;omega)))
 apply z
 refine AT_cond (g:=none) rfl (fun hb87=>?_) (fun hb87=>?_)
 simp at hb87
 refine AT_region_q fun Z z=>?_
 simp[hb87]
 repeat ((with_reducible refine ⟨?_,?_⟩);next=>(first|omega|assumption|exact Rows_map _ _ encK_cells _|exact ⟨Rows_map _ _ encK_cells _,by omega⟩|exact ⟨Rows_map _ _ encK_cells _,by simp;omega⟩|(simp at *;omega)))
 apply z
 refine hK5 _ ?_
 refine AT_region_q fun Z z=>?_
 (obtain ⟨kk,hkk⟩:∃ kk,kk=k+1:=⟨_,rfl⟩)
 simp
 apply z
 refine hK3 _ (by first|rfl|simp) (s.length - kk) (by omega) ?_
 have hn1:0 < n:=by omega
 obtain ⟨n,rfl⟩:∃ m,n=m+1:=⟨n - 1,by omega⟩
 (rw[lxA_sign hb15 hb25 hpre hb55 (sign_iff.1 hb87)] at hc
  refine ⟨kk,n,_,⟨?_,?_,?_⟩,by rw[hc,hkk],rfl,?_⟩
  · omega
  · (try simp only[List.length_append,List.length_singleton]);omega
  · omega
  · simp[hkk,encK,List.map_append,drop_take_one,hb15])
 simp at hb87
 refine sr fun Z z=>?_
 simp[hb87]
 repeat ((with_reducible refine ⟨?_,?_⟩);next=>(first|omega|assumption|exact Rows_map _ _ encK_cells _|exact ⟨Rows_map _ _ encK_cells _,by omega⟩|exact ⟨Rows_map _ _ encK_cells _,by simp;omega⟩|(simp at *;omega)))
 apply z
 refine AT_ret ?_
 simp[Tryz.f16]
 (obtain ⟨n,rfl⟩:∃ m,n=m+1:=⟨n - 1,by omega⟩
  rw[lxA_bad hb15 hb25 hpre hb55 (by have:=mt sign_iff.2 hb87;omega)] at hc
  rw[hc];rfl)
 simp at hb15
 refine AT_exit ?_
 refine hK2 _ ?_
 refine sr fun Z z=>?_
 simp
 repeat ((with_reducible refine ⟨?_,?_⟩);next=>(first|omega|assumption|exact Rows_map _ _ encK_cells _|exact ⟨Rows_map _ _ encK_cells _,by omega⟩|exact ⟨Rows_map _ _ encK_cells _,by simp;omega⟩|(simp at *;omega)))
 apply z
 refine AT_ret ?_
 simp[Tryz.f16]
 (obtain ⟨n,rfl⟩:∃ m,n=m+1:=⟨n - 1,by omega⟩
  rw[lxA_end hk hb15] at hc
  rw[hc];simp[lexR,encK])

end Go.Proofs.YtfgafcjebfjepaaGreatDoor
end

import Derived.Test.YtfgafcjebfjepaaGreatDoorPt
import Derived.Test.YtfgafcjebfjepaaGreatDoorPvPb
import Derived.Test.YtfgafcjebfjepaaGreatDoorPvLa
import Derived.Test.YtfgafcjebfjepaaGreatDoorXQaC
import Derived.Test.YtfgafcjebfjepaaGreatDoorXRdH
import Derived.Test.YtfgafcjebfjepaaGreatDoorPvHe
import Derived.Test.YtfgafcjebfjepaaGreatDoorPvMc
import Derived.Test.YtfgafcjebfjepaaGreatDoorXExA
import Derived.Test.YtfgafcjebfjepaaGreatDoorPvDc
import Derived.Test.YtfgafcjebfjepaaGreatDoorXTyD
section
/- Contracts: castingsref08: whole texts. -/
set_option linter.all false
set_option maxHeartbeats 1000000
set_option maxRecDepth 10000
namespace Go.Proofs.YtfgafcjebfjepaaGreatDoor
open Go Go.Pv
variable (g:Nat→Option (List AV)) (rnd:Bool)

theorem c_ref08x_Decl (s:Str) (hs:s.length≤1000000):Valid Tryz.prog (G0 g false) 12 [.str s] (.tup [.agg (encD (wholeR dc0 rdR s).1),.int .i64 (wholeR dc0 rdR s).2.1,.int .i64 (wholeR dc0 rdR s).2.2]):=by

 refine valid_of [] Tryz.func12 rfl (by kernel_rfl) ?_
 refine sr fun Z z=>?_
 simp[Tryz.f12]
 apply z
 rcases hx:lexT s with ⟨_|l,m⟩
 ·
  refine sr fun Z z=>?_
  simp
  refine RVn_call ((by have h:=c_ref07x_Begin g s hs;rw[hx] at h;simp only[encP] at h;exact h)) ?_
  simp
  apply z
  refine AT_seq_k fun K1 hK1=>?_
  refine sr fun Z z=>?_
  simp
  apply z
  refine cT (by simp) ?_
  refine sr fun Z z=>?_
  simp
  apply z
  refine AT_ret ?_
  simp[encD,dc0,sg0,ex0,ty0,Tryz.f12]
  all_goals first|(· simp[wholeR,hx])|(· have hw:wholeR dc0 rdR s=((methodR l (typeR l (l.length+1)) (exprR l (l.length+1)) (⟨0,false⟩:Pl)).1,0,0):=(by unfold wholeR;rw[hx];simp only[hpr,← hf9,h0,if_true]);simp only[dc0,sg0,ex0,ty0] at hw;simp[hw])|(· have hw:wholeR dc0 rdR s=((typedR l (typeR l (l.length+1)) (⟨0,false⟩:Pl)).1,0,0):=(by unfold wholeR;rw[hx];simp only[hpr,← hf9,h0,if_true]);simp only[dc0,sg0,ex0,ty0] at hw;simp[hw])|(· have hw:wholeR dc0 rdR s=(dc0,f9.1,f9.2):=(by unfold wholeR;rw[hx];simp only[hpr,← hf9,if_neg h0]);simp only[dc0,sg0,ex0,ty0] at hw;simp[hw])|skip
 ·
  obtain ⟨hsl,hll,hlt⟩:=lexT_bounds hx
  have hE:=lexT_ends hx
  have hn:l.length≤1000000:=by omega
  have hk0:(⟨0,false⟩:Pl).k < l.length:=hE.1
  have hgt:=g_typed hE _ hk0
  have hgm:=g_method hE _ hk0
  refine sr fun Z z=>?_
  simp
  refine RVn_call ((by have h:=c_ref07x_Begin g s hs;rw[hx] at h;simp only[encP] at h;exact h)) ?_
  simp
  apply z
  refine AT_seq_k fun K2 hK2=>?_
  refine sr fun Z z=>?_
  simp
  apply z
  refine cF (by simp) ?_
  refine AT_skip ?_
  refine hK2 _ ?_
  refine sr fun Z z=>?_
  simp
  apply z
  refine AT_seq_k fun K3 hK3=>?_
  cases hfn:(⟨0,false⟩:Pl).is l wFunc
  ·
   have hpr:rdR l=(typedR l (typeR l (l.length+1)) (⟨0,false⟩:Pl)):=by unfold rdR declR;rw[if_neg (by rw[hfn];exact Bool.false_ne_true)]
   refine sr fun Z z=>?_
   simp
   refine RVn_call ((by have h:=c_ref07x_Is g l hn (⟨0,false⟩:Pl) hk0 wFunc;simp only[encP] at h;first|exact h|(simp only[hub] at h;exact h)|(simp only[hnb] at h;exact h)|(rw[hb] at h;exact h))) ?_
   simp[hfn]
   apply z
   refine cF (by simp) ?_
   refine AT_region_q fun Z z=>?_
   simp
   refine RVn_call ((by have h:=c_ref08x_typed g l hE hn (fun t ht=>by have:=hlt t ht;omega) (⟨0,false⟩:Pl) hk0;simp only[encP] at h;first|exact h|(simp only[hub] at h;exact h)|(simp only[hnb] at h;exact h)|(rw[hb] at h;exact h))) ?_
   simp[encD]
   apply z
   refine hK3 _ ?_
   refine sr fun Z z=>?_
   obtain ⟨f9,hf9⟩:∃ f9,f9=finR l (typedR l (typeR l (l.length+1)) (⟨0,false⟩:Pl)).2:=⟨_,rfl⟩
   simp
   refine RVn_call ((by have h:=c_ref07x_Finish g l hn (typedR l (typeR l (l.length+1)) (⟨0,false⟩:Pl)).2 hgt.2;rw[←hf9] at h;simp only[encP] at h;first|exact h|(simp only[hub] at h;exact h)|(simp only[hnb] at h;exact h)|(rw[hb] at h;exact h))) ?_
   simp
   apply z
   refine AT_seq_k fun K4 hK4=>?_
   by_cases h0:f9.1=0
   ·
    refine sr fun Z z=>?_
    simp[h0]
    apply z
    refine cF (by simp) ?_
    refine AT_skip ?_
    refine hK4 _ ?_
    refine sr fun Z z=>?_
    simp
    apply z
    refine AT_ret ?_
    simp[encD,dc0,sg0,ex0,ty0,Tryz.f12]
    all_goals first|(· simp[wholeR,hx])|(· have hw:wholeR dc0 rdR s=((methodR l (typeR l (l.length+1)) (exprR l (l.length+1)) (⟨0,false⟩:Pl)).1,0,0):=(by unfold wholeR;rw[hx];simp only[hpr,← hf9,h0,if_true]);simp only[dc0,sg0,ex0,ty0] at hw;simp[hw])|(· have hw:wholeR dc0 rdR s=((typedR l (typeR l (l.length+1)) (⟨0,false⟩:Pl)).1,0,0):=(by unfold wholeR;rw[hx];simp only[hpr,← hf9,h0,if_true]);simp only[dc0,sg0,ex0,ty0] at hw;simp[hw])|(· have hw:wholeR dc0 rdR s=(dc0,f9.1,f9.2):=(by unfold wholeR;rw[hx];simp only[hpr,← hf9,if_neg h0]);simp only[dc0,sg0,ex0,ty0] at hw;simp[hw])|skip
   ·
    refine sr fun Z z=>?_
    simp
    apply z
    refine cT (by simp[h0]) ?_
    refine sr fun Z z=>?_
    simp
    apply z
    refine AT_ret ?_
    simp[encD,dc0,sg0,ex0,ty0,Tryz.f12]
    all_goals first|(· simp[wholeR,hx])|(· have hw:wholeR dc0 rdR s=((methodR l (typeR l (l.length+1)) (exprR l (l.length+1)) (⟨0,false⟩:Pl)).1,0,0):=(by unfold wholeR;rw[hx];simp only[hpr,← hf9,h0]);simp only[dc0,sg0,ex0,ty0] at hw;simp[hw])|(· have hw:wholeR dc0 rdR s=((typedR l (typeR l (l.length+1)) (⟨0,false⟩:Pl)).1,0,0):=(by unfold wholeR;rw[hx];simp only[hpr,← hf9,h0]);simp only[dc0,sg0,ex0,ty0] at hw;simp[hw])|(· have hw:wholeR dc0 rdR s=(dc0,f9.1,f9.2):=(by unfold wholeR;rw[hx];simp only[hpr,← hf9,if_neg h0]);simp only[dc0,sg0,ex0,ty0] at hw;simp[hw])|skip
  ·
   have hpr:rdR l=(methodR l (typeR l (l.length+1)) (exprR l (l.length+1)) (⟨0,false⟩:Pl)):=by unfold rdR declR;rw[if_pos hfn]
   refine sr fun Z z=>?_
   simp
   refine RVn_call ((by have h:=c_ref07x_Is g l hn (⟨0,false⟩:Pl) hk0 wFunc;simp only[encP] at h;first|exact h|(simp only[hub] at h;exact h)|(simp only[hnb] at h;exact h)|(rw[hb] at h;exact h))) ?_
   simp[hfn]
   apply z
   refine cT (by simp) ?_
   refine AT_region_q fun Z z=>?_
   simp
   refine RVn_call ((by have h:=c_ref08x_method g l hE hn (fun t ht=>by have:=hlt t ht;omega) (⟨0,false⟩:Pl) hk0;simp only[encP] at h;first|exact h|(simp only[hub] at h;exact h)|(simp only[hnb] at h;exact h)|(rw[hb] at h;exact h))) ?_
   simp[encD]
   apply z
   refine hK3 _ ?_
   refine sr fun Z z=>?_
   obtain ⟨f9,hf9⟩:∃ f9,f9=finR l (methodR l (typeR l (l.length+1)) (exprR l (l.length+1)) (⟨0,false⟩:Pl)).2:=⟨_,rfl⟩
   simp
   refine RVn_call ((by have h:=c_ref07x_Finish g l hn (methodR l (typeR l (l.length+1)) (exprR l (l.length+1)) (⟨0,false⟩:Pl)).2 hgm.2;rw[←hf9] at h;simp only[encP] at h;first|exact h|(simp only[hub] at h;exact h)|(simp only[hnb] at h;exact h)|(rw[hb] at h;exact h))) ?_
   simp
   apply z
   refine AT_seq_k fun K5 hK5=>?_
   by_cases h0:f9.1=0
   ·
    refine sr fun Z z=>?_
    simp[h0]
    apply z
    refine cF (by simp) ?_
    refine AT_skip ?_
    refine hK5 _ ?_
    refine sr fun Z z=>?_
    simp
    apply z
    refine AT_ret ?_
    simp[encD,dc0,sg0,ex0,ty0,Tryz.f12]
    all_goals first|(· simp[wholeR,hx])|(· have hw:wholeR dc0 rdR s=((methodR l (typeR l (l.length+1)) (exprR l (l.length+1)) (⟨0,false⟩:Pl)).1,0,0):=(by unfold wholeR;rw[hx];simp only[hpr,← hf9,h0,if_true]);simp only[dc0,sg0,ex0,ty0] at hw;simp[hw])|(· have hw:wholeR dc0 rdR s=((typedR l (typeR l (l.length+1)) (⟨0,false⟩:Pl)).1,0,0):=(by unfold wholeR;rw[hx];simp only[hpr,← hf9,h0,if_true]);simp only[dc0,sg0,ex0,ty0] at hw;simp[hw])|(· have hw:wholeR dc0 rdR s=(dc0,f9.1,f9.2):=(by unfold wholeR;rw[hx];simp only[hpr,← hf9,if_neg h0]);simp only[dc0,sg0,ex0,ty0] at hw;simp[hw])|skip
   ·
    refine sr fun Z z=>?_
    simp
    apply z
    refine cT (by simp[h0]) ?_
    refine sr fun Z z=>?_
    simp
    apply z
    refine AT_ret ?_
    simp[encD,dc0,sg0,ex0,ty0,Tryz.f12]
    all_goals first|(· simp[wholeR,hx])|(· have hw:wholeR dc0 rdR s=((methodR l (typeR l (l.length+1)) (exprR l (l.length+1)) (⟨0,false⟩:Pl)).1,0,0):=(by unfold wholeR;rw[hx];simp only[hpr,← hf9,h0]);simp only[dc0,sg0,ex0,ty0] at hw;simp[hw])|(· have hw:wholeR dc0 rdR s=((typedR l (typeR l (l.length+1)) (⟨0,false⟩:Pl)).1,0,0):=(by unfold wholeR;rw[hx];simp only[hpr,← hf9,h0]);simp only[dc0,sg0,ex0,ty0] at hw;simp[hw])|(· have hw:wholeR dc0 rdR s=(dc0,f9.1,f9.2):=(by unfold wholeR;rw[hx];simp only[hpr,← hf9,if_neg h0]);simp only[dc0,sg0,ex0,ty0] at hw;simp[hw])|skip

end Go.Proofs.YtfgafcjebfjepaaGreatDoor
end

section
/- Contracts: expressions handed out. -/
set_option linter.all false
set_option maxHeartbeats 1000000
set_option maxRecDepth 10000
namespace Go.Proofs.YtfgafcjebfjepaaGreatDoor
open Go Go.Pv
variable (g:Nat→Option (List AV)) (rnd:Bool)

end Go.Proofs.YtfgafcjebfjepaaGreatDoor
end

section
/- Contracts: declarations, compared. -/
set_option linter.all false
set_option maxHeartbeats 1000000
set_option maxRecDepth 10000
namespace Go.Proofs.YtfgafcjebfjepaaGreatDoor
open Go Go.Pv
variable (g:Nat→Option (List AV)) (rnd:Bool)

end Go.Proofs.YtfgafcjebfjepaaGreatDoor
end

section
/- Contracts: every. -/
set_option linter.all false
set_option maxHeartbeats 1000000
set_option maxRecDepth 10000
namespace Go.Proofs.YtfgafcjebfjepaaGreatDoor
open Go Go.Pv
variable (g:Nat→Option (List AV)) (rnd:Bool)

end Go.Proofs.YtfgafcjebfjepaaGreatDoor
end

import Derived.Test.YtfgafcjebfjepaaGreatDoorPvHa
import Derived.Test.YtfgafcjebfjepaaGreatDoorPvDc
set_option linter.all false
section
/- What is read without an error is right, and its tokens are those that were read. -/
namespace Go.Pv
open Go

def tx (t:Tk):Str:=t.2.1
def tks (k:List Kt):List Str:=k.map (·.2)
theorem tks_app (a b:List Kt):tks (a++b)=tks a++tks b:=List.map_append
theorem tks_cons (x:Kt) (a:List Kt):tks (x :: a)=x.2 :: tks a:=rfl
@[simp] theorem tks_nil:tks []=[]:=rfl
def Took (c c':Cur) (k:List Str):Prop:=c'.err=none→c.err=none∧c.l.map tx=k++c'.l.map tx
def Sh (n:Nat) (c:Cur):Prop:=c.err=none→c.l.length < n

theorem Took.refl (c:Cur):Took c c []:=fun h=>⟨h,rfl⟩
theorem Took.trans {a b c:Cur} {k l:List Str} (h:Took a b k) (h2:Took b c l):Took a c (k++l):=fun he=>by
 obtain ⟨h3,h4⟩:=h2 he
 obtain ⟨h5,h6⟩:=h h3
 exact ⟨h5,by rw[h6,h4,List.append_assoc]⟩
theorem Took.cast {a b:Cur} {k l:List Str} (h:Took a b k) (he:k=l):Took a b l:=he▸h
theorem took_adv {c:Cur} {s:Str} (h:c.next s=true):Took c c.adv [s]:=fun he=>by
 obtain ⟨h1,t,r,h2,-,h3⟩:=Cur.next_cons h
 refine ⟨h1,?_⟩
 rw[show c.adv.l=r by simp[Cur.adv,h2],h2]
 simp[tx,h3]
theorem Cur.fail_err (c:Cur):c.fail.err≠none:=fun h=>by
 have:=c.err_fail
 rw[h] at this;cases this
theorem must_next {c:Cur} {s:Str} (h:(c.must s).err=none):c.next s=true:=by
 unfold Cur.must at h
 cases hn:c.next s with
 | true=>rfl
 | false=>rw[hn,if_neg Bool.false_ne_true] at h;exact absurd h c.fail_err
theorem took_must (c:Cur) (s:Str):Took c (c.must s) [s]:=fun he=>by
 have hn:=must_next he
 have:=took_adv hn
 rw[Cur.must,if_pos hn] at he ⊢
 exact this he
theorem took_name (c:Cur):Took c c.name [c.nm]:=fun he=>by
 obtain ⟨h1,h2⟩:=Cur.name_ok he
 obtain ⟨-,t,r,h3,-,-⟩:=Cur.named_cons h2
 refine ⟨h1,?_⟩
 rw[Cur.name,if_pos h2,show c.adv.l=r by simp[Cur.adv,h3],Cur.nm,if_pos h2,Cur.first,h1,h3]
 simp[tx]
theorem Took.sh {n:Nat} {c c':Cur} {k:List Str} (h:Took c c' k) (hs:Sh n c):Sh n c':=fun he=>by
 obtain ⟨h1,h2⟩:=h he
 have h3:=hs h1
 have h4:=congrArg List.length h2
 rw[List.length_append,List.length_map,List.length_map] at h4
 omega
theorem Took.sh1 {n:Nat} {c c':Cur} {s:Str} {k:List Str} (h:Took c c' (s :: k)) (hs:Sh (n+1) c):Sh n c':=fun he=>by
 obtain ⟨h1,h2⟩:=h he
 have h3:=hs h1
 have h4:=congrArg List.length h2
 rw[List.length_append,List.length_cons,List.length_map,List.length_map] at h4
 omega
theorem Sh.mono {n m:Nat} {c:Cur} (h:Sh n c) (hm:n≤m):Sh m c:=fun he=>Nat.lt_of_lt_of_le (h he) hm

section
variable {α:Type} {rd:Cur→α×Cur} {tk:α→List Kt} {n:Nat}
theorem loop_tk (h:∀ c,Sh n c→Took c (rd c).2 (tks (tk (rd c).1))):∀ (m:Nat) (c:Cur),Sh n c→Took c (loopC rd m c).2 (tks (tailK ((loopC rd m c).1.map tk)))
 | 0,c,_=>Took.refl c
 | m+1,c,hs=>by
  rw[loopC]
  cases hn:c.next [44] with
  | false=>exact Took.refl c
  | true=>
   have t1:=took_adv hn
   have t2:=h c.adv (t1.sh hs)
   have t3:=loop_tk h m (rd c.adv).2 (t2.sh (t1.sh hs))
   exact ((t1.trans t2).trans t3).cast (by simp[tailK,tks_app,tks_cons,sgn])
theorem list_tk (h:∀ c,Sh n c→Took c (rd c).2 (tks (tk (rd c).1))) (c:Cur) (hs:Sh n c):Took c (listC rd c).2 (tks (commaK ((listC rd c).1.map tk))):=by
 have t1:=h c hs
 have t2:=loop_tk h (rd c).2.l.length (rd c).2 (t1.sh hs)
 exact (t1.trans t2).cast (by simp[listC,commaK,tks_app])
end
theorem targs_tk {rd:Cur→Ty×Cur} {n:Nat} (h:∀ c,Sh n c→Took c (rd c).2 (tks (toksT (rd c).1))) (c:Cur) (hs:Sh n c):Took c (targsC rd c).2 (tks (brK ((targsC rd c).1.map toksT))):=by
 unfold targsC
 cases hn:c.next [91] with
 | false=>exact Took.refl c
 | true=>
  have t1:=took_adv hn
  have t2:=list_tk h c.adv (t1.sh hs)
  have t3:=took_must (listC rd c.adv).2 [93]
  exact ((t1.trans t2).trans t3).cast (by simp[listC,brK,tks_app,tks_cons,sgn])
theorem type_tk:∀ (n:Nat) (c:Cur),Sh n c→Took c (typeC n c).2 (tks (toksT (typeC n c).1))
 | 0,c,hs=>fun he=>absurd (hs he) (Nat.not_lt_zero _)
 | n+1,c,hs=>by
  have t1:=took_name c
  have t2:=targs_tk (type_tk n) c.name (t1.sh1 hs)
  refine (t1.trans t2).cast ?_
  rw[typeC,toksT_mk,tks_cons];rfl
theorem args_tk {rd:Cur→Exp×Cur} {n:Nat} (h:∀ c,Sh n c→Took c (rd c).2 (tks (toksE (rd c).1))) (e:Str) (c:Cur) (hs:Sh n c):Took c (argsC rd e c).2 (tks (commaK ((argsC rd e c).1.map toksE))++[e]):=by
 unfold argsC
 cases hn:c.next e with
 | true=>exact took_must c e
 | false=>exact (list_tk h c hs).trans (took_must _ e)
theorem sh_adv {n:Nat} {c:Cur} {s:Str} (h:c.next s=true) (hs:Sh n c):Sh n c.adv:=(took_adv h).sh hs
theorem rest_tk {q:Nat} (hx:∀ c,Sh q c→Took c (exprC q c).2 (tks (toksE (exprC q c).1))) (e:Exp) (c:Cur) (hs:Sh q c):∃ k,Took c (restC (typeC q) (exprC q) e c).2 k∧tks (toksE (restC (typeC q) (exprC q) e c).1)=tks (toksE e)++[46] :: k:=by
 unfold restC
 cases h40:c.next [40] with
 | true=>
  have t1:=took_adv h40
  have t2:=type_tk q c.adv (t1.sh hs)
  have t3:=took_must (typeC q c.adv).2 [41]
  refine ⟨_,(t1.trans t2).trans t3,?_⟩
  rw[if_pos rfl,toksE_5]
  simp[tks_app,tks_cons,sgn]
 | false=>
  have t1:=took_name c
  cases hq:(!c.name.next [91]&&!c.name.next [40]) with
  | true=>
   refine ⟨_,t1,?_⟩
   simp only[Bool.false_eq_true,if_false,if_true]
   rw[toksE_4]
   simp[tks_app,tks_cons,sgn]
  | false=>
   have t2:=targs_tk (type_tk q) c.name (t1.sh hs)
   have t3:=took_must (targsC (typeC q) c.name).2 [40]
   have t4:=args_tk hx [41] _ (t3.sh (t2.sh (t1.sh hs)))
   refine ⟨_,((t1.trans t2).trans t3).trans t4,?_⟩
   simp only[Bool.false_eq_true,if_false]
   rw[toksE_2]
   simp[tks_app,tks_cons,sgn]
theorem dots_tk {q:Nat} (hx:∀ c,Sh q c→Took c (exprC q c).2 (tks (toksE (exprC q c).1))):∀ (m:Nat) (e:Exp) (c:Cur),Sh q c→∃ k,Took c (dotsC (restC (typeC q) (exprC q)) m e c).2 k∧tks (toksE (dotsC (restC (typeC q) (exprC q)) m e c).1)=tks (toksE e)++k
 | 0,e,c,_=>⟨[],Took.refl c,by simp[dotsC]⟩
 | m+1,e,c,hs=>by
  rw[dotsC]
  cases h46:c.next [46] with
  | false=>exact ⟨[],Took.refl c,by simp⟩
  | true=>
   have t1:=took_adv h46
   obtain ⟨k,t2,e2⟩:=rest_tk hx e c.adv (t1.sh hs)
   obtain ⟨l,t3,e3⟩:=dots_tk hx m (restC (typeC q) (exprC q) e c.adv).1 (restC (typeC q) (exprC q) e c.adv).2 (t2.sh (t1.sh hs))
   refine ⟨_,(t1.trans t2).trans t3,?_⟩
   rw[if_pos rfl,e3,e2]
   simp
theorem base_tk {q:Nat} (hx:∀ c,Sh q c→Took c (exprC q c).2 (tks (toksE (exprC q c).1))) (c:Cur) (hs:Sh (q+1) c):∃ k,Took c (baseC (typeC q) (exprC q) c).2 (c.nm :: k)∧tks (toksE (baseC (typeC q) (exprC q) c).1)=c.nm :: k:=by
 unfold baseC
 have t1:=took_name c
 cases hq:(c.name.next [91] || c.name.next [123]) with
 | true=>
  have s1:=t1.sh1 hs
  have t2:=targs_tk (type_tk q) c.name s1
  have t3:=took_must (targsC (typeC q) c.name).2 [123]
  have t4:=args_tk hx [125] _ (t3.sh (t2.sh s1))
  refine ⟨tks (brK ((targsC (typeC q) c.name).1.map toksT))++[[123]]++(tks (commaK ((argsC (exprC q) [125] ((targsC (typeC q) c.name).2.must [123])).1.map toksE))++[[125]]),(((t1.trans t2).trans t3).trans t4).cast (by simp),?_⟩
  simp only[if_true]
  rw[toksE_3,toksT_mk,List.cons_append,tks_cons]
  simp[tks_app,tks_cons,sgn]
 | false=>
  refine ⟨[],t1,?_⟩
  simp only[Bool.false_eq_true,if_false]
  rw[toksE_1];rfl
theorem expr_tk:∀ (n:Nat) (c:Cur),Sh n c→Took c (exprC n c).2 (tks (toksE (exprC n c).1))
 | 0,c,hs=>fun he=>absurd (hs he) (Nat.not_lt_zero _)
 | q+1,c,hs=>by
  obtain ⟨k,t1,e1⟩:=base_tk (expr_tk q) c hs
  obtain ⟨l,t2,e2⟩:=dots_tk (expr_tk q) (baseC (typeC q) (exprC q) c).2.l.length (baseC (typeC q) (exprC q) c).1 _ (t1.sh1 hs)
  rw[exprC]
  refine (t1.trans t2).cast ?_
  rw[e2,e1]

section
variable {rT:Cur→Ty×Cur} {rE:Cur→Exp×Cur} {N:Nat} (hT:∀ c,Sh N c→Took c (rT c).2 (tks (toksT (rT c).1)))
include hT
theorem item_tk (c:Cur) (hs:Sh N c):Took c (itemC rT c).2 (tks (toksF (itemC rT c).1)):=by
 have t1:=took_name c
 exact (t1.trans (hT c.name (t1.sh hs))).cast rfl
theorem pairs_tk (e:Str):∀ (m:Nat) (c:Cur),Sh N c→Sh m c→Took c (pairsC rT e m c).2 (tks (commaK ((pairsC rT e m c).1.map toksF))++[e])∧((pairsC rT e m c).2.err=none→(pairsC rT e m c).1≠[])
 | 0,c,_,hm=>⟨fun he=>absurd (hm he) (Nat.not_lt_zero _),fun he=>absurd (hm he) (Nat.not_lt_zero _)⟩
 | m+1,c,hs,hm=>by
  have t1:=item_tk hT c hs
  rw[pairsC]
  cases h44:(itemC rT c).2.next [44] with
  | true=>
   have t2:=took_adv h44
   have t12:=t1.trans t2
   obtain ⟨t3,n3⟩:=pairs_tk e m (itemC rT c).2.adv (t12.sh hs) (Took.sh1 (s:=(itemC rT c).1.name) (k:=tks (toksT (itemC rT c).1.ty)++[[44]]) (t12.cast rfl) hm)
   simp only[if_true]
   refine ⟨fun he=>?_,fun _=>by simp⟩
   have hne:=n3 he
   refine (t12.trans t3).cast ?_ he
   cases hl:(pairsC rT e m (itemC rT c).2.adv).1 with
   | nil=>exact absurd hl hne
   | cons x r=>simp[commaK,tailK,tks_app,tks_cons,sgn]
  | false=>
   simp only[Bool.false_eq_true,if_false]
   exact ⟨(t1.trans (took_must _ e)).cast (by simp[commaK,tailK]),fun _=>by simp⟩
theorem formals_tk (c:Cur) (hs:Sh N c):Took c (formalsC rT c).2 (tks (brK ((formalsC rT c).1.map toksF))):=by
 unfold formalsC
 cases h:c.next [91] with
 | false=>exact Took.refl c
 | true=>
  simp only[if_true]
  have t1:=took_adv h
  obtain ⟨t2,n2⟩:=pairs_tk hT [93] (c.adv.l.length+1) c.adv (t1.sh hs) (fun _=>Nat.lt_succ_self _)
  intro he
  refine (t1.trans t2).cast ?_ he
  have hne:(pairsF rT [93] c.adv).1≠[]:=n2 he
  unfold pairsF at hne ⊢
  cases hl:(pairsC rT [93] (c.adv.l.length+1) c.adv).1 with
  | nil=>exact absurd hl hne
  | cons x r=>simp[brK,tks_app,tks_cons,sgn]
theorem par_tk (c:Cur) (hs:Sh N c):Took c (parC rT c).2 ([40] :: (tks (commaK ((parC rT c).1.map toksF))++[[41]])):=by
 have t0:=took_must c [40]
 unfold parC
 cases h:(c.must [40]).next [41] with
 | true=>exact (t0.trans (took_adv h)).cast rfl
 | false=>
  obtain ⟨t2,-⟩:=pairs_tk hT [41] ((c.must [40]).l.length+1) (c.must [40]) (t0.sh hs) (fun _=>Nat.lt_succ_self _)
  exact (t0.trans t2).cast rfl
theorem sig_tk (c:Cur) (hs:Sh N c):Took c (sigC rT c).2 (tks (toksG (sigC rT c).1)):=by
 have t1:=took_name c
 have t2:=formals_tk hT c.name (t1.sh hs)
 have t3:=par_tk hT _ (t2.sh (t1.sh hs))
 have t4:=hT _ (t3.sh (t2.sh (t1.sh hs)))
 refine (((t1.trans t2).trans t3).trans t4).cast ?_
 simp[sigC,toksG,tks_app,tks_cons,sgn]
omit hT in
theorem until_tk {α:Type} {rd:Cur→α×Cur} {tk:α→List Kt} (h:∀ c,Sh N c→Took c (rd c).2 (tks (tk (rd c).1))):∀ (m:Nat) (c:Cur),Sh N c→Sh m c→Took c (untilC rd m c).2 (tks (semK tk (untilC rd m c).1)++[[125]])
 | 0,c,_,hm=>fun he=>absurd (hm he) (Nat.not_lt_zero _)
 | m+1,c,hs,hm=>by
  rw[untilC]
  cases h1:c.next [125] with
  | true=>exact (took_adv h1).cast (by simp[semK])
  | false=>
   simp only[Bool.false_eq_true,if_false]
   cases h2:c.err.isSome with
   | true=>intro he;rw[if_pos rfl] at he;rw[show c.err=none from he] at h2;cases h2
   | false=>
    simp only[Bool.false_eq_true,if_false]
    have t1:=h c hs
    have t2:=took_must (rd c).2 [59]
    have t12:=t1.trans t2
    have hsh:Sh m ((rd c).2.must [59]):=fun he=>by
     obtain ⟨q1,q2⟩:=t12 he
     have q3:=hm q1
     have q4:=congrArg List.length q2
     simp only[List.length_append,List.length_map,List.length_cons,List.length_nil] at q4
     omega
    have t3:=until_tk h m _ (t12.sh hs) hsh
    exact (t12.trans t3).cast (by simp[semK,tks_app,tks_cons,sgn])
theorem typed_tk (c:Cur) (hs:Sh N c):∃ k,tks (toksD (typedC rT c).1)=wType :: k∧Took c (typedC rT c).2 k:=by
 have t1:=took_name c
 have t2:=formals_tk hT c.name (t1.sh hs)
 have t12:=t1.trans t2
 have s2:=t12.sh hs
 unfold typedC
 cases h:(formalsC rT c.name).2.next wInterface with
 | true=>
  have t3:=(took_adv h).trans (took_must _ [123])
  have t4:=until_tk (sig_tk hT) _ ((formalsC rT c.name).2.adv.must [123]) (t3.sh s2) (fun _=>Nat.lt_succ_self _)
  refine ⟨_,?_,((t12.trans t3).trans t4).trans (took_must _ [59])⟩
  simp only[if_true]
  rw[toksD,if_neg (by simp),if_pos (by simp),tks_cons]
  simp[tks_app,tks_cons,sgn,untilF]
 | false=>
  have t3:=(took_must (formalsC rT c.name).2 wStruct).trans (took_must _ [123])
  have t4:=until_tk (item_tk hT) _ (((formalsC rT c.name).2.must wStruct).must [123]) (t3.sh s2) (fun _=>Nat.lt_succ_self _)
  refine ⟨_,?_,((t12.trans t3).trans t4).trans (took_must _ [59])⟩
  simp only[Bool.false_eq_true,if_false]
  rw[toksD,if_neg (by simp),if_neg (by simp),tks_cons]
  simp[tks_app,tks_cons,sgn,untilF,allC_cons];rfl
omit hT in
theorem vars_tk:∀ (m:Nat) (c:Cur),Sh m c→Took c (varsC m c).2 (tks (commaK ((varsC m c).1.map varK)))∧((varsC m c).2.err=none→(varsC m c).1≠[])
 | 0,c,hm=>⟨fun he=>absurd (hm he) (Nat.not_lt_zero _),fun he=>absurd (hm he) (Nat.not_lt_zero _)⟩
 | m+1,c,hm=>by
  have t1:=took_name c
  rw[varsC]
  cases h44:c.name.next [44] with
  | true=>
   have t12:=t1.trans (took_adv h44)
   obtain ⟨t3,n3⟩:=vars_tk m c.name.adv (Took.sh1 (s:=c.nm) (k:=[[44]]) t12 hm)
   simp only[if_true]
   refine ⟨fun he=>?_,fun _=>by simp⟩
   have hne:=n3 he
   refine (t12.trans t3).cast ?_ he
   cases hl:(varsC m c.name.adv).1 with
   | nil=>exact absurd hl hne
   | cons x r=>simp[commaK,tailK,tks_cons,sgn,varK]
  | false=>
   simp only[Bool.false_eq_true,if_false]
   exact ⟨t1.cast (by simp[commaK,tailK,varK,tks_cons]),fun _=>by simp⟩
omit hT in
theorem recv_tk (c:Cur):Took c (recvC c).2 (tks (brK ((recvC c).1.map varK))):=by
 unfold recvC
 cases h:c.next [91] with
 | false=>exact Took.refl c
 | true=>
  simp only[if_true]
  have t1:=took_adv h
  obtain ⟨t2,n2⟩:=vars_tk (c.l.length+1) c.adv (fun _=>by have:=c.adv_suf.length_le;omega)
  intro he
  refine ((t1.trans t2).trans (took_must _ [93])).cast ?_ he
  have hne:=n2 (Cur.must_ok he)
  cases hl:(varsC (c.l.length+1) c.adv).1 with
  | nil=>exact absurd hl hne
  | cons x r=>simp[brK,tks_app,tks_cons,sgn]
variable (hE:∀ c,Sh N c→Took c (rE c).2 (tks (toksE (rE c).1)))
include hE
theorem method_tk (c:Cur) (hs:Sh N c):∃ k,tks (toksD (methodC rT rE c).1)=wFunc :: k∧Took c (methodC rT rE c).2 k:=by
 have t1:=((took_must c [40]).trans (took_name _)).trans (took_name _)
 have t2:=t1.trans (recv_tk (c.must [40]).name.name)
 have t3:=t2.trans (took_must _ [41])
 have t4:=t3.trans (sig_tk hT _ (t3.sh hs))
 have t5:=(t4.trans (took_must _ [123])).trans (took_must _ wReturn)
 have t6:=t5.trans (hE _ (t5.sh hs))
 refine ⟨_,?_,(t6.trans (took_must _ [125])).trans (took_must _ [59])⟩
 simp only[methodC]
 rw[toksD,if_pos (by simp),tks_cons]
 simp[tks_app,tks_cons,sgn,allC_cons];rfl
theorem decls_tk:∀ (m:Nat) (c:Cur),Sh N c→Sh m c→Took c (declsC rT rE m c).2 (tks ((declsC rT rE m c).1.flatMap toksD)++[wFunc])
 | 0,c,_,hm=>fun he=>absurd (hm he) (Nat.not_lt_zero _)
 | m+1,c,hs,hm=>by
  rw[declsC]
  cases h1:c.next wType with
  | true=>
   simp only[if_true]
   have t1:=took_adv h1
   obtain ⟨k,e2,t2⟩:=typed_tk hT c.adv (t1.sh hs)
   have t12:=t1.trans t2
   have t3:=decls_tk m _ (t12.sh hs) (Took.sh1 (s:=wType) (k:=k) (t12.cast rfl) hm)
   exact (t12.trans t3).cast (by simp[tks_app,e2])
  | false=>
   simp only[Bool.false_eq_true,if_false]
   cases h2:c.next wFunc with
   | false=>intro he;exact absurd he c.fail_err
   | true=>
    simp only[if_true]
    have t1:=took_adv h2
    cases h3:c.adv.next wMain with
    | true=>exact t1.cast rfl
    | false=>
     simp only[Bool.false_eq_true,if_false]
     obtain ⟨k,e2,t2⟩:=method_tk hT hE c.adv (t1.sh hs)
     have t12:=t1.trans t2
     have t3:=decls_tk m _ (t12.sh hs) (Took.sh1 (s:=wFunc) (k:=k) (t12.cast rfl) hm)
     exact (t12.trans t3).cast (by simp[tks_app,e2])
theorem program_tk (c:Cur) (hs:Sh N c):Took c (programC rT rE c).2 (tks (toksP (programC rT rE c).1)):=by
 have t1:=((took_must c wPackage).trans (took_must _ wMain)).trans (took_must _ [59])
 have t2:=t1.trans (decls_tk hT hE _ _ (t1.sh hs) (fun _=>Nat.lt_succ_self _))
 have t3:=((((((t2.trans (took_must _ wMain)).trans (took_must _ [40])).trans (took_must _ [41])).trans (took_must _ [123])).trans (took_must _ [95])).trans (took_must _ [61]))
 have t4:=(t3.trans (hE _ (t3.sh hs))).trans (took_must _ [125])
 refine t4.cast ?_
 simp[programC,toksP,headK,mainK,tks_app,tks_cons,sgn,allC_cons]
 rfl
end

section
variable {rT:Cur→Ty×Cur} {rE:Cur→Exp×Cur} {N:Nat} (hT:∀ c,Sh N c→Took c (rT c).2 (tks (toksT (rT c).1))) (hTr:∀ c,Sh N c→(rT c).2.err=none→rightT (rT c).1=true)
include hT hTr
theorem item_ok (c:Cur) (hs:Sh N c) (he:(itemC rT c).2.err=none):rightF (itemC rT c).1=true:=by
 have t1:=took_name c
 have h1:=hTr c.name (t1.sh hs) he
 have h2:=(hT c.name (t1.sh hs) he).1
 have h3:=Cur.nm_ok (Cur.name_ok h2).2
 simp only[rightF,itemC,h1,h3,Bool.and_self]
theorem pairs_ok (e:Str):∀ (m:Nat) (c:Cur),Sh N c→Sh m c→(pairsC rT e m c).2.err=none→∀ f∈(pairsC rT e m c).1,rightF f=true
 | 0,c,_,hm,he=>absurd (hm he) (Nat.not_lt_zero _)
 | m+1,c,hs,hm,he=>by
  have t1:=item_tk hT c hs
  rw[pairsC] at he ⊢
  cases h44:(itemC rT c).2.next [44] with
  | true=>
   rw[h44] at he
   simp only[if_true] at he ⊢
   have t12:=t1.trans (took_adv h44)
   have hm2:=Took.sh1 (s:=(itemC rT c).1.name) (k:=tks (toksT (itemC rT c).1.ty)++[[44]]) (t12.cast rfl) hm
   have h3:=pairs_ok e m _ (t12.sh hs) hm2 he
   intro f hf
   rcases List.mem_cons.1 hf with rfl|hf
   ·exact item_ok hT hTr c hs (Cur.next_cons h44).1
   ·exact h3 f hf
  | false=>
   rw[h44] at he
   simp only[Bool.false_eq_true,if_false] at he ⊢
   intro f hf
   rw[List.mem_singleton] at hf
   subst hf
   exact item_ok hT hTr c hs (Cur.must_ok he)
theorem formals_ok (c:Cur) (hs:Sh N c) (he:(formalsC rT c).2.err=none):(formalsC rT c).1.all rightF=true:=by
 unfold formalsC at he ⊢
 cases h:c.next [91] with
 | false=>rfl
 | true=>
  rw[h] at he
  simp only[if_true] at he ⊢
  exact List.all_eq_true.2 (pairs_ok hT hTr [93] _ c.adv (sh_adv h hs) (fun _=>Nat.lt_succ_self _) he)
theorem par_ok (c:Cur) (hs:Sh N c) (he:(parC rT c).2.err=none):(parC rT c).1.all rightF=true:=by
 unfold parC at he ⊢
 cases h:(c.must [40]).next [41] with
 | true=>rfl
 | false=>
  rw[h] at he
  simp only[Bool.false_eq_true,if_false] at he ⊢
  exact List.all_eq_true.2 (pairs_ok hT hTr [41] _ _ ((took_must c [40]).sh hs) (fun _=>Nat.lt_succ_self _) he)
theorem sig_ok (c:Cur) (hs:Sh N c) (he:(sigC rT c).2.err=none):rightG (sigC rT c).1=true:=by
 have t1:=took_name c
 have t2:=formals_tk hT c.name (t1.sh hs)
 have t3:=par_tk hT _ (t2.sh (t1.sh hs))
 have s3:=t3.sh (t2.sh (t1.sh hs))
 have h4:=hTr _ s3 he
 have e3:=(hT _ s3 he).1
 have h3:=par_ok hT hTr _ (t2.sh (t1.sh hs)) e3
 have e2:=(t3 e3).1
 have h2:=formals_ok hT hTr _ (t1.sh hs) e2
 have h1:=Cur.nm_ok (Cur.name_ok (t2 e2).1).2
 simp only[rightG,sigC,h1,h2,h3,h4,Bool.and_self]
omit hT hTr in
theorem until_ok {α:Type} {rd:Cur→α×Cur} {tk:α→List Kt} {ok:α→Bool} (h:∀ c,Sh N c→Took c (rd c).2 (tks (tk (rd c).1))) (hr:∀ c,Sh N c→(rd c).2.err=none→ok (rd c).1=true):∀ (m:Nat) (c:Cur),Sh N c→Sh m c→(untilC rd m c).2.err=none→(untilC rd m c).1.all ok=true
 | 0,c,_,hm,he=>absurd (hm he) (Nat.not_lt_zero _)
 | m+1,c,hs,hm,he=>by
  rw[untilC] at he ⊢
  cases h1:c.next [125] with
  | true=>rfl
  | false=>
   rw[h1] at he
   simp only[Bool.false_eq_true,if_false] at he ⊢
   cases h2:c.err.isSome with
   | true=>rfl
   | false=>
    rw[h2] at he
    simp only[Bool.false_eq_true,if_false] at he ⊢
    have t12:=(h c hs).trans (took_must (rd c).2 [59])
    have hsh:Sh m ((rd c).2.must [59]):=fun he=>by
     obtain ⟨q1,q2⟩:=t12 he
     have q3:=hm q1
     have q4:=congrArg List.length q2
     simp only[List.length_append,List.length_map,List.length_cons,List.length_nil] at q4
     omega
    have h3:=until_ok h hr m _ (t12.sh hs) hsh he
    have e3:=(until_tk h m _ (t12.sh hs) hsh he).1
    rw[List.all_cons,h3,hr c hs (Cur.must_ok e3)];rfl
theorem typed_ok (c:Cur) (hs:Sh N c) (he:(typedC rT c).2.err=none):rightD (typedC rT c).1=true:=by
 have t1:=took_name c
 have t2:=formals_tk hT c.name (t1.sh hs)
 have t12:=t1.trans t2
 have s2:=t12.sh hs
 rw[rightD_eq]
 unfold typedC at he ⊢
 cases h:(formalsC rT c.name).2.next wInterface with
 | true=>
  rw[h] at he
  simp only[if_true] at he ⊢
  have t3:=(took_adv h).trans (took_must _ [123])
  have he2:=Cur.must_ok he
  have h3:=until_ok (sig_tk hT) (sig_ok hT hTr) _ ((formalsC rT c.name).2.adv.must [123]) (t3.sh s2) (fun _=>Nat.lt_succ_self _) he2
  have e3:=(Cur.next_cons h).1
  have h2:=formals_ok hT hTr _ (t1.sh hs) e3
  have h1:=Cur.nm_ok (Cur.name_ok (t2 e3).1).2
  have hq:eqG false sg0 sg0=true:=by decide
  have hq2:sameE ex0 ex0=true:=sameE_refl _
  unfold untilF
  simp[rightDR,h1,h2,h3,hq,hq2]
 | false=>
  rw[h] at he
  simp only[Bool.false_eq_true,if_false] at he ⊢
  have t3:=(took_must (formalsC rT c.name).2 wStruct).trans (took_must _ [123])
  have he2:=Cur.must_ok he
  have h3:=until_ok (item_tk hT) (item_ok hT hTr) _ (((formalsC rT c.name).2.must wStruct).must [123]) (t3.sh s2) (fun _=>Nat.lt_succ_self _) he2
  have e4:=(until_tk (item_tk hT) _ (((formalsC rT c.name).2.must wStruct).must [123]) (t3.sh s2) (fun _=>Nat.lt_succ_self _) he2).1
  have e3:=(t3 e4).1
  have h2:=formals_ok hT hTr _ (t1.sh hs) e3
  have h1:=Cur.nm_ok (Cur.name_ok (t2 e3).1).2
  have hq:eqG false sg0 sg0=true:=by decide
  have hq2:sameE ex0 ex0=true:=sameE_refl _
  unfold untilF
  rw[allC_cons,allC_cons]
  show rightDR ⟨1,_,_,(untilC (itemC rT) _ _).1,_,_,_,_,_,_⟩=true
  simp only[rightDR,h1,h2,hq,hq2]
  rw[show (untilC (itemC rT) ((allC [] (((formalsC rT c.name).2.must wStruct).must [123])).l.length+1) (allC [] (((formalsC rT c.name).2.must wStruct).must [123]))).1.all rightF=true from h3]
  simp
omit hT hTr in
theorem vars_ok:∀ (m:Nat) (c:Cur),Sh m c→(varsC m c).2.err=none→(varsC m c).1.all isName=true
 | 0,c,hm,he=>absurd (hm he) (Nat.not_lt_zero _)
 | m+1,c,hm,he=>by
  have t1:=took_name c
  rw[varsC] at he ⊢
  cases h44:c.name.next [44] with
  | true=>
   rw[h44] at he
   simp only[if_true] at he ⊢
   have t12:=t1.trans (took_adv h44)
   have h3:=vars_ok m c.name.adv (Took.sh1 (s:=c.nm) (k:=[[44]]) t12 hm) he
   rw[List.all_cons,h3,Cur.nm_ok (Cur.name_ok (Cur.next_cons h44).1).2];rfl
  | false=>
   rw[h44] at he
   simp only[Bool.false_eq_true,if_false] at he ⊢
   simp[Cur.nm_ok (Cur.name_ok he).2]
omit hT hTr in
theorem recv_ok (c:Cur) (he:(recvC c).2.err=none):(recvC c).1.all isName=true:=by
 unfold recvC at he ⊢
 cases h:c.next [91] with
 | false=>rfl
 | true=>
  rw[h] at he
  simp only[if_true] at he ⊢
  exact vars_ok _ c.adv (fun _=>by have:=c.adv_suf.length_le;omega) (Cur.must_ok he)
variable (hE:∀ c,Sh N c→Took c (rE c).2 (tks (toksE (rE c).1))) (hEr:∀ c,Sh N c→(rE c).2.err=none→rightE (rE c).1=true)
include hE hEr
theorem method_ok (c:Cur) (hs:Sh N c) (he:(methodC rT rE c).2.err=none):rightD (methodC rT rE c).1=true:=by
 have t0:=took_must c [40]
 have t1:=(t0.trans (took_name _)).trans (took_name _)
 have t2:=t1.trans (recv_tk (c.must [40]).name.name)
 have t3:=t2.trans (took_must _ [41])
 have t4:=sig_tk hT _ (t3.sh hs)
 have t5:=((t3.trans t4).trans (took_must _ [123])).trans (took_must _ wReturn)
 have e6:(rE (((sigC rT ((recvC (c.must [40]).name.name).2.must [41])).2.must [123]).must wReturn)).2.err=none:=Cur.must_ok (Cur.must_ok he)
 have h6:=hEr _ (t5.sh hs) e6
 have e5:=(hE _ (t5.sh hs) e6).1
 have e4:=Cur.must_ok (Cur.must_ok e5)
 have h4:=sig_ok hT hTr _ (t3.sh hs) e4
 have e3:=Cur.must_ok (t4 e4).1
 have h3:=recv_ok _ e3
 have e2:=(recv_tk _ e3).1
 have h2:=Cur.name_ok e2
 have h1:=Cur.name_ok h2.1
 rw[rightD_eq]
 simp only[methodC,rightDR]
 rw[Cur.nm_ok h2.2,Cur.nm_ok h1.2,h3,h4]
 rw[show rightE (rE (allC [[123],wReturn] (sigC rT ((recvC (c.must [40]).name.name).2.must [41])).2)).1=true from h6]
 simp
theorem decls_ok:∀ (m:Nat) (c:Cur),Sh N c→Sh m c→(declsC rT rE m c).2.err=none→(declsC rT rE m c).1.all rightD=true
 | 0,c,_,hm,he=>absurd (hm he) (Nat.not_lt_zero _)
 | m+1,c,hs,hm,he=>by
  rw[declsC] at he ⊢
  cases h1:c.next wType with
  | true=>
   rw[h1] at he
   simp only[if_true] at he ⊢
   have t1:=took_adv h1
   obtain ⟨k,e2,t2⟩:=typed_tk hT c.adv (t1.sh hs)
   have t12:=t1.trans t2
   have sm:=Took.sh1 (s:=wType) (k:=k) (t12.cast rfl) hm
   have h3:=decls_ok m _ (t12.sh hs) sm he
   have e3:=(decls_tk hT hE m _ (t12.sh hs) sm he).1
   rw[List.all_cons,h3,typed_ok hT hTr c.adv (t1.sh hs) e3];rfl
  | false=>
   rw[h1] at he
   simp only[Bool.false_eq_true,if_false] at he ⊢
   cases h2:c.next wFunc with
   | false=>rfl
   | true=>
    rw[h2] at he
    simp only[if_true] at he ⊢
    have t1:=took_adv h2
    cases h3:c.adv.next wMain with
    | true=>rfl
    | false=>
     rw[h3] at he
     simp only[Bool.false_eq_true,if_false] at he ⊢
     obtain ⟨k,e2,t2⟩:=method_tk hT hE c.adv (t1.sh hs)
     have t12:=t1.trans t2
     have sm:=Took.sh1 (s:=wFunc) (k:=k) (t12.cast rfl) hm
     have h4:=decls_ok m _ (t12.sh hs) sm he
     have e3:=(decls_tk hT hE m _ (t12.sh hs) sm he).1
     rw[List.all_cons,h4,method_ok hT hTr hE hEr c.adv (t1.sh hs) e3];rfl
theorem program_ok (c:Cur) (hs:Sh N c) (he:(programC rT rE c).2.err=none):rightPg (programC rT rE c).1=true:=by
 have t1:=((took_must c wPackage).trans (took_must _ wMain)).trans (took_must _ [59])
 have t2:=t1.trans (decls_tk hT hE _ _ (t1.sh hs) (fun _=>Nat.lt_succ_self _))
 have t3:=((((((t2.trans (took_must _ wMain)).trans (took_must _ [40])).trans (took_must _ [41])).trans (took_must _ [123])).trans (took_must _ [95])).trans (took_must _ [61]))
 have e4:=Cur.must_ok he
 have h4:=hEr _ (t3.sh hs) e4
 have e3:=(hE _ (t3.sh hs) e4).1
 have e2:=Cur.must_ok (Cur.must_ok (Cur.must_ok (Cur.must_ok (Cur.must_ok (Cur.must_ok e3)))))
 have h2:=decls_ok hT hTr hE hEr _ _ (t1.sh hs) (fun _=>Nat.lt_succ_self _) e2
 simp only[rightPg,programC,Bool.and_eq_true]
 exact ⟨h2,h4⟩
end
theorem type_okS (n:Nat) (c:Cur) (hs:Sh n c) (he:(typeC n c).2.err=none):rightT (typeC n c).1=true:=
 typeC_ok n c (hs (type_tk n c hs he).1) he
theorem expr_okS (n:Nat) (c:Cur) (hs:Sh n c) (he:(exprC n c).2.err=none):rightE (exprC n c).1=true:=
 exprC_ok n c (hs (expr_tk n c hs he).1) he

theorem TkL_suf {a b:List Kt} (h:TkL a) (hs:b <:+ a) {x:Str} {r:List Kt} (hb:b=(3,x) :: r):b=[(3,[])]:=by
 induction h with
 | nil=>
  rcases List.suffix_cons_iff.1 hs with h|h
  ·exact h
  ·rw[List.suffix_nil] at h;rw[h] at hb;cases hb
 | word w l hw hl ih=>
  rcases List.suffix_cons_iff.1 hs with h|h
  ·rw[h] at hb;simp at hb
  ·exact ih h
 | sign c l hc hl ih=>
  rcases List.suffix_cons_iff.1 hs with h|h
  ·rw[h] at hb;simp at hb
  ·exact ih h
theorem TkL_tks {a b:List Kt} (h:TkL a) (h2:TkL b) (he:tks a=tks b):a=b:=by
 induction h generalizing b with
 | nil=>
  cases h2 with
  | nil=>rfl
  | word w l hw hl=>obtain ⟨c,r,rfl,-⟩:=hw;simp[tks] at he
  | sign c l hc hl=>simp[tks] at he
 | word w l hw hl ih=>
  obtain ⟨c,r,rfl,hc,-⟩:=hw
  cases h2 with
  | nil=>simp[tks] at he
  | word w' l' hw' hl'=>
   simp only[tks,List.map_cons,List.cons.injEq] at he
   rw[ih hl' he.2,he.1]
  | sign c' l' hc' hl'=>
   simp only[tks,List.map_cons,List.cons.injEq] at he
   obtain ⟨⟨rfl,-⟩,-⟩:=he
   exact absurd hc (sign_facts c hc').2.2
 | sign c l hc hl ih=>
  cases h2 with
  | nil=>simp[tks] at he
  | word w' l' hw' hl'=>
   obtain ⟨c',r',rfl,hc',-⟩:=hw'
   simp only[tks,List.map_cons,List.cons.injEq] at he
   obtain ⟨⟨rfl,-⟩,-⟩:=he
   exact absurd hc' (sign_facts c hc).2.2
  | sign c' l' hc' hl'=>
   simp only[tks,List.map_cons,List.cons.injEq] at he
   rw[ih hl' he.2,he.1.1]
theorem end_tx {l:List Tk} (h:TkL (l.map ktOf)) {c:Cur} (hs:c.l <:+ l) (hne:c.l≠[]) (he:(endC c).err=none):c.err=none∧c.l.map tx=[[]]:=by
 unfold endC at he
 cases hk:(c.first.1 != 3) with
 | true=>rw[hk,if_pos rfl] at he;exact absurd he c.fail_err
 | false=>
  rw[hk,if_neg Bool.false_ne_true] at he
  refine ⟨he,?_⟩
  have hk':c.first.1=3:=by simpa using hk
  unfold Cur.first at hk'
  rw[he] at hk'
  have hs2:c.l.map ktOf <:+ l.map ktOf:=hs.map ktOf
  cases hl:c.l with
  | nil=>exact absurd hl hne
  | cons t r=>
   rw[hl] at hk' hs2
   have h3:t.1=3:=hk'
   have:=TkL_suf h hs2 (x:=t.2.1) (r:=r.map ktOf) (by rw[List.map_cons];congr 1;rw[←h3];rfl)
   simp only[List.map_cons,List.cons.injEq,List.map_eq_nil_iff] at this
   obtain ⟨h4,rfl⟩:=this
   have h5:=congrArg Prod.snd h4
   simp only[List.map_cons,List.map_nil,List.cons.injEq,and_true]
   exact h5
theorem prog_fw {s:Str} {l:List Tk} {n:Nat} (h:lexT s=(some l,n)) (he:(endC (rdP l).2).err=none):rightPg (rdP l).1=true∧l.map ktOf=toksP (rdP l).1++[(3,[])]:=by
 have hT:=(lexT_some (lexT_bounds h).1 h).2.1
 have hr:=(prog_same (TkL_ends hT)).1
 have hne:(rdP l).2.l≠[]:=by
  rw[hr.l];intro h0
  have:=congrArg List.length h0
  rw[List.length_drop,List.length_nil] at this
  have:=hr.lt;omega
 have hsf:(rdP l).2.l <:+ l:=programC_suf (typeC_suf _) (exprC_suf _) ⟨l,none⟩
 obtain ⟨h1,h2⟩:=end_tx hT hsf hne he
 have hs:Sh (l.length+1) (⟨l,none⟩:Cur):=fun _=>Nat.lt_succ_self _
 have h3:=program_ok (N:=l.length+1) (type_tk _) (type_okS _) (expr_tk _) (expr_okS _) ⟨l,none⟩ hs h1
 have h4:=(program_tk (N:=l.length+1) (type_tk _) (expr_tk _) ⟨l,none⟩ hs h1).2
 refine ⟨h3,TkL_tks hT (tkK_TkL _ _ _ (Nat.le_refl _) (prog_toks (p:=(rdP l).1) h3)).1 ?_⟩
 have h5:(rdP l).2.l.map tx=[[]]:=h2
 have h6:l.map tx=tks (toksP (rdP l).1)++(rdP l).2.l.map tx:=h4
 have h7:tks (l.map ktOf)=l.map tx:=by rw[tks,List.map_map];rfl
 rw[h7,h6,h5,tks_app];rfl
theorem decl_fw {s:Str} {l:List Tk} {n:Nat} (h:lexT s=(some l,n)) (he:(endC (rdD l).2).err=none):rightD (rdD l).1=true∧l.map ktOf=toksD (rdD l).1++[(3,[])]:=by
 have hT:=(lexT_some (lexT_bounds h).1 h).2.1
 have hr:=(decl_same (TkL_ends hT)).1
 have hne:(rdD l).2.l≠[]:=by
  rw[hr.l];intro h0
  have:=congrArg List.length h0
  rw[List.length_drop,List.length_nil] at this
  have:=hr.lt;omega
 have hs:Sh (l.length+1) (⟨l,none⟩:Cur):=fun _=>Nat.lt_succ_self _
 have key:∀ d:Dc,∀ c':Cur,c'.l <:+ l→c'.l≠[]→(endC c').err=none→Took ⟨l,none⟩ c' (tks (toksD d))→rightD d=true→l.map ktOf=toksD d++[(3,[])]:=by
  intro d c' hsf hne he ht hd
  obtain ⟨h1,h2⟩:=end_tx hT hsf hne he
  have h6:l.map tx=tks (toksD d)++c'.l.map tx:=(ht h1).2
  have h7:tks (l.map ktOf)=l.map tx:=by rw[tks,List.map_map];rfl
  have h8:tkK (declT d)=some (toksD d++[(3,[])]):=by
   have:=BX_decl hd []
   rw[List.append_nil,tkK_nil] at this
   exact this
  refine TkL_tks hT (tkK_TkL _ _ _ (Nat.le_refl _) h8).1 ?_
  rw[h7,h6,h2,tks_app];rfl
 unfold rdD declC at he hne ⊢
 cases h1:(⟨l,none⟩:Cur).next wType with
 | true=>
  rw[h1] at he hne
  simp only[if_true] at he hne ⊢
  have t1:=took_adv h1
  obtain ⟨k,e2,t2⟩:=typed_tk (N:=l.length+1) (type_tk _) (Cur.adv ⟨l,none⟩) (t1.sh hs)
  have hsf:=(typedC_suf (typeC_suf (l.length+1)) (Cur.adv ⟨l,none⟩)).trans (Cur.adv_suf ⟨l,none⟩)
  have h3:=typed_ok (N:=l.length+1) (type_tk _) (type_okS _) (Cur.adv ⟨l,none⟩) (t1.sh hs) (end_tx hT hsf hne he).1
  exact ⟨h3,key _ _ hsf hne he ((t1.trans t2).cast (by rw[e2];rfl)) h3⟩
 | false=>
  rw[h1] at he hne
  simp only[Bool.false_eq_true,if_false] at he hne ⊢
  cases h2:(⟨l,none⟩:Cur).next wFunc with
  | false=>
   rw[h2] at he
   simp only[Bool.false_eq_true,if_false] at he
   exact absurd (end_tx hT (Cur.fail_suf ⟨l,none⟩) (by rw[h2] at hne;simpa using hne) he).1 (Cur.fail_err _)
  | true=>
   rw[h2] at he hne
   simp only[if_true] at he hne ⊢
   have t1:=took_adv h2
   obtain ⟨k,e2,t2⟩:=method_tk (N:=l.length+1) (type_tk _) (expr_tk _) (Cur.adv ⟨l,none⟩) (t1.sh hs)
   have hsf:=(methodC_suf (typeC_suf (l.length+1)) (exprC_suf (l.length+1)) (Cur.adv ⟨l,none⟩)).trans (Cur.adv_suf ⟨l,none⟩)
   have h3:=method_ok (N:=l.length+1) (type_tk _) (type_okS _) (expr_tk _) (expr_okS _) (Cur.adv ⟨l,none⟩) (t1.sh hs) (end_tx hT hsf hne he).1
   exact ⟨h3,key _ _ hsf hne he ((t1.trans t2).cast (by rw[e2];rfl)) h3⟩
end Go.Pv
end

section
/- How long the texts of right programs are, by their tokens; what is formatted is read again. -/
namespace Go.Pv
open Go

theorem szK_nil:szK []=0:=rfl
theorem szK_cons (x:Kt) (l:List Kt):szK (x :: l)=x.2.length+1+szK l:=by simp[szK]
theorem szK_app (a b:List Kt):szK (a++b)=szK a+szK b:=by simp[szK]
theorem szK_sgn (c:UInt8) (l:List Kt):szK (sgn c :: l)=2+szK l:=by rw[szK_cons];rfl
theorem sgn_len (c:UInt8):(sgn c).2.length=1:=rfl
section
variable {α:Type} (tx:α→Str) (tk:α→List Kt)
theorem jtail_szK:∀ l:List α,(∀ a∈l,(tx a).length≤szK (tk a))→(Lib.joinTail [44,32] (l.map tx)).length≤szK (tailK (l.map tk))
 | [],_=>by simp[Lib.joinTail]
 | a :: l,h=>by
  have h1:=h a (by simp)
  have h2:=jtail_szK l fun b hb=>h b (by simp[hb])
  simp only[List.map_cons,Lib.joinTail,List.flatten_cons,tailK,szK_sgn,szK_app,List.length_append,List.length_cons,List.length_nil] at h2 ⊢
  omega
theorem join_szK (l:List α) (h:∀ a∈l,(tx a).length≤szK (tk a)):(Lib.join (l.map tx) [44,32]).length≤szK (commaK (l.map tk)):=by
 cases l with
 | nil=>simp[Lib.join_nil]
 | cons a l=>
  have h1:=h a (by simp)
  have h2:=jtail_szK tx tk l fun b hb=>h b (by simp[hb])
  rw[List.map_cons,Lib.join_cons,List.map_cons,commaK,szK_app,List.length_append]
  omega
theorem br_szK (l:List α) (h:∀ a∈l,(tx a).length≤szK (tk a)):(if l.isEmpty then ([]:Str) else [91]++Lib.join (l.map tx) [44,32]++[93]).length≤szK (brK (l.map tk)):=by
 have h1:=join_szK tx tk l h
 cases l with
 | nil=>simp
 | cons a l=>
  simp only[List.isEmpty_cons,Bool.false_eq_true,if_false,List.length_append,List.length_cons,List.length_nil]
  rw[brK,if_neg (by simp),szK_sgn,szK_app]
  have:szK [sgn 93]=2:=rfl
  omega
theorem sum_comma (f:α→Nat):∀ l:List α,(∀ a∈l,f a≤szK (tk a))→(l.map f).sum≤szK (commaK (l.map tk))∧(l.map f).sum≤szK (tailK (l.map tk))∧(l.map f).sum≤szK (brK (l.map tk))∧(l.map f).sum≤szK (semK tk l)
 | [],_=>by simp
 | a :: l,h=>by
  have h1:=h a (by simp)
  obtain ⟨-,h2,-,h3⟩:=sum_comma f l fun b hb=>h b (by simp[hb])
  have h4:szK [sgn 59]=2:=rfl
  have e:semK tk (a :: l)=tk a++[sgn 59]++semK tk l:=by simp[semK]
  rw[e]
  simp only[List.map_cons,List.sum_cons,commaK,tailK,brK,List.isEmpty_cons,Bool.false_eq_true,if_false,szK_app,szK_sgn]
  omega
end
theorem txt_szK (t:Ty):(txt t).length+1≤szK (toksT t):=by
 induction t using Ty.ind with
 | h n ts p ih=>
  have h1:=br_szK txt toksT ts fun t ht=>by have:=ih t ht;omega
  rw[txt_br,toksT_mk,szK_cons,List.length_append]
  have e:(if ts.isEmpty then ([]:Str) else 91 :: (Lib.join (ts.map txt) [44,32]++[93]))=(if ts.isEmpty then ([]:Str) else [91]++Lib.join (ts.map txt) [44,32]++[93]):=by split<;>simp
  rw[e]
  simp only[]
  omega
theorem brT_szK (ts:List Ty):(if ts.isEmpty then ([]:Str) else 91 :: (Lib.join (ts.map txt) [44,32]++[93])).length≤szK (brK (ts.map toksT)):=by
 have e:(if ts.isEmpty then ([]:Str) else 91 :: (Lib.join (ts.map txt) [44,32]++[93]))=(if ts.isEmpty then ([]:Str) else [91]++Lib.join (ts.map txt) [44,32]++[93]):=by split<;>simp
 rw[e]
 exact br_szK txt toksT ts fun t _=>by have:=txt_szK t;omega
theorem txtE_szK:∀ e:Exp,rightE e=true→(txtE e).length≤szK (toksE e):=by
 intro e
 induction e using Exp.ind with
 | h k n t a l p ih=>
  intro he
  obtain ⟨hl,hc⟩:=right_cases he
  have ht:=txt_szK t
  have ha:=brT_szK a
  rcases hc with ⟨rfl,hn,rfl,-⟩|⟨rfl,hn,⟨y,r,rfl⟩,-⟩|⟨rfl,-,-⟩|⟨rfl,hn,⟨y,rfl⟩,-⟩|⟨rfl,-,⟨y,rfl⟩,-⟩
  ·rw[txtE_1,toksE_1]
   simp only[szK_cons,szK_nil];omega
  ·have hy:=ih y (by simp) (hl y (by simp))
   have hr:=join_szK txtE toksE r fun e he=>ih e (by simp[he]) (hl e (by simp[he]))
   rw[txtE_2,toksE_2]
   simp only[szK_app,szK_cons,sgn_len,szK_nil,List.length_append,List.length_cons,List.length_nil]
   omega
  ·have hr:=join_szK txtE toksE l fun e he=>ih e he (hl e he)
   rw[txtE_3,toksE_3]
   simp only[szK_app,szK_cons,sgn_len,szK_nil,List.length_append,List.length_cons,List.length_nil]
   omega
  ·have hy:=ih y (by simp) (hl y (by simp))
   rw[txtE_4,toksE_4]
   simp only[szK_app,szK_cons,sgn_len,szK_nil,List.length_append,List.length_cons]
   omega
  ·have hy:=ih y (by simp) (hl y (by simp))
   rw[txtE_5,toksE_5]
   simp only[szK_app,szK_cons,sgn_len,szK_nil,List.length_append,List.length_cons,List.length_nil]
   omega
theorem txF_szK (f:Fm):(txF f).length≤szK (toksF f):=by
 have:=txt_szK f.ty
 rw[toksF,szK_cons]
 simp only[txF,List.length_append,List.length_cons,List.length_nil]
 omega
theorem sigT_szK (s:Sg):(sigT s).length≤szK (toksG s):=by
 have h1:=br_szK txF toksF s.fms fun f _=>txF_szK f
 have h2:=join_szK txF toksF s.pms fun f _=>txF_szK f
 have h3:=txt_szK s.res
 rw[toksG]
 simp only[szK_cons,szK_app,sgn_len,sigT,fmsT,List.length_append,List.length_cons,List.length_nil] at h1 ⊢
 omega
theorem lines_szK {α:Type} (tx:α→Str) (tk:α→List Kt) (h:∀ a,(tx a).length≤szK (tk a)):∀ l:List α,bodyLen (l.map fun a=>tx a++[59])≤2 * szK (semK tk l)
 | []=>by simp[bodyLen]
 | a :: l=>by
  have h1:=h a
  have h2:=lines_szK tx tk h l
  have h4:szK [sgn 59]=2:=rfl
  have e:semK tk (a :: l)=tk a++[sgn 59]++semK tk l:=by simp[semK]
  rw[e]
  simp only[bodyLen,List.map_cons,List.flatten_cons,List.length_append,lineT,List.length_cons,List.length_nil,szK_app] at h2 ⊢
  omega
theorem declT_szK {d:Dc} (h:rightD d=true):(declT d).length≤2 * szK (toksD d):=by
 rw[declT,List.length_append,blockT_len]
 have hf:=br_szK txF toksF d.fms fun f _=>txF_szK f
 have e0:szK [sgn 125,sgn 59]=4:=rfl
 have e1:wType.length=4:=rfl
 have e2:wInterface.length=9:=rfl
 have e3:wStruct.length=6:=rfl
 have e4:wFunc.length=4:=rfl
 have e5:wReturn.length=6:=rfl
 rcases rightD_kinds h with hk|hk|⟨hk,-⟩
 ·obtain ⟨-,-,-,-,-,-,-,-,h4⟩:=rightD_typed h (.inl hk)
  have hs:d.sigs=[]:=h4.elim (·.2) (fun h=>absurd h.1 (by omega))
  have hb:=lines_szK txF toksF txF_szK d.flds
  rw[toksD,if_neg (by omega),if_neg (by omega),frontT,if_pos hk,linesT,if_pos (.inl hk),hs]
  simp only[List.map_nil,List.append_nil,szK_cons,szK_app,sgn_len,fmsT,wTy,List.length_append,List.length_cons,List.length_nil] at hf hb ⊢
  have:bodyLen (d.flds.map lnF)=bodyLen (d.flds.map fun a=>txF a++[59]):=rfl
  omega
 ·obtain ⟨-,-,-,-,-,-,-,-,h4⟩:=rightD_typed h (.inr hk)
  have hs:d.flds=[]:=h4.elim (fun h=>absurd h.1 (by omega)) (·.2)
  have hb:=lines_szK sigT toksG sigT_szK d.sigs
  rw[toksD,if_neg (by omega),if_pos hk,frontT,if_neg (by omega),if_pos hk,linesT,if_pos (.inr hk),hs]
  simp only[List.map_nil,List.nil_append,szK_cons,szK_app,sgn_len,fmsT,wTy,List.length_append,List.length_cons,List.length_nil] at hf hb ⊢
  have:bodyLen (d.sigs.map lnG)=bodyLen (d.sigs.map fun a=>sigT a++[59]):=rfl
  omega
 ·obtain ⟨-,-,-,-,-,-,-,hb⟩:=rightD_method h hk
  have h1:=sigT_szK d.sig
  have h2:=txtE_szK d.body hb
  have h3:=br_szK id varK d.vars fun v _=>by simp[varK,szK]
  rw[List.map_id] at h3
  rw[toksD,if_pos hk,frontT,if_neg (by omega),if_neg (by omega),linesT,if_neg (by omega),bodyLen_one]
  simp only[szK_cons,szK_app,sgn_len,varsT,wFn,wRet,List.length_append,List.length_cons,List.length_nil] at h3 ⊢
  omega
theorem decls_szK:∀ l:List Dc,(∀ d∈l,rightD d=true)→(Lib.join (l.map declT) []).length≤2 * szK (l.flatMap toksD)
 | [],_=>by simp[Lib.join_nil]
 | d :: l,h=>by
  have h1:=declT_szK (h d (by simp))
  have h2:=decls_szK l fun x hx=>h x (by simp[hx])
  rw[join_empty] at h2 ⊢
  simp only[List.map_cons,List.flatten_cons,List.length_append,List.flatMap_cons,szK_app] at h2 ⊢
  omega
theorem progT_szK {p:Pg} (h:rightPg p=true):(progT p).length≤2 * szK (toksP p):=by
 simp only[rightPg,Bool.and_eq_true,List.all_eq_true] at h
 have h1:=decls_szK p.decls h.1
 have h2:=txtE_szK p.main h.2
 have e0:szK [sgn 125]=2:=rfl
 have e4:wFunc.length=4:=rfl
 have e5:wMain.length=4:=rfl
 have e6:szK headK=15:=rfl
 rw[progT,toksP,mainK]
 simp only[List.length_append,blockT_len,bodyLen_one,szK_app,szK_cons,sgn_len,wHead,wFm,List.length_cons,List.length_nil]
 omega

theorem wts_lsum (l:List Ty):wts l=(l.map wt).sum:=by
 induction l with
 | nil=>rfl
 | cons t l ih=>simp only[wts,List.map_cons,List.sum_cons,ih]
theorem wtFs_lsum (l:List Fm):wtFs l=(l.map wtF).sum:=by
 induction l with
 | nil=>rfl
 | cons t l ih=>simp only[wtFs,List.map_cons,List.sum_cons,ih]
theorem wtGs_lsum (l:List Sg):wtGs l=(l.map wtG).sum:=by
 induction l with
 | nil=>rfl
 | cons t l ih=>simp only[wtGs,List.map_cons,List.sum_cons,ih]
theorem wtSs_lsum (l:List Str):wtSs l=(l.map fun s=>s.length+1).sum:=by
 induction l with
 | nil=>rfl
 | cons t l ih=>simp only[wtSs,List.map_cons,List.sum_cons,ih]
theorem wt_szK (t:Ty):wt t≤szK (toksT t):=by
 induction t using Ty.ind with
 | h n ts p ih=>
  have h1:=(sum_comma toksT wt ts ih).2.2.1
  rw[toksT_mk,szK_cons]
  simp only[wt,wts_lsum]
  omega
theorem wts_szK (l:List Ty):wts l≤szK (brK (l.map toksT)):=by
 rw[wts_lsum];exact (sum_comma toksT wt l fun t _=>wt_szK t).2.2.1
theorem wtE_szK:∀ e:Exp,rightE e=true→wtE e≤3 * szK (toksE e):=by
 intro e
 induction e using Exp.ind with
 | h k n t a l p ih=>
  intro he
  obtain ⟨hl,hc⟩:=right_cases he
  have ht:=wt_szK t
  have ha:=wts_szK a
  have hw1:t.name=[]→t.args=[]→wt t=1:=fun h1 h2=>by
   obtain ⟨tn,ts,tp⟩:=t
   simp only[Ty.name,Ty.args] at h1 h2
   subst h1;subst h2;rfl
  have key:∀ l:List Exp,(∀ e∈l,wtE e≤3 * szK (toksE e))→wtEs l≤3 * szK (commaK (l.map toksE)):=by
   intro l h
   have tail:∀ l:List Exp,(∀ e∈l,wtE e≤3 * szK (toksE e))→wtEs l≤3 * szK (tailK (l.map toksE)):=by
    intro l
    induction l with
    | nil=>intro _;simp[wtEs]
    | cons x r ihr=>
     intro h
     have h1:=h x (by simp)
     have h2:=ihr fun y hy=>h y (by simp[hy])
     simp only[wtEs,List.map_cons,tailK,szK_sgn,szK_app];omega
   cases l with
   | nil=>simp[wtEs]
   | cons x r=>
    have h1:=h x (by simp)
    have h2:=tail r fun y hy=>h y (by simp[hy])
    simp only[wtEs,List.map_cons,commaK,szK_app];omega
  rw[wtE_mk]
  rcases hc with ⟨rfl,hn,rfl,h1,h2,rfl⟩|⟨rfl,hn,⟨y,r,rfl⟩,h1,h2,-⟩|⟨rfl,rfl,-,rfl⟩|⟨rfl,hn,⟨y,rfl⟩,h1,h2,rfl⟩|⟨rfl,rfl,⟨y,rfl⟩,-,rfl⟩
  ·have:=hw1 h1 h2
   rw[toksE_1];simp only[szK_cons,szK_nil,wts,wtEs];omega
  ·have:=hw1 h1 h2
   have hy:=ih y (by simp) (hl y (by simp))
   have hr:=key r fun e he=>ih e (by simp[he]) (hl e (by simp[he]))
   rw[toksE_2]
   simp only[szK_app,szK_cons,sgn_len,szK_nil,wtEs]
   omega
  ·have hr:=key l fun e he=>ih e he (hl e he)
   rw[toksE_3]
   simp only[szK_app,szK_cons,sgn_len,szK_nil,wts,List.length_nil]
   omega
  ·have:=hw1 h1 h2
   have hy:=ih y (by simp) (hl y (by simp))
   rw[toksE_4]
   simp only[szK_app,szK_cons,sgn_len,szK_nil,wts,wtEs]
   omega
  ·have hy:=ih y (by simp) (hl y (by simp))
   rw[toksE_5]
   simp only[szK_app,szK_cons,sgn_len,szK_nil,wts,wtEs,List.length_nil]
   omega
theorem wtF_szK (f:Fm):wtF f≤szK (toksF f):=by
 have:=wt_szK f.ty
 rw[toksF,szK_cons,wtF];simp only[];omega
theorem wtG_szK (s:Sg):wtG s≤szK (toksG s):=by
 have h1:=(sum_comma toksF wtF s.fms fun f _=>wtF_szK f).2.2.1
 have h2:=(sum_comma toksF wtF s.pms fun f _=>wtF_szK f).1
 have h3:=wt_szK s.res
 rw[toksG,wtG,wtFs_lsum,wtFs_lsum]
 simp only[szK_cons,szK_app,sgn_len];omega
theorem wtD_szK {d:Dc} (h:rightD d=true):wtD d≤3 * szK (toksD d):=by
 have e0:szK [sgn 125,sgn 59]=4:=rfl
 have e1:wType.length=4:=rfl
 have e2:wInterface.length=9:=rfl
 have e3:wStruct.length=6:=rfl
 have e4:wFunc.length=4:=rfl
 have e5:wReturn.length=6:=rfl
 have hf:=(sum_comma toksF wtF d.fms fun f _=>wtF_szK f).2.2.1
 have hl:=(sum_comma toksF wtF d.flds fun f _=>wtF_szK f).2.2.2
 have hg:=(sum_comma toksG wtG d.sigs fun f _=>wtG_szK f).2.2.2
 rw[wtD,wtFs_lsum,wtFs_lsum,wtGs_lsum]
 have key:(d.kind=1∨d.kind=2)→d.name.length+1+(d.fms.map wtF).sum+(d.flds.map wtF).sum+(d.sigs.map wtG).sum+d.recv.length+wtSs d.vars+wtG d.sig+wtE d.body≤3 * szK (toksD d):=fun hk=>by
  obtain ⟨-,-,-,-,hr,hv,hs,hb,h4⟩:=rightD_typed h hk
  have hwb:wtE d.body=2:=by rw[←wtE_st,hb];decide
  have hws:wtG d.sig=2:=by
   simp only[stG,sg0,Sg.mk.injEq,List.map_eq_nil_iff] at hs
   have h5:wt d.sig.res=1:=by rw[←wt_st,hs.2.2.2.1];decide
   rw[wtG,hs.1,hs.2.1,hs.2.2.1,h5];rfl
  rw[hwb,hws,hr,hv,toksD,if_neg (by omega)]
  rcases h4 with ⟨h5,h6⟩|⟨h5,h6⟩
  ·rw[if_neg (by omega),h6]
   simp only[List.map_nil,List.sum_nil,wtSs,List.length_nil,szK_cons,szK_app,sgn_len]
   omega
  ·rw[if_pos h5,h6]
   simp only[List.map_nil,List.sum_nil,wtSs,List.length_nil,szK_cons,szK_app,sgn_len]
   omega
 rcases rightD_kinds h with hk|hk|⟨hk,-⟩
 ·exact key (.inl hk)
 ·exact key (.inr hk)
 ·obtain ⟨-,q2,q3,q4,-,-,-,hb⟩:=rightD_method h hk
  have h1:=wtG_szK d.sig
  have h2:=wtE_szK d.body hb
  have h3:=(sum_comma varK (fun s:Str=>s.length+1) d.vars fun v _=>by simp[varK,szK]).2.2.1
  rw[q2,q3,q4,wtSs_lsum,toksD,if_pos hk]
  simp only[List.map_nil,List.sum_nil,szK_cons,szK_app,sgn_len]
  omega
theorem wtPg_szK {p:Pg} (h:rightPg p=true):wtPg p≤3 * szK (toksP p):=by
 simp only[rightPg,Bool.and_eq_true,List.all_eq_true] at h
 have key:∀ l:List Dc,(∀ d∈l,rightD d=true)→wtDs l≤3 * szK (l.flatMap toksD):=by
  intro l
  induction l with
  | nil=>intro _;simp[wtDs]
  | cons d l ih=>
   intro h
   have h1:=wtD_szK (h d (by simp))
   have h2:=ih fun x hx=>h x (by simp[hx])
   simp only[wtDs,List.flatMap_cons,szK_app];omega
 have h1:=key p.decls h.1
 have h2:=wtE_szK p.main h.2
 rw[wtPg,toksP,mainK]
 simp only[szK_app,szK_cons,sgn_len]
 omega

theorem szK_end (k:List Kt):szK (k++[(3,[])])=szK k+1:=by rw[szK_app];rfl
theorem prog_read {s:Str} {l:List Tk} {n:Nat} (h:lexT s=(some l,n)) (he:(endC (rdP l).2).err=none):rightPg (rdP l).1=true∧wtPg (rdP l).1≤6 * s.length∧(progT (rdP l).1).length≤4 * s.length:=by
 obtain ⟨h1,h2⟩:=prog_fw h he
 have h3:=(lexT_some (lexT_bounds h).1 h).2.2.1
 rw[h2,szK_end] at h3
 have h4:=wtPg_szK h1
 have h5:=progT_szK h1
 exact ⟨h1,by omega,by omega⟩
theorem whole_ok {α:Type} {ft:Nat} {none_:α} {rd:List Tk→α×Cur} {s:Str} {l:List Tk} {n:Nat} (h:lexT s=(some l,n)) (he:(endC (rd l).2).err=none):wholeC ft none_ rd s=((rd l).1,.nilIface):=by
 unfold wholeC
 rw[h]
 simp[he]
end Go.Pv
end

section
/- The reference castingsref08, step by step: where its loops stand. -/
namespace Go.Pv
open Go

section
variable {L:List Tk} {rT:Pl→Ty×Pl} {rE:Pl→Exp×Pl}
def pairsB (L:List Tk) (rT:Pl→Ty×Pl) (e:Str) (m:Nat) (p:Pl):List Fm×Pl:=if p.bad then ([],p) else pairsL L rT e m p
theorem pairsL_count (e:Str):∀ (m:Nat) (p:Pl),(pairsL L rT e m p).1.length≤m
 | 0,p=>Nat.le_refl _
 | m+1,p=>by
  rw[pairsL]
  split
  ·have:=pairsL_count e m (itemR L rT p).2.adv
   simp;omega
  ·simp
theorem pairsR_count (e:Str) (p:Pl):(pairsR L rT e p).1.length≤L.length:=by
 unfold pairsR
 split
 ·simp
 ·have:=pairsL_count (L:=L) (rT:=rT) e (L.length - p.k) p
  omega
theorem itemR_no {p:Pl} (h:(p.name L).bad=true):itemR L rT p=(⟨p.nm L,ty0,p.at_ L⟩,p.name L):=by rw[itemR,if_pos h]
theorem itemR_ok {p:Pl} (h:(p.name L).bad=false):itemR L rT p=(⟨p.nm L,(rT (p.name L)).1,p.at_ L⟩,(rT (p.name L)).2):=by rw[itemR,if_neg (by rw[h];exact Bool.false_ne_true)]
theorem tyR_no {p:Pl} (h:p.bad=true):tyR rT p=(ty0,p):=by rw[tyR,if_pos h]
theorem tyR_ok {p:Pl} (h:p.bad=false):tyR rT p=rT p:=by rw[tyR,if_neg (by rw[h];exact Bool.false_ne_true)]
theorem exR_no {p:Pl} (h:p.bad=true):exR rE p=(ex0,p):=by rw[exR,if_pos h]
theorem exR_ok {p:Pl} (h:p.bad=false):exR rE p=rE p:=by rw[exR,if_neg (by rw[h];exact Bool.false_ne_true)]
theorem must_prog {p:Pl} {s:Str} (h:(p.must L s).bad=false):(p.must L s).k=p.k+1:=by
 rw[Pl.must,if_pos (Pl.must_bad h).2];rfl
end
section
variable {L:List Tk} {α:Type} {rd:Pl→α×Pl}
theorem untilL_end (m:Nat) {p:Pl} (h:p.bad=true∨p.is L [125]=true):untilL L rd m p=([],p):=by
 cases m with
 | zero=>rfl
 | succ m=>
  rw[untilL,if_neg]
  rcases h with h|h<;>simp[h]
theorem untilL_go (m:Nat) {p:Pl} (h1:p.bad=false) (h2:p.is L [125]=false):untilL L rd (m+1) p=((rd p).1 :: (untilL L rd m ((rd p).2.must L [59])).1,(untilL L rd m ((rd p).2.must L [59])).2):=by
 rw[untilL,if_pos (by rw[h1,h2];rfl)]
theorem until_left (hg:Goes L rd) {p:Pl} (hk:p.k < L.length) {m:Nat} (hm:L.length - p.k≤m+1):((rd p).2.must L [59]).bad=false→L.length - ((rd p).2.must L [59]).k≤m:=fun h=>by
 have h1:=must_prog h
 have h2:=hg p hk
 omega
theorem g_until (hE:EndsT L) (hg:Goes L rd):Goes L (untilR L rd):=by
 have key:∀ (m:Nat) (p:Pl),p.k < L.length→p.k≤(untilL L rd m p).2.k∧(untilL L rd m p).2.k < L.length:=by
  intro m
  induction m with
  | zero=>intro p hp;exact ⟨Nat.le_refl _,hp⟩
  | succ m ih=>
   intro p hp
   rw[untilL]
   split
   ·have h1:=hg p hp
    have h2:=Pl.must_lt hE [59] h1.2
    have h3:=ih _ h2.2
    exact ⟨Nat.le_trans h1.1 (Nat.le_trans h2.1 h3.1),h3.2⟩
   ·exact ⟨Nat.le_refl _,hp⟩
 exact fun p hp=>key _ p hp
end
section
variable {L:List Tk}
def varsG (L:List Tk) (sg:Str) (m:Nat) (p:Pl):List Str×Pl:=if p.is L sg then varsL L m p else ([],p)
theorem varsG_step {sg:Str} {m:Nat} {p:Pl} (h:p.is L sg=true):varsG L sg (m+1) p=(p.adv.nm L :: (varsG L [44] m (p.adv.name L)).1,(varsG L [44] m (p.adv.name L)).2):=by
 rw[varsG,if_pos h,varsL,varsG]
 split<;>rfl
theorem varsG_end {sg:Str} {m:Nat} {p:Pl} (h:p.is L sg=false):varsG L sg m p=([],p):=by rw[varsG,if_neg (by rw[h];exact Bool.false_ne_true)]
theorem recvR_yes {p:Pl} (h:p.is L [91]=true):recvR L p=((varsG L [91] (L.length - p.k) p).1,(varsG L [91] (L.length - p.k) p).2.must L [93]):=by rw[recvR,if_pos h,varsG,if_pos h]
theorem recvR_no {p:Pl} (h:p.is L [91]=false):recvR L p=([],p):=by rw[recvR,if_neg (by rw[h];exact Bool.false_ne_true)]
end
section
variable {L:List Tk} (hE:EndsT L)
include hE
theorem g_item:Goes L (itemR L (typeR L (L.length+1))):=(sim_item hE (simT hE) (typeC_err _)).goes
theorem g_formals:Goes L (formalsR L (typeR L (L.length+1))):=(sim_formals hE (simT hE) (typeC_err _)).goes
theorem g_par:Goes L (parR L (typeR L (L.length+1))):=(sim_par hE (simT hE) (typeC_err _)).goes
theorem g_sig:Goes L (sigR L (typeR L (L.length+1))):=(sim_sig hE (simT hE) (typeC_err _)).goes
theorem g_recv:Goes L (recvR L):=(sim_recv hE).goes
theorem g_ex:Goes L (exR (exprR L (L.length+1))):=fun p hp=>by
 unfold exR;split
 ·exact ⟨Nat.le_refl _,hp⟩
 ·exact exprR_lt hE _ p hp
theorem g_typed (p:Pl) (hp:p.k < L.length):(p.must L wType).k≤(typedR L (typeR L (L.length+1)) p).2.k∧(typedR L (typeR L (L.length+1)) p).2.k < L.length:=by
 have h1:=Pl.must_lt hE wType hp
 have h2:=Pl.name_lt hE h1.2
 have h3:=g_formals hE _ h2.2
 unfold typedR typedH
 split
 ·rename_i hi
  have h4:=Pl.adv_lt hE h3.2 hi
  have h4b:(formalsR L (typeR L (L.length+1)) ((p.must L wType).name L)).2.adv.k=(formalsR L (typeR L (L.length+1)) ((p.must L wType).name L)).2.k+1:=rfl
  have h5:=Pl.must_lt hE [123] h4
  have h6:=g_until hE (g_sig hE) _ h5.2
  have h7:=Pl.must_lt hE [125] h6.2
  have h8:=Pl.must_lt hE [59] h7.2
  exact ⟨by show _≤(Pl.must L _ [59]).k;omega,h8.2⟩
 ·have h4:=Pl.must_lt hE wStruct h3.2
  have h5:=Pl.must_lt hE [123] h4.2
  have h6:=g_until hE (g_item hE) _ h5.2
  have h7:=Pl.must_lt hE [125] h6.2
  have h8:=Pl.must_lt hE [59] h7.2
  exact ⟨by show _≤(Pl.must L _ [59]).k;omega,h8.2⟩
theorem g_method (p:Pl) (hp:p.k < L.length):(p.must L wFunc).k≤(methodR L (typeR L (L.length+1)) (exprR L (L.length+1)) p).2.k∧(methodR L (typeR L (L.length+1)) (exprR L (L.length+1)) p).2.k < L.length:=by
 have h1:=Pl.must_lt hE wFunc hp
 have h2:=Pl.must_lt hE [40] h1.2
 have h3:=Pl.name_lt hE h2.2
 have h4:=Pl.name_lt hE h3.2
 have h5:=g_recv hE _ h4.2
 have h6:=Pl.must_lt hE [41] h5.2
 have h7:=g_sig hE _ h6.2
 have h8:=Pl.must_lt hE [123] h7.2
 have h9:=Pl.must_lt hE wReturn h8.2
 have h10:=g_ex hE _ h9.2
 have h11:=Pl.must_lt hE [125] h10.2
 have h12:=Pl.must_lt hE [59] h11.2
 exact ⟨by show _≤(Pl.must L _ [59]).k;omega,h12.2⟩
end
section
variable {L:List Tk} {rT:Pl→Ty×Pl} {rE:Pl→Exp×Pl}
end
end Go.Pv
end

section
/- Whole texts of programs and declarations: what both say of them; texts with the same tokens; texts one after the other. -/
namespace Go.Pv
open Go

theorem whole_nil {α:Type} {ft:Nat} {none_:α} {rd:List Tk→α×Cur} {s:Str} {x:α} (h:wholeC ft none_ rd s=(x,.nilIface)):∃ l n,lexT s=(some l,n)∧(endC (rd l).2).err=none∧x=(rd l).1:=by
 unfold wholeC at h
 rcases hx:lexT s with ⟨_|l,n⟩
 ·rw[hx] at h;simp at h
 ·rw[hx] at h
  cases he:(endC (rd l).2).err with
  | none=>
   simp only[he,Option.isSome_none,Bool.false_eq_true,if_false,Prod.mk.injEq,and_true] at h
   exact ⟨l,n,rfl,he,h.symm⟩
  | some a=>simp[he,errA] at h
theorem whole_case {α:Type} (ft:Nat) (none_:α) (rc:List Tk→α×Cur) (rr:List Tk→α×Pl) (s:Str)
  (h:∀ l,EndsT l→Rel l (rc l).2 (rr l).2∧((rr l).2.bad=false→(rc l).1=(rr l).1)):
  (∃ x n l m,wholeC ft none_ rc s=(x,.nilIface)∧wholeR none_ rr s=(x,0,n)∧lexT s=(some l,m)∧(endC (rc l).2).err=none∧x=(rc l).1) ∨
  ∃ k n,k≠0∧wholeC ft none_ rc s=(none_,.iface ft (.agg [.int .i64 k,.int .i64 n]))∧wholeR none_ rr s=(none_,k,n):=by
 obtain ⟨h1,h2⟩:=whole_same ft none_ rc rr s h
 obtain ⟨t,k,n,hw⟩:∃ t k n,wholeR none_ rr s=(t,k,n):=⟨_,_,_,rfl⟩
 rw[hw] at h1 h2
 simp only[] at h1 h2
 rcases h2 with ⟨h3,h4,-⟩|⟨h3,h4,h5⟩
 ·have hc:wholeC ft none_ rc s=(t,.nilIface):=Prod.ext h1 h4
  obtain ⟨l,m,q1,q2,q3⟩:=whole_nil hc
  exact .inl ⟨t,n,l,m,hc,by rw[hw,h3],q1,q2,q3⟩
 ·exact .inr ⟨k,n,h4,Prod.ext (h1.trans h3) h5,by rw[hw,h3]⟩
theorem decl_case (ft:Nat) (s:Str):(∃ x n l m,wholeC ft dc0 rdD s=(x,.nilIface)∧wholeR dc0 rdR s=(x,0,n)∧lexT s=(some l,m)∧(endC (rdD l).2).err=none∧x=(rdD l).1) ∨
  ∃ k n,k≠0∧wholeC ft dc0 rdD s=(dc0,.iface ft (.agg [.int .i64 k,.int .i64 n]))∧wholeR dc0 rdR s=(dc0,k,n):=whole_case ft dc0 rdD rdR s fun _ hE=>decl_same hE
theorem decl_read {s:Str} {l:List Tk} {n:Nat} (h:lexT s=(some l,n)) (he:(endC (rdD l).2).err=none):rightD (rdD l).1=true∧wtD (rdD l).1≤6 * s.length∧l.map ktOf=toksD (rdD l).1++[(3,[])]:=by
 obtain ⟨h1,h2⟩:=decl_fw h he
 have h3:=(lexT_some (lexT_bounds h).1 h).2.2.1
 rw[h2,szK_end] at h3
 have h4:=wtD_szK h1
 exact ⟨h1,by omega,h2⟩
def wEnd:Str:=[32,47,47,32,101,110,100]
theorem nlN_app10:∀ (a x:Str),nlN (a++10 :: x)=nlN a
 | [],x=>rfl
 | c :: a,x=>by rw[List.cons_append,nlN_cons,nlN_cons,nlN_app10 a x]
theorem wordN_app10:∀ (a x:Str),wordN (a++10 :: x)=wordN a
 | [],x=>by rw[List.nil_append,wordN_cons,if_neg (by decide)];rfl
 | c :: a,x=>by rw[List.cons_append,wordN_cons,wordN_cons,wordN_app10 a x]
theorem pre_app10 (a x:Str):Lib.hasPrefix (a++10 :: x) [47,47]=Lib.hasPrefix a [47,47]:=by
 match a with
 | []=>rfl
 | [c]=>simp[Lib.hasPrefix,List.isPrefixOf]
 | c :: d :: r=>simp[Lib.hasPrefix,List.isPrefixOf]
theorem BX_line:∀ (n:Nat) (a:Str) (k:List Kt),a.length≤n→tkK a=some (k++[(3,[])])→BX (a++[10]) k
 | n,[],k,_,h=>by
  rw[tkK_nil] at h
  injection h with h
  have hk:k=[]:=by
   cases k with
   | nil=>rfl
   | cons x r=>simp at h
  subst hk
  exact BX_blank (c:=10) (by decide)
 | 0,c :: r,k,hn,_=>by simp at hn
 | n+1,c :: r,k,hn,h=>by
  intro x
  have hn':r.length≤n:=by simpa using hn
  have e:c :: r++[10]++x=c :: (r++10 :: x):=by simp
  have e2:∀ y:Str,y++[10]++x=y++10 :: x:=fun y=>by simp
  have hp:=pre_app10 (c :: r) x
  rw[List.cons_append] at hp
  rw[e,tkK_cons,hp]
  rw[tkK_cons] at h
  split
  ·rename_i h1
   rw[if_pos h1] at h
   have:=BX_line n r k hn' h x
   rwa[e2] at this
  ·rename_i h1
   rw[if_neg h1] at h
   split
   ·rename_i h2
    rw[if_pos h2] at h
    have hN:=nlN_app10 (c :: r) x
    rw[List.cons_append] at hN
    have hle:=nlN_le (c :: r)
    have hst:=nl_step h2
    rw[hN,← List.cons_append,List.drop_append_of_le_length hle]
    have:=BX_line n ((c :: r).drop (nlN (c :: r))) k (by rw[List.length_drop,hst];simp;omega) h x
    rwa[e2] at this
   ·rename_i h2
    rw[if_neg h2] at h
    split
    ·rename_i h3
     rw[if_pos h3] at h
     have hN:=wordN_app10 (c :: r) x
     rw[List.cons_append] at hN
     have hle:=wordN_le (c :: r)
     have hst:=word_step (r:=r) h3
     rw[hN,← List.cons_append,List.drop_append_of_le_length hle,List.take_append_of_le_length hle]
     cases hq:tkK ((c :: r).drop (wordN (c :: r))) with
     | none=>rw[hq] at h;cases h
     | some q=>
      rw[hq] at h
      simp only[Option.map_some,Option.some.injEq] at h
      cases k with
      | nil=>simp at h
      | cons y k=>
       simp only[List.cons_append,List.cons.injEq] at h
       obtain ⟨rfl,rfl⟩:=h
       have:=BX_line n ((c :: r).drop (wordN (c :: r))) k (by rw[List.length_drop,hst];simp;omega) hq x
       rw[e2] at this
       rw[this]
       cases tkK x<;>rfl
    ·rename_i h3
     rw[if_neg h3] at h
     split
     ·rename_i h4
      rw[if_pos h4] at h
      cases hq:tkK r with
      | none=>rw[hq] at h;cases h
      | some q=>
       rw[hq] at h
       simp only[Option.map_some,Option.some.injEq] at h
       cases k with
       | nil=>simp at h
       | cons y k=>
        simp only[List.cons_append,List.cons.injEq] at h
        obtain ⟨rfl,rfl⟩:=h
        have:=BX_line n r k hn' hq x
        rw[e2] at this
        rw[this]
        cases tkK x<;>rfl
     ·rename_i h4
      rw[if_neg h4] at h;cases h
def dclR (s:Str):Dc:=(wholeR dc0 rdR s).1
theorem dcl_case (s:Str) (h:(wholeR dc0 rdR s).2.1=0):rightD (dclR s)=true∧wtD (dclR s)≤6 * s.length∧tkK s=some (toksD (dclR s)++[(3,[])]):=by
 rcases decl_case 0 s with ⟨d,n,l,m,h1,h2,h3,h4,rfl⟩|⟨k,n,h0,h1,h2⟩
 ·obtain ⟨q1,q2,q3⟩:=decl_read h3 h4
  have e:dclR s=(rdD l).1:=by rw[dclR,h2]
  rw[e,← q3]
  exact ⟨q1,q2,(lexT_some (lexT_bounds h3).1 h3).1⟩
 ·rw[h2] at h;exact absurd h h0
def wPm:Str:=[112,97,99,107,97,103,101,32,109,97,105,110,59]
def wFx:Str:=[102,117,110,99,32,109,97,105,110,40,41,32,123,32,95,32,61,32,120,32,125]
def exX:Exp:=.mk 1 [120] ty0 [] [] 0
def catT (l:List Str):Str:=wPm++(l.map fun s=>[10]++s++[10]).flatten
theorem catT_nil:catT []=wPm:=by simp[catT]
theorem catT_snoc (l:List Str) (s:Str):catT (l++[s])=catT l++[10]++s++[10]:=by simp[catT]
def lenL (l:List Str):Nat:=(l.map fun s=>s.length+2).sum
theorem catT_len (l:List Str):(catT l).length=13+lenL l:=by
 rw[catT,List.length_append]
 have:wPm.length=13:=rfl
 rw[this,lenL]
 congr 1
 induction l with
 | nil=>rfl
 | cons s l ih=>simp only[List.map_cons,List.flatten_cons,List.length_append,List.sum_cons,ih,List.length_cons,List.length_nil];omega
theorem BX_cat:∀ l:List Str,(∀ s∈l,(wholeR dc0 rdR s).2.1=0)→BX ((l.map fun s=>[10]++s++[10]).flatten) (l.flatMap fun s=>toksD (dclR s))
 | [],_=>BX_nil
 | s :: l,h=>by
  have h1:=BX_line s.length s _ (Nat.le_refl _) (dcl_case s (h s (by simp))).2.2
  have h2:=BX_cat l fun x hx=>h x (by simp[hx])
  have h3:=((BX_blank (c:=10) (by decide)).app h1).app h2
  simpa[List.append_assoc] using h3
theorem BX_pm:BX wPm headK:=by
 intro x
 have e:wPm++x=wPackage++32 :: (wMain++59 :: x):=by simp[wPm,wPackage,wMain]
 rw[e,lx_word LX_package _ (endB_c (by decide)),lx_blank,lx_word LX_main _ (endB_c (by decide)),lx_sign (by decide),headK]
 cases tkK x<;>simp
theorem BX_fx:BX wFx (mainK exX):=by
 intro x
 have hx:isName [120]=true:=by decide
 have e:wFx++x=wFunc++32 :: (wMain++40 :: 41 :: 32 :: 123 :: 32 :: 95 :: 32 :: 61 :: 32 :: ([120]++32 :: 125 :: x)):=by simp[wFx,wFunc,wMain]
 rw[e,lx_word LX_func _ (endB_c (by decide)),lx_blank,lx_word LX_main _ (endB_c (by decide)),lx_sign (by decide),lx_sign (by decide),lx_blank,lx_sign (by decide),lx_blank,lx_sign (by decide),lx_blank,lx_sign (by decide),lx_blank,lx_name hx (endB_c (by decide)),lx_blank,lx_sign (by decide),mainK]
 cases tkK x<;>simp[exX,toksE_1]
theorem cat_case (ft:Nat) (l:List Str) (hl:lenL l≤3000) (h:∀ s∈l,(wholeR dc0 rdR s).2.1=0):
  ∃ p,wholeC ft pg0 rdP (catT l++wFx)=(p,.nilIface)∧sameP ⟨p.decls,ex0⟩ ⟨l.map dclR,ex0⟩=true∧p.main.name=[120]∧wtDs p.decls≤100000:=by
 let q:Pg:=⟨l.map dclR,exX⟩
 have hq:rightPg q=true:=by
  simp only[rightPg,Bool.and_eq_true,List.all_eq_true]
  refine ⟨fun d hd=>?_,(show rightE exX=true by decide)⟩
  obtain ⟨s,hs,rfl⟩:=List.mem_map.1 hd
  exact (dcl_case s (h s hs)).1
 have ht:tkK (catT l++wFx)=some (toksP q++[(3,[])]):=by
  have h1:=((BX_pm.app (BX_cat l h)).app BX_fx) []
  rw[List.append_nil,tkK_nil] at h1
  rw[show catT l++wFx=wPm++(l.map fun s=>[10]++s++[10]).flatten++wFx from rfl,h1]
  simp[toksP,q,List.flatMap_map]
 have hlen:(catT l++wFx).length≤3100:=by
  rw[List.length_append,catT_len]
  have:wFx.length=21:=rfl
  omega
 obtain ⟨m,n,h1,h2⟩:=lexT_of (by omega) ht
 obtain ⟨h3,h4⟩:=prog_bk hq h2
 have h5:=end_at h4
 have he:(endC (rdP m).2).err=none:=by rw[h5.1];exact h5.2
 have h6:=prog_read h1 he
 have h7:(rdP m).1.decls.map stD=(l.map dclR).map stD∧stE (rdP m).1.main=stE exX:=by
  have:=h3
  simp only[stP,q,Pg.mk.injEq] at this
  exact this
 refine ⟨_,whole_ok h1 he,(sameP_st _ _).2 (by simp[stP,h7.1]),?_,?_⟩
 ·have h8:=h7.2
  generalize (rdP m).1.main=e at h8
  obtain ⟨k,nm,t,a,kids,pos⟩:=e
  rw[stE_mk] at h8
  have h9:stE exX=.mk 1 [120] ty0 [] [] 0:=rfl
  rw[h9] at h8
  injection h8
 ·have h8:=h6.2.1
  unfold wtPg at h8
  omega
def minL (l:List Str):Nat:=(l.map fun s=>min s.length 10000).sum
theorem minL_snoc (l:List Str) (s:Str):minL (l++[s])=minL l+min s.length 10000:=by simp[minL]
theorem minL_le (l:List Str):minL l≤10000 * l.length:=by
 induction l with
 | nil=>simp[minL]
 | cons s l ih=>simp only[minL,List.map_cons,List.sum_cons,List.length_cons] at ih ⊢;omega
theorem lenL_min:∀ l:List Str,minL l≤2000→lenL l≤minL l+2 * l.length
 | [],_=>by simp[lenL]
 | s :: l,h=>by
  simp only[minL,List.map_cons,List.sum_cons] at h
  have h1:=lenL_min l (by simp only[minL];omega)
  simp only[minL,lenL,List.map_cons,List.sum_cons,List.length_cons] at h1 ⊢
  omega
theorem lenL_mem:∀ (l:List Str) (s:Str),s∈l→s.length+2≤lenL l
 | x :: l,s,h=>by
  simp only[lenL,List.map_cons,List.sum_cons]
  rcases List.mem_cons.1 h with rfl|h
  ·omega
  ·have:=lenL_mem l s h
   simp only[lenL] at this;omega
theorem lenL_take:∀ (l:List Str) (k:Nat),lenL (l.take k)≤lenL l
 | [],k=>by simp
 | s :: l,0=>by simp[lenL]
 | s :: l,k+1=>by
  have:=lenL_take l k
  simp only[lenL,List.take_succ_cons,List.map_cons,List.sum_cons] at this ⊢
  omega
theorem dclR_of {s:Str} {d:Dc} {n:Int} (h:wholeR dc0 rdR s=(d,0,n)):dclR s=d:=by rw[dclR,h]
end Go.Pv
end

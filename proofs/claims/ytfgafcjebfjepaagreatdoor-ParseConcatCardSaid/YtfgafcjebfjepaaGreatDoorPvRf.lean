import Derived.Test.YtfgafcjebfjepaaGreatDoorPvRb
set_option linter.all false
section
/- What is read is right, and no larger than its text; whole texts. -/
namespace Go.Pv
open Go

theorem isErr {c:Cur} {α:Type} {rd:Cur→α×Cur} (h:∀ c:Cur,c.err.isSome=true→(rd c).2=c) (he:(rd c).2.err=none):c.err=none:=by
 cases hc:c.err with
 | none=>rfl
 | some a=>
  have:=h c (by rw[hc];rfl)
  rw[this,hc] at he;cases he
theorem Cur.must_ok {c:Cur} {s:Str} (h:(c.must s).err=none):c.err=none:=by
 cases hc:c.err with
 | none=>rfl
 | some a=>rw[Cur.must_err (by rw[hc];rfl),hc] at h;cases h
theorem Cur.name_ok {c:Cur} (h:c.name.err=none):c.err=none∧c.named=true:=by
 have h1:c.err=none:=by
  cases hc:c.err with
  | none=>rfl
  | some a=>rw[Cur.name_err (by rw[hc];rfl),hc] at h;cases h
 refine ⟨h1,?_⟩
 cases hn:c.named with
 | true=>rfl
 | false=>simp[Cur.name,hn,Cur.fail,h1] at h
theorem Cur.nm_ok {c:Cur} (h:c.named=true):isName c.nm=true:=by
 simp only[Cur.nm,h,if_true]
 simp only[Cur.named,Bool.and_eq_true] at h
 exact h.2
theorem loopC_err {α:Type} {rd:Cur→α×Cur} (m:Nat) (c:Cur) (he:c.err.isSome=true):(loopC rd m c).2=c:=by
 cases m with
 | zero=>rfl
 | succ m=>rw[loopC,Cur.err_next he];rfl
theorem rightT_mk {n:Str} {ts:List Ty} {p:Int} (h:isName n=true) (ht:∀ x∈ts,rightT x=true):rightT (.mk n ts p)=true:=by
 rw[rightT,lst,List.all_cons,h,Bool.true_and,List.all_eq_true]
 intro s hs
 rw[lsts_flat] at hs
 obtain ⟨l,hl,hs⟩:=List.mem_flatten.1 hs
 obtain ⟨t,ht1,rfl⟩:=List.mem_map.1 hl
 exact List.all_eq_true.1 (ht t ht1) s hs
theorem listC_okL {α:Type} {rd:Cur→α×Cur} {Q:α→Prop} (n:Nat) (hs:∀ c,(rd c).2.l <:+ c.l) (h:∀ c:Cur,c.err.isSome=true→(rd c).2=c) (hq:∀ c,c.l.length < n→(rd c).2.err=none→Q (rd c).1) (c:Cur) (hc:c.l.length < n) (he:(listC rd c).2.err=none):∀ x∈(listC rd c).1,Q x:=by
 have key:∀ (m:Nat) (c:Cur),c.l.length < n→(loopC rd m c).2.err=none→∀ x∈(loopC rd m c).1,Q x:=by
  intro m
  induction m with
  | zero=>intro c _ _ x hx;cases hx
  | succ m ih=>
   intro c hc he
   rw[loopC] at he ⊢
   split
   ·rename_i hn
    rw[if_pos hn] at he
    have he':(loopC rd m (rd c.adv).2).2.err=none:=he
    have h1:=Cur.adv_len hn
    have h2:=(hs c.adv).length_le
    intro x hx
    rcases List.mem_cons.1 hx with rfl|hx
    ·refine hq _ (by omega) ?_
     cases hc:(rd c.adv).2.err with
     | none=>rfl
     | some a=>rw[loopC_err m _ (by rw[hc];rfl),hc] at he';cases he'
    ·exact ih _ (by omega) he' x hx
   ·intro x hx;cases hx
 intro x hx
 have he':(loopC rd (rd c).2.l.length (rd c).2).2.err=none:=he
 have h2:=(hs c).length_le
 rcases List.mem_cons.1 hx with rfl|hx
 ·refine hq _ hc ?_
  cases hc:(rd c).2.err with
  | none=>rfl
  | some a=>rw[loopC_err _ _ (by rw[hc];rfl),hc] at he';cases he'
 ·exact key _ _ (by omega) he' x hx
theorem typeC_ok:∀ (n:Nat) (c:Cur),c.l.length < n→(typeC n c).2.err=none→rightT (typeC n c).1=true
 | 0,c,h,_=>by omega
 | n+1,c,hl,he=>by
  have he':(targsC (typeC n) c.name).2.err=none:=he
  have h1:=Cur.name_ok (isErr (rd:=targsC (typeC n)) (fun c h=>targsC_err c h) he')
  refine rightT_mk (Cur.nm_ok h1.2) ?_
  show ∀ x∈(targsC (typeC n) c.name).1,rightT x=true
  unfold targsC at he' ⊢
  split
  ·rename_i hn
   rw[if_pos hn] at he'
   have h2:=(Cur.name_next hn).2
   have h3:=Cur.adv_len hn
   have h4:=Cur.must_ok he'
   exact listC_okL n (typeC_suf n) (fun c h=>typeC_err n c h) (fun c hc he=>typeC_ok n c hc he) c.name.adv (by omega) h4
  ·intro x hx;cases hx

def szC (c:Cur):Nat:=szK (c.l.map ktOf)
theorem TkL_ends {l:List Tk} (h:TkL (l.map ktOf)):EndsT l:=by
 generalize hk:l.map ktOf=m at h
 induction h generalizing l with
 | nil=>
  cases l with
  | nil=>cases hk
  | cons t r=>
   cases r with
   | nil=>
    simp only[List.map_cons,List.map_nil,List.cons.injEq,and_true] at hk
    refine ⟨by simp,fun k hlt hne=>?_⟩
    have:k=0:=by simp at hlt;omega
    subst this
    exact absurd (show t.1=3 from congrArg Prod.fst hk) hne
   | cons x r=>simp at hk
 | word w l' hw hl ih=>
  cases l with
  | nil=>cases hk
  | cons t r=>
   simp only[List.map_cons,List.cons.injEq] at hk
   obtain ⟨h1,h2⟩:=ih hk.2
   refine ⟨by simp,fun k hlt hne=>?_⟩
   cases k with
   | zero=>simp;omega
   | succ k=>have:=h2 k (by simpa using hlt) (by simpa using hne);simp;omega
 | sign c l' hc hl ih=>
  cases l with
  | nil=>cases hk
  | cons t r=>
   simp only[List.map_cons,List.cons.injEq] at hk
   obtain ⟨h1,h2⟩:=ih hk.2
   refine ⟨by simp,fun k hlt hne=>?_⟩
   cases k with
   | zero=>simp;omega
   | succ k=>have:=h2 k (by simpa using hlt) (by simpa using hne);simp;omega
theorem lexT_ends {s:Str} {l:List Tk} {n:Nat} (h:lexT s=(some l,n)):EndsT l:=TkL_ends (lexT_some (lexT_bounds h).1 h).2.1

def rtR (l:List Tk):Ty×Pl:=typeR l (l.length+1) ⟨0,false⟩
def reR (l:List Tk):Exp×Pl:=exprR l (l.length+1) ⟨0,false⟩
def wholeR {α:Type} (none_:α) (rd:List Tk→α×Pl) (s:Str):α×Int×Int:=
 match lexT s with
 | (none,m)=>(none_,1,m)
 | (some l,_)=>if (finR l (rd l).2).1=0 then ((rd l).1,0,0) else (none_,(finR l (rd l).2).1,(finR l (rd l).2).2)

theorem rel0 {l:List Tk} (hE:EndsT l):Rel l ⟨l,none⟩ ⟨0,false⟩:=⟨by simp,hE.1,rfl,fun a h=>by cases h⟩
theorem fin_eq {L:List Tk} {c:Cur} {p:Pl} (r:Rel L c p):(endC c).err=(if (finR L p).1=0 then none else some (finR L p).2)∧((finR L p).1=0→p.bad=false)∧((finR L p).1=0∨(finR L p).1=2):=by
 unfold endC finR
 cases hb:p.bad with
 | true=>
  have he:c.err.isSome=true:=by rw[r.err,hb]
  rw[Cur.err_first he]
  obtain ⟨a,ha⟩:=Option.isSome_iff_exists.1 he
  have:=r.at_ a ha
  simp[tk0,ha,this]
 | false=>
  have he:c.err=none:=by
   have:=r.err
   rw[hb] at this
   simpa using this
  rw[r.first hb]
  cases h3:((hdK L p).1==3) with
  | true=>simp only[beq_iff_eq] at h3;simp[h3,he]
  | false=>
   simp only[beq_eq_false_iff_ne] at h3
   simp[h3,Cur.fail,he,r.first hb]

theorem whole_same {α:Type} (ft:Nat) (none_:α) (rc:List Tk→α×Cur) (rr:List Tk→α×Pl) (s:Str)
  (h:∀ l,EndsT l→Rel l (rc l).2 (rr l).2∧((rr l).2.bad=false→(rc l).1=(rr l).1)):
  (wholeC ft none_ rc s).1=(wholeR none_ rr s).1∧(((wholeR none_ rr s).2.1=0∧(wholeC ft none_ rc s).2=.nilIface∧∃ l n,lexT s=(some l,n)∧(wholeC ft none_ rc s).1=(rc l).1∧(rc l).2.err=none) ∨
   ((wholeR none_ rr s).1=none_∧(wholeR none_ rr s).2.1≠0∧(wholeC ft none_ rc s).2=.iface ft (.agg [.int .i64 (wholeR none_ rr s).2.1,.int .i64 (wholeR none_ rr s).2.2]))):=by
 unfold wholeC wholeR
 cases hx:lexT s with
 | mk o n=>
  cases o with
  | none=>exact ⟨rfl,.inr ⟨rfl,by simp,rfl⟩⟩
  | some l=>
   obtain ⟨h1,h2⟩:=h l (lexT_ends hx)
   obtain ⟨h3,h4,h5⟩:=fin_eq h1
   simp only[]
   by_cases h0:(finR l (rr l).2).1=0
   ·rw[if_pos h0] at h3
    have hb:=h4 h0
    simp only[h3,h0,Option.isSome_none,Bool.false_eq_true,if_false,if_true]
    refine ⟨h2 hb,.inl ⟨trivial,trivial,l,n,rfl,rfl,?_⟩⟩
    have:=h1.err
    rw[hb] at this
    simpa using this
   ·rw[if_neg h0] at h3
    simp only[h3,h0,Option.isSome_some,if_true,if_false]
    refine ⟨trivial,.inr ⟨trivial,h0,?_⟩⟩
    rcases h5 with h5|h5
    ·exact absurd h5 h0
    ·rw[h5];rfl
end Go.Pv
end

section
/- Texts of types and expressions, their tokens, and what is read from these. -/
namespace Go.Pv
open Go

mutual
def stT:Ty→Ty | .mk n ts _=>.mk n (stTs ts) 0
def stTs:List Ty→List Ty | []=>[]|t :: r=>stT t :: stTs r
end
theorem stTs_map (l:List Ty):stTs l=l.map stT:=by
 induction l with
 | nil=>rfl
 | cons t r ih=>simp[stTs,ih]
theorem stT_mk (n:Str) (ts:List Ty) (p:Int):stT (.mk n ts p)=.mk n (ts.map stT) 0:=by rw[stT,stTs_map]
theorem cmpT_st:∀ t u:Ty,cmpT t u=0↔stT t=stT u:=by
 intro t
 induction t using Ty.ind with
 | h n ts p ih=>
  intro u
  obtain ⟨m,us,q⟩:=u
  have key:∀ l:List Ty,(∀ t∈l,∀ u:Ty,cmpT t u=0↔stT t=stT u)→∀ k:List Ty,cmpTs l k=0↔l.map stT=k.map stT:=by
   intro l
   induction l with
   | nil=>intro _ k;cases k<;>simp[cmpTs]
   | cons t l ihl=>
    intro h k
    cases k with
    | nil=>simp[cmpTs]
    | cons u k=>
     have h1:=h t (by simp) u
     have h2:=ihl (fun z hz=>h z (by simp[hz])) k
     rw[cmpTs_cons]
     split
     ·rename_i h0;rw[h2];simp[h1.1 h0]
     ·rename_i h0
      constructor
      ·intro h3;exact absurd h3 h0
      ·intro h3;simp at h3;exact absurd (h1.2 h3.1) h0
  rw[cmpT_mk,stT_mk,stT_mk]
  split
  ·rename_i h0
   have h1:=(cmpS_eq n m).1 h0
   rw[key ts ih us];simp[h1]
  ·rename_i h0
   constructor
   ·intro h;exact absurd h h0
   ·intro h;injection h with h1;exact absurd ((cmpS_eq n m).2 h1) h0
theorem sameTs_st:∀ a b:List Ty,sameTs a b=true↔a.map stT=b.map stT
 | [],[]=>by simp[sameTs]
 | [],_ :: _=>by simp[sameTs]
 | _ :: _,[]=>by simp[sameTs]
 | x :: a,y :: b=>by
  have h1:=cmpT_st x y
  have h2:=sameTs_st a b
  rw[sameTs_cons]
  simp[h1,h2]
mutual
def stE:Exp→Exp | .mk k n t a l _=>.mk k n (stT t) (a.map stT) (stEs l) 0
def stEs:List Exp→List Exp | []=>[]|e :: r=>stE e :: stEs r
end
theorem stEs_map (l:List Exp):stEs l=l.map stE:=by
 induction l with
 | nil=>rfl
 | cons t r ih=>simp[stEs,ih]
theorem stE_mk (k:Int) (n:Str) (t:Ty) (a:List Ty) (l:List Exp) (p:Int):stE (.mk k n t a l p)=.mk k n (stT t) (a.map stT) (l.map stE) 0:=by rw[stE,stEs_map]
theorem sameE_st:∀ e f:Exp,sameE e f=true↔stE e=stE f:=by
 intro e
 induction e using Exp.ind with
 | h k n t a l p ih=>
  intro f
  obtain ⟨k',n',t',a',l',p'⟩:=f
  have key:∀ l:List Exp,(∀ e∈l,∀ f:Exp,sameE e f=true↔stE e=stE f)→∀ l':List Exp,sameEs l l'=true↔l.map stE=l'.map stE:=by
   intro l
   induction l with
   | nil=>intro _ l';cases l'<;>simp[sameEs]
   | cons e l ihl=>
    intro h l'
    cases l' with
    | nil=>simp[sameEs]
    | cons f l'=>
     have h1:=h e (by simp) f
     have h2:=ihl (fun z hz=>h z (by simp[hz])) l'
     rw[sameEs_cons]
     simp[h1,h2]
  have h1:=key l ih l'
  have h2:=sameTs_st a a'
  have h3:=cmpT_st t t'
  rw[stE_mk,stE_mk,sameE]
  simp[h1,h2,h3,and_assoc]

def sgn (c:UInt8):Kt:=(2,[c])
def tailK:List (List Kt)→List Kt
 | []=>[]
 | x :: r=>sgn 44 :: (x++tailK r)
def commaK:List (List Kt)→List Kt
 | []=>[]
 | x :: r=>x++tailK r
def brK (l:List (List Kt)):List Kt:=if l.isEmpty then [] else sgn 91 :: (commaK l++[sgn 93])
mutual
def toksT:Ty→List Kt | .mk n ts _=>(1,n) :: brK (toksTs ts)
def toksTs:List Ty→List (List Kt) | []=>[]|t :: r=>toksT t :: toksTs r
end
theorem toksTs_map (l:List Ty):toksTs l=l.map toksT:=by
 induction l with
 | nil=>rfl
 | cons t r ih=>simp[toksTs,ih]
theorem toksT_mk (n:Str) (ts:List Ty) (p:Int):toksT (.mk n ts p)=(1,n) :: brK (ts.map toksT):=by rw[toksT,toksTs_map]
mutual
def toksE:Exp→List Kt
 | .mk k n t a l _=>
  if k=3 then toksT t++sgn 123 :: (commaK (toksEs l)++[sgn 125])
  else match toksEs l with
   | []=>[(1,n)]
   | x :: r=>if k=2 then x++sgn 46 :: (1,n) :: (brK (a.map toksT)++sgn 40 :: (commaK r++[sgn 41]))
    else if k=4 then x++[sgn 46,(1,n)]
    else if k=5 then x++sgn 46 :: sgn 40 :: (toksT t++[sgn 41])
    else [(1,n)]
def toksEs:List Exp→List (List Kt) | []=>[]|e :: r=>toksE e :: toksEs r
end
theorem toksEs_map (l:List Exp):toksEs l=l.map toksE:=by
 induction l with
 | nil=>rfl
 | cons t r ih=>simp[toksEs,ih]

theorem wc_good (c:UInt8):wc c=goodB c:=rfl
theorem wordN_end:∀ (w t:List UInt8),w.all goodB=true→endB t→wordN (w++t)=w.length
 | [],t,_,h=>by
  rcases h with rfl|⟨c,r,rfl,hc⟩
  ·rfl
  ·rw[List.nil_append,wordN_cons,wc_good,hc];rfl
 | c :: w,t,hw,h=>by
  simp only[List.all_cons,Bool.and_eq_true] at hw
  rw[List.cons_append,wordN_cons,wc_good,if_pos hw.1,wordN_end w t hw.2 h]
  simp;omega
theorem lx_name {n x:Str} (h:isName n=true) (hx:endB x):tkK (n++x)=(tkK x).map ((1,n) :: ·):=by
 have hall:=isName_all h
 cases n with
 | nil=>simp[isName] at h
 | cons c r=>
  have hc:clsI c.toNat=1:=by simp only[isName,Bool.and_eq_true,beq_iff_eq] at h;exact h.1.1
  have hp:¬ Lib.hasPrefix (c :: (r++x)) [47,47]=true:=fun hp=>by
   have:=pre_ne hp
   subst this
   revert hc;decide
  have hw:=wordN_end (c :: r) x hall hx
  rw[List.cons_append] at hw
  rw[List.cons_append,tkK_cons,if_neg (by omega),if_neg hp,if_pos hc,hw]
  have e1:(c :: (r++x)).drop (c :: r).length=x:=by rw[←List.cons_append];simp
  have e2:(c :: (r++x)).take (c :: r).length=c :: r:=by rw[←List.cons_append];simp
  rw[e1,e2]
theorem lx_sign {c:UInt8} (h:0≤Lib.indexByte signs c) (x:Str):tkK (c :: x)=(tkK x).map (sgn c :: ·):=by
 obtain ⟨h1,h2,h3⟩:=sign_facts c h
 rw[tkK_cons,if_neg h1,if_neg (fun hp=>h2 (pre_ne hp)),if_neg h3,if_pos h];rfl
theorem lx_blank (x:Str):tkK (32 :: x)=tkK x:=by rw[tkK_cons,if_pos (by decide)]
theorem omap {a:Option (List Kt)} (x:Kt) (l:List Kt):((a.map (l++·)).map (x :: ·))=a.map ((x :: l)++·):=by cases a<;>rfl
theorem omap2 {a:Option (List Kt)} (k l:List Kt):((a.map (l++·)).map (k++·))=a.map ((k++l)++·):=by cases a<;>simp
theorem endB_c {c:UInt8} {x:Str} (h:goodB c=false):endB (c :: x):=.inr ⟨c,x,rfl,h⟩

def LX (s:Str) (k:List Kt):Prop:=∀ x,endB x→tkK (s++x)=(tkK x).map (k++·)
theorem lx_tail {α:Type} (tx:α→Str) (tk:α→List Kt):∀ l:List α,(∀ a∈l,LX (tx a) (tk a))→∀ x,endB x→endB (Lib.joinTail [44,32] (l.map tx)++x)∧tkK (Lib.joinTail [44,32] (l.map tx)++x)=(tkK x).map (tailK (l.map tk)++·)
 | [],_,x,hx=>⟨by simpa[Lib.joinTail] using hx,by simp[Lib.joinTail,tailK]⟩
 | a :: l,h,x,hx=>by
  obtain ⟨h1,h2⟩:=lx_tail tx tk l (fun b hb=>h b (by simp[hb])) x hx
  have e:Lib.joinTail [44,32] ((a :: l).map tx)++x=44 :: 32 :: (tx a++(Lib.joinTail [44,32] (l.map tx)++x)):=by
   simp[Lib.joinTail,List.append_assoc]
  rw[e]
  refine ⟨endB_c (by decide),?_⟩
  rw[lx_sign (by decide),lx_blank,h a (by simp) _ h1,h2,omap2,omap]
  simp[tailK]
theorem lx_join {α:Type} (tx:α→Str) (tk:α→List Kt) (l:List α) (h:∀ a∈l,LX (tx a) (tk a)) (x:Str) (hx:endB x):tkK (Lib.join (l.map tx) [44,32]++x)=(tkK x).map (commaK (l.map tk)++·):=by
 cases l with
 | nil=>simp[Lib.join,commaK]
 | cons a l=>
  obtain ⟨h1,h2⟩:=lx_tail tx tk l (fun b hb=>h b (by simp[hb])) x hx
  rw[List.map_cons,Lib.join_cons,List.append_assoc,h a (by simp) _ h1,h2,omap2]
  rfl
theorem txts_map' (l:List Ty):txts l=l.map txt:=by
 induction l with
 | nil=>rfl
 | cons t r ih=>simp[txts,ih]
theorem txt_br (n:Str) (ts:List Ty) (p:Int):txt (.mk n ts p)=n++(if ts.isEmpty then [] else 91 :: (Lib.join (ts.map txt) [44,32]++[93])):=by
 rw[txt,txts_map']
 split<;>simp
theorem lx_br (ts:List Ty) (h:∀ t∈ts,LX (txt t) (toksT t)) (x:Str) (hx:endB x):endB ((if ts.isEmpty then [] else 91 :: (Lib.join (ts.map txt) [44,32]++[93]))++x)∧tkK ((if ts.isEmpty then [] else 91 :: (Lib.join (ts.map txt) [44,32]++[93]))++x)=(tkK x).map (brK (ts.map toksT)++·):=by
 cases ts with
 | nil=>exact ⟨by simpa using hx,by simp[brK]⟩
 | cons t ts=>
  simp only[List.isEmpty_cons,Bool.false_eq_true,if_false]
  refine ⟨endB_c (by decide),?_⟩
  rw[List.cons_append,List.append_assoc,List.singleton_append,lx_sign (by decide),lx_join txt toksT (t :: ts) h _ (endB_c (by decide)),lx_sign (by decide)]
  cases tkK x<;>simp[brK]
theorem lx_txt:∀ t:Ty,rightT t=true→LX (txt t) (toksT t):=by
 intro t
 induction t using Ty.ind with
 | h n ts p ih=>
  intro ht x hx
  obtain ⟨hn,hts⟩:=right_name ht
  obtain ⟨h1,h2⟩:=lx_br ts (fun t h=>ih t h (hts t h)) x hx
  rw[txt_br,List.append_assoc,lx_name hn h1,h2,omap,toksT_mk]

theorem right_cases {k:Int} {n:Str} {t:Ty} {a:List Ty} {l:List Exp} {p:Int} (h:rightE (.mk k n t a l p)=true):
  (∀ e∈l,rightE e=true)∧((k=1∧isName n=true∧l=[]∧t.name=[]∧t.args=[]∧a=[])∨(k=2∧isName n=true∧(∃ x r,l=x :: r)∧t.name=[]∧t.args=[]∧∀ u∈a,rightT u=true)∨(k=3∧n=[]∧rightT t=true∧a=[]) ∨
   (k=4∧isName n=true∧(∃ x,l=[x])∧t.name=[]∧t.args=[]∧a=[])∨(k=5∧n=[]∧(∃ x,l=[x])∧rightT t=true∧a=[])):=by
 rw[rightE_ok] at h
 simp only[Bool.and_eq_true] at h
 obtain ⟨⟨⟨h1,h2⟩,h3⟩,h4⟩:=h
 refine ⟨fun e he=>by rw[rightEs_all,List.all_eq_true] at h1;exact h1 e he,?_⟩
 unfold kidsE at h4
 unfold okT at h2
 unfold bodyE typedE at h3
 split at h4
 ·rename_i hk
  simp only[beq_iff_eq] at hk;subst hk
  simp at h2 h3 h4
  exact .inl ⟨rfl,h3.2,h4,h3.1.1,h3.1.2,h2⟩
 ·split at h4
  ·rename_i hk
   simp only[beq_iff_eq] at hk;subst hk
   simp at h2 h3 h4
   refine .inr (.inl ⟨rfl,h3.2,?_,h3.1.1,h3.1.2,?_⟩)
   ·cases l with
    | nil=>exact absurd rfl h4
    | cons x r=>exact ⟨x,r,rfl⟩
   ·rcases h2 with rfl|h2
    ·intro u hu;cases hu
    ·exact h2
  ·split at h4
   ·rename_i hk
    simp only[beq_iff_eq] at hk;subst hk
    simp at h2 h3
    exact .inr (.inr (.inl ⟨rfl,h3.2,h3.1,h2⟩))
   ·split at h4
    ·rename_i hk
     simp only[Bool.or_eq_true,beq_iff_eq] at hk
     have hx:∃ x,l=[x]:=by
      simp at h4
      match l,h4 with
      | [x],_=>exact ⟨x,rfl⟩
     rcases hk with rfl|rfl
     ·simp at h2 h3
      exact .inr (.inr (.inr (.inl ⟨rfl,h3.2,hx,h3.1.1,h3.1.2,h2⟩)))
     ·simp at h2 h3
      exact .inr (.inr (.inr (.inr ⟨rfl,h3.2,hx,h3.1,h2⟩)))
    ·cases h4

theorem txtE_1 {n:Str} {t:Ty} {a:List Ty} {p:Int}:txtE (.mk 1 n t a [] p)=n:=by simp[txtE,txtEs]
theorem toksE_1 {n:Str} {t:Ty} {a:List Ty} {p:Int}:toksE (.mk 1 n t a [] p)=[(1,n)]:=by simp[toksE,toksEs]
theorem txtE_2 {n:Str} {t:Ty} {a:List Ty} {x:Exp} {r:List Exp} {p:Int}:txtE (.mk 2 n t a (x :: r) p)=txtE x++46 :: (n++((if a.isEmpty then [] else 91 :: (Lib.join (a.map txt) [44,32]++[93]))++40 :: (Lib.join (r.map txtE) [44,32]++[41]))):=by
 simp[txtE,txtEs_map,txt_br]
theorem toksE_2 {n:Str} {t:Ty} {a:List Ty} {x:Exp} {r:List Exp} {p:Int}:toksE (.mk 2 n t a (x :: r) p)=toksE x++sgn 46 :: (1,n) :: (brK (a.map toksT)++sgn 40 :: (commaK (r.map toksE)++[sgn 41])):=by
 simp[toksE,toksEs_map]
theorem txtE_3 {n:Str} {t:Ty} {a:List Ty} {l:List Exp} {p:Int}:txtE (.mk 3 n t a l p)=txt t++123 :: (Lib.join (l.map txtE) [44,32]++[125]):=by
 simp[txtE,txtEs_map]
theorem toksE_3 {n:Str} {t:Ty} {a:List Ty} {l:List Exp} {p:Int}:toksE (.mk 3 n t a l p)=toksT t++sgn 123 :: (commaK (l.map toksE)++[sgn 125]):=by
 simp[toksE,toksEs_map]
theorem txtE_4 {n:Str} {t:Ty} {a:List Ty} {x:Exp} {p:Int}:txtE (.mk 4 n t a [x] p)=txtE x++46 :: n:=by simp[txtE,txtEs]
theorem toksE_4 {n:Str} {t:Ty} {a:List Ty} {x:Exp} {p:Int}:toksE (.mk 4 n t a [x] p)=toksE x++[sgn 46,(1,n)]:=by simp[toksE,toksEs]
theorem txtE_5 {n:Str} {t:Ty} {a:List Ty} {x:Exp} {p:Int}:txtE (.mk 5 n t a [x] p)=txtE x++46 :: 40 :: (txt t++[41]):=by simp[txtE,txtEs]
theorem toksE_5 {n:Str} {t:Ty} {a:List Ty} {x:Exp} {p:Int}:toksE (.mk 5 n t a [x] p)=toksE x++sgn 46 :: sgn 40 :: (toksT t++[sgn 41]):=by simp[toksE,toksEs]

theorem lx_txtE:∀ e:Exp,rightE e=true→LX (txtE e) (toksE e):=by
 intro e
 induction e using Exp.ind with
 | h k n t a l p ih=>
  intro he x hx
  obtain ⟨hl,hc⟩:=right_cases he
  have hd:∀ y,endB (46 :: y):=fun y=>endB_c (by decide)
  rcases hc with ⟨rfl,hn,rfl,-⟩|⟨rfl,hn,⟨y,r,rfl⟩,-,-,ha⟩|⟨rfl,-,ht,-⟩|⟨rfl,hn,⟨y,rfl⟩,-⟩|⟨rfl,-,⟨y,rfl⟩,ht,-⟩
  ·rw[txtE_1,toksE_1,lx_name hn hx];rfl
  ·obtain ⟨h1,h2⟩:=lx_br a (fun u hu=>lx_txt u (ha u hu)) (40 :: (Lib.join (r.map txtE) [44,32]++41 :: x)) (endB_c (by decide))
   have e1:txtE (.mk 2 n t a (y :: r) p)++x=txtE y++46 :: (n++((if a.isEmpty then [] else 91 :: (Lib.join (a.map txt) [44,32]++[93]))++40 :: (Lib.join (r.map txtE) [44,32]++41 :: x))):=by
    rw[txtE_2];simp[List.append_assoc]
   rw[e1,ih y (by simp) (hl y (by simp)) _ (hd _),lx_sign (by decide),lx_name hn h1,h2,lx_sign (by decide),lx_join txtE toksE r (fun b hb=>ih b (by simp[hb]) (hl b (by simp[hb]))) _ (endB_c (by decide)),lx_sign (by decide),toksE_2]
   cases tkK x<;>simp
  ·have e1:txtE (.mk 3 n t a l p)++x=txt t++123 :: (Lib.join (l.map txtE) [44,32]++125 :: x):=by
    rw[txtE_3];simp[List.append_assoc]
   rw[e1,lx_txt t ht _ (endB_c (by decide)),lx_sign (by decide),lx_join txtE toksE l (fun b hb=>ih b hb (hl b hb)) _ (endB_c (by decide)),lx_sign (by decide),toksE_3]
   cases tkK x<;>simp
  ·have e1:txtE (.mk 4 n t a [y] p)++x=txtE y++46 :: (n++x):=by rw[txtE_4];simp[List.append_assoc]
   rw[e1,ih y (by simp) (hl y (by simp)) _ (hd _),lx_sign (by decide),lx_name hn hx,toksE_4]
   cases tkK x<;>simp
  ·have e1:txtE (.mk 5 n t a [y] p)++x=txtE y++46 :: 40 :: (txt t++41 :: x):=by rw[txtE_5];simp[List.append_assoc]
   rw[e1,ih y (by simp) (hl y (by simp)) _ (hd _),lx_sign (by decide),lx_sign (by decide),lx_txt t ht _ (endB_c (by decide)),lx_sign (by decide),toksE_5]
   cases tkK x<;>simp
end Go.Pv
end

section
/- What is read from the tokens of a right type or expression is that type or expression. -/
namespace Go.Pv
open Go

def nx (r:List Kt) (s:Str):Bool:=match r with | []=>false|x :: _=>x.1 != 3&&x.2==s
def At (c:Cur) (r:List Kt):Prop:=c.err=none∧c.l.map ktOf=r

section
variable {c:Cur} {r:List Kt} {s:Str}
theorem At.len (h:At c r):c.l.length=r.length:=by rw[←h.2,List.length_map]
theorem At.next (h:At c r) (s:Str):c.next s=nx r s:=by
 unfold Cur.next Cur.first
 rw[h.1,← h.2]
 cases c.l with
 | nil=>rfl
 | cons t l=>rfl
theorem At.adv {x:Kt} (h:At c (x :: r)):At c.adv r:=by
 refine ⟨h.1,?_⟩
 cases hl:c.l with
 | nil=>have:=h.2;rw[hl] at this;cases this
 | cons t l=>
  have:=h.2
  rw[hl] at this
  simp only[List.map_cons,List.cons.injEq] at this
  rw[show c.adv.l=l by simp[Cur.adv,hl]];exact this.2
theorem At.must {c1:UInt8} (h:At c (sgn c1 :: r)):At (c.must [c1]) r:=by
 rw[Cur.must,h.next]
 rw[if_pos (by simp[nx,sgn])]
 exact h.adv
theorem At.named {n:Str} (h:At c ((1,n) :: r)) (hn:isName n=true):c.nm=n∧At c.name r:=by
 have hf:c.first.1=1∧c.first.2.1=n:=by
  unfold Cur.first
  rw[h.1]
  cases hl:c.l with
  | nil=>have:=h.2;rw[hl] at this;cases this
  | cons t l=>
   have:=h.2
   rw[hl] at this
   simp only[List.map_cons,List.cons.injEq,ktOf,Prod.mk.injEq] at this
   exact this.1
 have hd:c.named=true:=by simp[Cur.named,hf.1,hf.2,hn]
 exact ⟨by simp[Cur.nm,hd,hf.2],by rw[Cur.name,if_pos hd];exact h.adv⟩
end

section
variable {α:Type} {rd:Cur→α×Cur} {st:α→α} {tk:α→List Kt} {ok:List Kt→Prop} {n:Nat}
theorem loop_bk (hc:∀ r,ok (sgn 44 :: r)) (hs:∀ c,(rd c).2.l <:+ c.l):∀ (xs:List α),(∀ x∈xs,∀ c r,At c (tk x++r)→ok r→c.l.length < n→st (rd c).1=st x∧At (rd c).2 r) →
  ∀ (c:Cur) (r:List Kt),At c (tailK (xs.map tk)++r)→nx r [44]=false→ok r→c.l.length≤n→(loopC rd c.l.length c).1.map st=xs.map st∧At (loopC rd c.l.length c).2 r
 | [],_,c,r,h,hr,_,_=>by
  have h':At c r:=by simpa[tailK] using h
  rw[loopC_at (fun c=>(hs c).length_le),h'.next,hr]
  exact ⟨rfl,h'⟩
 | x :: xs,hx,c,r,h,hr,hk,hn=>by
  have h':At c (sgn 44 :: (tk x++(tailK (xs.map tk)++r))):=by simpa[tailK] using h
  have hlen:=h'.len
  rw[loopC_at (fun c=>(hs c).length_le),h'.next,if_pos (by simp[nx,sgn])]
  have ha:=h'.adv
  have hl2:=ha.len
  obtain ⟨h1,h2⟩:=hx x (by simp) _ _ ha (by cases xs with
   | nil=>simpa[tailK] using hk
   | cons y ys=>exact hc _) (by simp at hlen hl2 ⊢;omega)
  obtain ⟨h3,h4⟩:=loop_bk hc hs xs (fun y hy=>hx y (by simp[hy])) _ _ h2 hr hk (by
   have:=(hs c.adv).length_le
   simp at hlen hl2;omega)
  exact ⟨by simp[h1,h3],h4⟩
theorem list_bk (hc:∀ r,ok (sgn 44 :: r)) (hs:∀ c,(rd c).2.l <:+ c.l) (x:α) (xs:List α) (hx:∀ y∈x :: xs,∀ c r,At c (tk y++r)→ok r→c.l.length < n→st (rd c).1=st y∧At (rd c).2 r)
  (c:Cur) (r:List Kt) (h:At c (commaK ((x :: xs).map tk)++r)) (hr:nx r [44]=false) (hk:ok r) (hn:c.l.length < n):(listC rd c).1.map st=(x :: xs).map st∧At (listC rd c).2 r:=by
 have h':At c (tk x++(tailK (xs.map tk)++r)):=by simpa[commaK] using h
 obtain ⟨h1,h2⟩:=hx x (by simp) c _ h' (by cases xs with
   | nil=>simpa[tailK] using hk
   | cons y ys=>exact hc _) hn
 have hl:=(hs c).length_le
 obtain ⟨h3,h4⟩:=loop_bk hc hs xs (fun y hy=>hx y (by simp[hy])) _ _ h2 hr hk (by omega)
 exact ⟨by simp[listC,h1,h3],h4⟩
end

def okK (r:List Kt):Prop:=nx r [91]=false
theorem okK_s {c:UInt8} (h:c≠91) (r:List Kt):okK (sgn c :: r):=by simp[okK,nx,sgn,h]
theorem targs_bk {rd:Cur→Ty×Cur} {n:Nat} (hs:∀ c,(rd c).2.l <:+ c.l) (ts:List Ty) (hx:∀ y∈ts,∀ c r,At c (toksT y++r)→okK r→c.l.length < n→stT (rd c).1=stT y∧At (rd c).2 r)
  (c:Cur) (r:List Kt) (h:At c (brK (ts.map toksT)++r)) (hr:okK r) (hn:c.l.length≤n):(targsC rd c).1.map stT=ts.map stT∧At (targsC rd c).2 r:=by
 cases ts with
 | nil=>
  have h':At c r:=by simpa[brK] using h
  rw[targsC,h'.next,hr]
  exact ⟨rfl,h'⟩
 | cons t ts=>
  have h':At c (sgn 91 :: (commaK ((t :: ts).map toksT)++sgn 93 :: r)):=by simpa[brK] using h
  have hl:=h'.len
  have ha:=h'.adv
  have hl2:=ha.len
  rw[targsC,h'.next,if_pos (by simp[nx,sgn])]
  obtain ⟨h1,h2⟩:=list_bk (st:=stT) (tk:=toksT) (ok:=okK) (n:=n) (fun r=>okK_s (by decide) r) hs t ts hx c.adv _ ha (by simp[nx,sgn]) (okK_s (by decide) _) (by simp at hl hl2;omega)
  exact ⟨h1,h2.must⟩
theorem type_bk:∀ t:Ty,rightT t=true→∀ (n:Nat) (c:Cur) (r:List Kt),At c (toksT t++r)→okK r→c.l.length < n→stT (typeC n c).1=stT t∧At (typeC n c).2 r:=by
 intro t
 induction t using Ty.ind with
 | h nm ts p ih=>
  intro ht n c r h hr hn
  obtain ⟨hnm,hts⟩:=right_name ht
  cases n with
  | zero=>omega
  | succ n=>
   rw[toksT_mk] at h
   have h':At c ((1,nm) :: (brK (ts.map toksT)++r)):=by simpa using h
   obtain ⟨h1,h2⟩:=h'.named hnm
   have hl:=h'.len
   have hl2:=h2.len
   obtain ⟨h3,h4⟩:=targs_bk (rd:=typeC n) (n:=n) (typeC_suf n) ts (fun y hy c r h hr hn=>ih y hy (hts y hy) n c r h hr hn) c.name r h2 hr (by simp at hl hl2;omega)
   refine ⟨?_,h4⟩
   show stT (.mk c.nm (targsC (typeC n) c.name).1 c.at_)=_
   rw[stT_mk,stT_mk,h1,h3]

def okA (r:List Kt):Prop:=nx r [91]=false∧nx r [123]=false∧nx r [40]=false
def okE (r:List Kt):Prop:=okA r∧nx r [46]=false
theorem okA_s {c:UInt8} (h:c≠91∧c≠123∧c≠40) (r:List Kt):okA (sgn c :: r):=by simp[okA,nx,sgn,h]
theorem okE_s {c:UInt8} (h:c≠91∧c≠123∧c≠40) (h2:c≠46) (r:List Kt):okE (sgn c :: r):=⟨okA_s h r,by simp[nx,sgn,h2]⟩
theorem args_bk {rd:Cur→Exp×Cur} {n:Nat} (e:UInt8) (he:(e≠91∧e≠123∧e≠40)∧e≠46∧e≠44) (hs:∀ c,(rd c).2.l <:+ c.l) (xs:List Exp) (hx:∀ y∈xs,∀ c r,At c (toksE y++r)→okE r→c.l.length < n→stE (rd c).1=stE y∧At (rd c).2 r) (hh:∀ y∈xs,∀ r,nx (toksE y++r) [e]=false)
  (c:Cur) (r:List Kt) (h:At c (commaK (xs.map toksE)++sgn e :: r)) (hn:c.l.length < n):(argsC rd [e] c).1.map stE=xs.map stE∧At (argsC rd [e] c).2 r:=by
 cases xs with
 | nil=>
  have h':At c (sgn e :: r):=by simpa[commaK] using h
  rw[argsC,h'.next,if_pos (by simp[nx,sgn])]
  exact ⟨rfl,h'.must⟩
 | cons x xs=>
  have hnn:c.next [e]=false:=by
   rw[h.next]
   have:=hh x (by simp) (tailK (xs.map toksE)++sgn e :: r)
   simpa[commaK] using this
  rw[argsC,hnn]
  obtain ⟨h1,h2⟩:=list_bk (st:=stE) (tk:=toksE) (ok:=okE) (n:=n) (fun r=>okE_s (by decide) (by decide) r) hs x xs hx c _ h (by simp[nx,sgn,he.2.2]) (okE_s he.1 he.2.1 _) hn
  exact ⟨h1,h2.must⟩
theorem toksE_head:∀ e:Exp,rightE e=true→∃ n k,isName n=true∧toksE e=(1,n) :: k:=by
 intro e
 induction e using Exp.ind with
 | h k n t a l p ih=>
  intro he
  obtain ⟨hl,hc⟩:=right_cases he
  rcases hc with ⟨rfl,hn,rfl,-⟩|⟨rfl,hn,⟨y,r,rfl⟩,-⟩|⟨rfl,-,ht,-⟩|⟨rfl,hn,⟨y,rfl⟩,-⟩|⟨rfl,-,⟨y,rfl⟩,ht,-⟩
  ·exact ⟨n,[],hn,toksE_1⟩
  ·obtain ⟨m,k,h1,h2⟩:=ih y (by simp) (hl y (by simp));exact ⟨m,_,h1,by rw[toksE_2,h2];rfl⟩
  ·obtain ⟨tn,ts,tp⟩:=t;exact ⟨tn,_,(right_name ht).1,by rw[toksE_3,toksT_mk];rfl⟩
  ·obtain ⟨m,k,h1,h2⟩:=ih y (by simp) (hl y (by simp));exact ⟨m,_,h1,by rw[toksE_4,h2];rfl⟩
  ·obtain ⟨m,k,h1,h2⟩:=ih y (by simp) (hl y (by simp));exact ⟨m,_,h1,by rw[toksE_5,h2];rfl⟩
theorem name_not_sign {n:Str} (h:isName n=true) {c:UInt8} (hc:goodB c=false):n≠[c]:=by
 rintro rfl
 have:=isName_all h
 simp[hc] at this
theorem toksE_nx {e:Exp} (he:rightE e=true) {c:UInt8} (hc:goodB c=false) (r:List Kt):nx (toksE e++r) [c]=false:=by
 obtain ⟨n,k,h1,h2⟩:=toksE_head e he
 rw[h2]
 simp[nx,name_not_sign h1 hc]

theorem expr_bk:∀ e:Exp,rightE e=true→∀ (q:Nat) (c:Cur) (r:List Kt),At c (toksE e++r)→okA r→c.l.length < q+1 →
  ∃ e' c',stE e'=stE e∧At c' r∧exprC (q+1) c=dotsC (restC (typeC q) (exprC q)) c'.l.length e' c':=by
 intro e
 induction e using Exp.ind with
 | h k n t a l p ih=>
  intro he q c r h hr hq
  obtain ⟨hl,hcs⟩:=right_cases he
  have hfull:∀ y∈l,∀ c r,At c (toksE y++r)→okE r→c.l.length < q→stE (exprC q c).1=stE y∧At (exprC q c).2 r:=by
   intro y hy c r h hr hn
   cases q with
   | zero=>omega
   | succ q=>
    obtain ⟨e',c',h1,h2,h3⟩:=ih y hy (hl y hy) q c r h hr.1 hn
    rw[h3,dotsC_at (fun e c=>(restC_suf (typeC_suf q) (exprC_suf q) e c).length_le),h2.next,hr.2]
    exact ⟨h1,h2⟩
  have hdl:=fun e c=>(restC_suf (typeC_suf q) (exprC_suf q) e c).length_le
  have hstT0:∀ {t:Ty},t.name=[]→t.args=[]→stT t=ty0:=fun {t} h1 h2=>by
   obtain ⟨tn,ts,tp⟩:=t
   simp only[Ty.name,Ty.args] at h1 h2
   subst h1;subst h2;rfl
  -- behind an expression and a dot
  have hdot:∀ (y:Exp),y∈l→∀ (r2:List Kt),At c (toksE y++sgn 46 :: r2)→∃ e' c',stE e'=stE y∧At c' r2∧c'.l.length < q∧exprC (q+1) c=dotsC (restC (typeC q) (exprC q)) (restC (typeC q) (exprC q) e' c').2.l.length (restC (typeC q) (exprC q) e' c').1 (restC (typeC q) (exprC q) e' c').2:=by
   intro y hy r2 h
   obtain ⟨e',c',h1,h2,h3⟩:=ih y hy (hl y hy) q c _ h (okA_s (by decide) _) hq
   refine ⟨e',c'.adv,h1,h2.adv,?_,?_⟩
   ·have h4:=h.len
    have h5:=h2.adv.len
    obtain ⟨m,k,-,h6⟩:=toksE_head y (hl y hy)
    rw[h6] at h4
    simp at h4;omega
   ·rw[h3,dotsC_at hdl,h2.next,if_pos (by simp[nx,sgn])]
  rcases hcs with ⟨rfl,hn,rfl,ht1,ht2,rfl⟩|⟨rfl,hn,⟨y,rs,rfl⟩,ht1,ht2,ha⟩|⟨rfl,rfl,ht,rfl⟩|⟨rfl,hn,⟨y,rfl⟩,ht1,ht2,rfl⟩|⟨rfl,rfl,⟨y,rfl⟩,ht,rfl⟩
  ·rw[toksE_1] at h
   have h':At c ((1,n) :: r):=by simpa using h
   obtain ⟨h1,h2⟩:=h'.named hn
   refine ⟨.mk 1 c.nm ty0 [] [] c.at_,c.name,?_,h2,?_⟩
   ·rw[stE_mk,stE_mk,h1,hstT0 ht1 ht2];rfl
   ·show dotsC _ (baseC (typeC q) (exprC q) c).2.l.length (baseC (typeC q) (exprC q) c).1 (baseC (typeC q) (exprC q) c).2=_
    rw[baseC,h2.next,h2.next,hr.1,hr.2.1];rfl
  ·rw[toksE_2] at h
   have h':At c (toksE y++sgn 46 :: ((1,n) :: (brK (a.map toksT)++sgn 40 :: (commaK (rs.map toksE)++sgn 41 :: r)))):=by simpa using h
   obtain ⟨e',c',h1,h2,h3,h4⟩:=hdot y (by simp) _ h'
   obtain ⟨h5,h6⟩:=h2.named hn
   have hl2:=h2.len
   have hl6:=h6.len
   obtain ⟨h7,h8⟩:=targs_bk (rd:=typeC q) (n:=q) (typeC_suf q) a (fun u hu c r h hr hn=>type_bk u (ha u hu) q c r h hr hn) c'.name _ h6 (okK_s (by decide) _) (by simp at hl2 hl6;omega)
   have h9:=h8.must
   have hl9:((targsC (typeC q) c'.name).2.must [40]).l.length < q:=by
    have q1:=((targsC (typeC q) c'.name).2.must_suf [40]).length_le
    have q2:=(targsC_suf (typeC_suf q) c'.name).length_le
    simp at hl2 hl6;omega
   obtain ⟨h10,h11⟩:=args_bk (rd:=exprC q) (n:=q) 41 (by decide) (exprC_suf q) rs (fun z hz=>hfull z (by simp[hz])) (fun z hz r=>toksE_nx (hl z (by simp[hz])) (by decide) r) _ _ h9 hl9
   have hnx:(c'.name.next [91] || c'.name.next [40])=true:=by
    rw[h6.next,h6.next]
    cases a with
    | nil=>simp[brK,nx,sgn]
    | cons u us=>simp[brK,nx,sgn]
   have hno:c'.next [40]=false:=by rw[h2.next];simp[nx,name_not_sign hn (show goodB 40=false by decide)]
   have hrest:restC (typeC q) (exprC q) e' c'=(.mk 2 c'.nm ty0 (targsC (typeC q) c'.name).1 (e' :: (argsC (exprC q) [41] ((targsC (typeC q) c'.name).2.must [40])).1) c'.at_,(argsC (exprC q) [41] ((targsC (typeC q) c'.name).2.must [40])).2):=by
    have hq2:(!c'.name.next [91]&&!c'.name.next [40])=false:=by
     cases g1:c'.name.next [91]<;>cases g2:c'.name.next [40]<;>simp_all
    rw[restC,hno,hq2];rfl
   refine ⟨_,_,?_,h11,by rw[h4,hrest]⟩
   rw[stE_mk,stE_mk,h5,hstT0 ht1 ht2,h7,List.map_cons,List.map_cons,h1,h10];rfl
  ·rw[toksE_3] at h
   obtain ⟨tn,ts,tp⟩:=t
   obtain ⟨htn,hts⟩:=right_name ht
   rw[toksT_mk] at h
   have h':At c ((1,tn) :: (brK (ts.map toksT)++sgn 123 :: (commaK (l.map toksE)++sgn 125 :: r))):=by simpa using h
   obtain ⟨h5,h6⟩:=h'.named htn
   have hl2:=h'.len
   have hl6:=h6.len
   obtain ⟨h7,h8⟩:=targs_bk (rd:=typeC q) (n:=q) (typeC_suf q) ts (fun u hu c r h hr hn=>type_bk u (hts u hu) q c r h hr hn) c.name _ h6 (okK_s (by decide) _) (by simp at hl2 hl6;omega)
   have h9:=h8.must
   have hl9:((targsC (typeC q) c.name).2.must [123]).l.length < q:=by
    have q1:=((targsC (typeC q) c.name).2.must_suf [123]).length_le
    have q2:=(targsC_suf (typeC_suf q) c.name).length_le
    have q3:=h9.len
    have q4:=h8.len
    simp at hl2 hl6 q4;omega
   obtain ⟨h10,h11⟩:=args_bk (rd:=exprC q) (n:=q) 125 (by decide) (exprC_suf q) l hfull (fun z hz r=>toksE_nx (hl z hz) (by decide) r) _ _ h9 hl9
   have hnx:(c.name.next [91] || c.name.next [123])=true:=by
    rw[h6.next,h6.next]
    cases ts with
    | nil=>simp[brK,nx,sgn]
    | cons u us=>simp[brK,nx,sgn]
   refine ⟨.mk 3 [] (.mk c.nm (targsC (typeC q) c.name).1 c.at_) [] (argsC (exprC q) [125] ((targsC (typeC q) c.name).2.must [123])).1 c.at_,_,?_,h11,?_⟩
   ·rw[stE_mk,stE_mk,stT_mk,stT_mk,h5,h7,h10]
   ·show dotsC _ (baseC (typeC q) (exprC q) c).2.l.length (baseC (typeC q) (exprC q) c).1 (baseC (typeC q) (exprC q) c).2=_
    rw[baseC,hnx];rfl
  ·rw[toksE_4] at h
   have h':At c (toksE y++sgn 46 :: ((1,n) :: r)):=by simpa using h
   obtain ⟨e',c',h1,h2,h3,h4⟩:=hdot y (by simp) _ h'
   obtain ⟨h5,h6⟩:=h2.named hn
   have hno:c'.next [40]=false:=by rw[h2.next];simp[nx,name_not_sign hn (show goodB 40=false by decide)]
   have hrest:restC (typeC q) (exprC q) e' c'=(.mk 4 c'.nm ty0 [] [e'] c'.at_,c'.name):=by
    rw[restC,hno,h6.next,h6.next,hr.1,hr.2.2];rfl
   refine ⟨_,_,?_,h6,by rw[h4,hrest]⟩
   rw[stE_mk,stE_mk,h5,hstT0 ht1 ht2,List.map_cons,List.map_cons,h1];rfl
  ·rw[toksE_5] at h
   have h':At c (toksE y++sgn 46 :: (sgn 40 :: (toksT t++sgn 41 :: r))):=by simpa using h
   obtain ⟨e',c',h1,h2,h3,h4⟩:=hdot y (by simp) _ h'
   have h5:=h2.adv
   have hl5:=h5.len
   have hl2:=h2.len
   obtain ⟨h6,h7⟩:=type_bk t ht q c'.adv _ h5 (okK_s (by decide) _) (by simp at hl2 hl5;omega)
   have hrest:restC (typeC q) (exprC q) e' c'=(.mk 5 [] (typeC q c'.adv).1 [] [e'] c'.first.2.2,(typeC q c'.adv).2.must [41]):=by
    rw[restC,h2.next,if_pos (by simp[nx,sgn])]
   refine ⟨_,_,?_,h7.must,by rw[h4,hrest]⟩
   rw[stE_mk,stE_mk,h6,List.map_cons,List.map_cons,h1]

theorem expr_back {e:Exp} (he:rightE e=true) {n:Nat} {c:Cur} {r:List Kt} (h:At c (toksE e++r)) (hr:okE r) (hn:c.l.length < n):stE (exprC n c).1=stE e∧At (exprC n c).2 r:=by
 cases n with
 | zero=>omega
 | succ q=>
  obtain ⟨e',c',h1,h2,h3⟩:=expr_bk e he q c r h hr.1 hn
  rw[h3,dotsC_at (fun e c=>(restC_suf (typeC_suf q) (exprC_suf q) e c).length_le),h2.next,hr.2]
  exact ⟨h1,h2⟩

end Go.Pv
end

section
/- How long the texts of few-parted types and expressions are; what is read from them, whole, and with blanks and comments. -/
namespace Go.Pv
open Go

def sp7:List Kt→Nat
 | []=>0
 | x :: r=>x.2.length+7+sp7 r
theorem wt_st:∀ t:Ty,wt (stT t)=wt t:=by
 intro t
 induction t using Ty.ind with
 | h n ts p ih=>
  have key:∀ l:List Ty,(∀ t∈l,wt (stT t)=wt t)→wts (l.map stT)=wts l:=by
   intro l
   induction l with
   | nil=>intro _;rfl
   | cons t l ihl=>intro h;simp only[List.map_cons,wts,h t (by simp),ihl (fun z hz=>h z (by simp[hz]))]
  rw[stT_mk];simp only[wt,key ts ih]
theorem wts_st (l:List Ty):wts (l.map stT)=wts l:=by
 induction l with
 | nil=>rfl
 | cons t l ih=>simp only[List.map_cons,wts,wt_st,ih]
theorem wtE_st:∀ e:Exp,wtE (stE e)=wtE e:=by
 intro e
 induction e using Exp.ind with
 | h k n t a l p ih=>
  have key:∀ l:List Exp,(∀ t∈l,wtE (stE t)=wtE t)→wtEs (l.map stE)=wtEs l:=by
   intro l
   induction l with
   | nil=>intro _;rfl
   | cons t l ihl=>intro h;simp only[List.map_cons,wtEs,h t (by simp),ihl (fun z hz=>h z (by simp[hz]))]
  rw[stE_mk,wtE_mk,wtE_mk,wt_st,wts_st,key l ih]

theorem end_at {c:Cur} (h:At c [(3,[])]):endC c=c∧c.err=none:=by
 refine ⟨?_,h.1⟩
 have hf:c.first.1=3:=by
  unfold Cur.first
  rw[h.1]
  cases hl:c.l with
  | nil=>rfl
  | cons t l=>
   have:=h.2
   rw[hl] at this
   simp only[List.map_cons,List.cons.injEq,ktOf,Prod.mk.injEq] at this
   exact this.1.1
 simp[endC,hf]
def spc (b:Bool):Str:=9 :: (if b then [47,47,32,120,46,10] else [])
def spT (b:Bool) (l:List Kt):Str:=l.flatMap fun x=>x.2++spc b
end Go.Pv
end

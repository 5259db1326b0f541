import Derived.Test.YtfgafcjebfjepaaGreatDoorPvRf
import Derived.Test.YtfgafcjebfjepaaGreatDoorPvRb
import Derived.Test.YtfgafcjebfjepaaGreatDoorPvW
import Derived.Shelf.Spec.SlicesGrow
set_option linter.all false
section
/- Expressions that are read are right, and no larger than their texts. -/
namespace Go.Pv
open Go

theorem argsC_err {rd:Cur→Exp×Cur} (h:∀ c:Cur,c.err.isSome=true→(rd c).2=c) (e:Str) (c:Cur) (he:c.err.isSome=true):(argsC rd e c).2=c:=by
 rw[argsC,Cur.err_next he]
 show ((listC rd c).2.must e)=c
 rw[listC_err h c he,Cur.must_err he]
theorem targs_okL {q:Nat} (c:Cur) (hn:c.next [91]=true→c.adv.l.length < q) (he:(targsC (typeC q) c).2.err=none):∀ x∈(targsC (typeC q) c).1,rightT x=true:=by
 unfold targsC at he ⊢
 split
 ·rename_i h
  rw[if_pos h] at he
  exact listC_okL q (typeC_suf q) (fun c h=>typeC_err q c h) (fun c hc he=>typeC_ok q c hc he) c.adv (hn h) (Cur.must_ok he)
 ·intro x hx;cases hx
theorem args_okL {q:Nat} (hx:∀ c,c.l.length < q→(exprC q c).2.err=none→rightE (exprC q c).1=true) (e:Str) (c:Cur) (hc:c.l.length < q) (he:(argsC (exprC q) e c).2.err=none):∀ x∈(argsC (exprC q) e c).1,rightE x=true:=by
 unfold argsC at he ⊢
 split
 ·intro x hx;cases hx
 ·rename_i h
  rw[if_neg h] at he
  exact listC_okL q (exprC_suf q) (fun c h=>exprC_err q c h) hx c hc (Cur.must_ok he)
theorem named_adv {q:Nat} {c:Cur} (hc:c.l.length < q+1):c.name.next [91]=true→c.name.adv.l.length < q:=fun h=>by
 have h1:=(Cur.name_next h).2
 have h2:=c.name.adv_suf.length_le
 omega
theorem rest_ok {q:Nat} (hx:∀ c,c.l.length < q→(exprC q c).2.err=none→rightE (exprC q c).1=true) (e:Exp) (c:Cur) (hr:rightE e=true) (hc:c.l.length < q) (he:(restC (typeC q) (exprC q) e c).2.err=none):rightE (restC (typeC q) (exprC q) e c).1=true:=by
 unfold restC at he ⊢
 have hal:=c.adv_suf.length_le
 have hnl:=c.name_suf.length_le
 split
 ·rename_i h
  rw[if_pos h] at he
  have hT:=typeC_ok q c.adv (by omega) (Cur.must_ok he)
  simp[rightE_ok,rightEs,okT,bodyE,typedE,kidsE,hT,hr]
 ·rename_i h
  rw[if_neg h] at he
  split
  ·rename_i h2
   rw[if_pos h2] at he
   have hn:=Cur.nm_ok (Cur.name_ok he).2
   simp[rightE_ok,rightEs,okT,bodyE,typedE,kidsE,hn,hr,ty0]
  ·rename_i h2
   rw[if_neg h2] at he
   have h3:=isErr (rd:=argsC (exprC q) [41]) (fun c h=>argsC_err (fun c h=>exprC_err q c h) [41] c h) he
   have h4:=Cur.must_ok h3
   have h5:=isErr (rd:=targsC (typeC q)) (fun c h=>targsC_err c h) h4
   have hn:=Cur.nm_ok (Cur.name_ok h5).2
   have ha:=targs_okL c.name (named_adv (by omega)) h4
   have hgl:=(targsC_suf (typeC_suf q) c.name).length_le
   have hml:=((targsC (typeC q) c.name).2.must_suf [40]).length_le
   have hk:=args_okL hx [41] ((targsC (typeC q) c.name).2.must [40]) (by omega) he
   have hks:rightEs (argsC (exprC q) [41] ((targsC (typeC q) c.name).2.must [40])).1=true:=by rw[rightEs_all,List.all_eq_true];exact hk
   have has:(targsC (typeC q) c.name).1.all rightT=true:=List.all_eq_true.2 ha
   simp[rightE_ok,rightEs,okT,bodyE,typedE,kidsE,hn,hr,ty0,hks]
   exact .inr ha
theorem dots_ok {q:Nat} (hx:∀ c,c.l.length < q→(exprC q c).2.err=none→rightE (exprC q c).1=true):∀ (m:Nat) (e:Exp) (c:Cur),(c.err=none→rightE e=true)→c.l.length≤q→(dotsC (restC (typeC q) (exprC q)) m e c).2.err=none→rightE (dotsC (restC (typeC q) (exprC q)) m e c).1=true
 | 0,e,c,hr,_,he=>hr he
 | m+1,e,c,hr,hc,he=>by
  rw[dotsC] at he ⊢
  split
  ·rename_i h
   rw[if_pos h] at he
   have h1:=Cur.adv_len h
   have h2:=(restC_suf (typeC_suf q) (exprC_suf q) e c.adv).length_le
   have h3:=(Cur.next_cons h).1
   exact dots_ok hx m _ _ (fun h4=>rest_ok hx e c.adv (hr h3) (by omega) h4) (by omega) he
  ·rename_i h
   rw[if_neg h] at he
   exact hr he
theorem base_ok {q:Nat} (hx:∀ c,c.l.length < q→(exprC q c).2.err=none→rightE (exprC q c).1=true) (c:Cur) (hc:c.l.length < q+1) (he:(baseC (typeC q) (exprC q) c).2.err=none):rightE (baseC (typeC q) (exprC q) c).1=true:=by
 unfold baseC at he ⊢
 split
 ·rename_i h
  rw[if_pos h] at he
  have h3:=isErr (rd:=argsC (exprC q) [125]) (fun c h=>argsC_err (fun c h=>exprC_err q c h) [125] c h) he
  have h4:=Cur.must_ok h3
  have h5:=isErr (rd:=targsC (typeC q)) (fun c h=>targsC_err c h) h4
  have hn:=Cur.nm_ok (Cur.name_ok h5).2
  have ha:=targs_okL c.name (named_adv (by omega)) h4
  have hgl:=(targsC_suf (typeC_suf q) c.name).length_le
  have hml:=((targsC (typeC q) c.name).2.must_suf [123]).length_le
  have hnn:c.name.l.length+1=c.l.length:=by
   rcases Bool.or_eq_true _ _▸h with h|h<;>exact (Cur.name_next h).2
  have hk:=args_okL hx [125] ((targsC (typeC q) c.name).2.must [123]) (by omega) he
  have hks:rightEs (argsC (exprC q) [125] ((targsC (typeC q) c.name).2.must [123])).1=true:=by rw[rightEs_all,List.all_eq_true];exact hk
  have hT:rightT (.mk c.nm (targsC (typeC q) c.name).1 c.at_)=true:=rightT_mk hn ha
  simp[rightE_ok,okT,bodyE,typedE,kidsE,hks,hT]
 ·rename_i h
  rw[if_neg h] at he
  have hn:=Cur.nm_ok (Cur.name_ok he).2
  simp[rightE_ok,rightEs,okT,bodyE,typedE,kidsE,hn,ty0]
theorem exprC_ok:∀ (n:Nat) (c:Cur),c.l.length < n→(exprC n c).2.err=none→rightE (exprC n c).1=true
 | 0,c,h,_=>by omega
 | q+1,c,hl,he=>by
  have hx:=exprC_ok q
  have hb:=(baseC_suf (typeC_suf q) (exprC_suf q) c).length_le
  exact dots_ok hx _ _ _ (fun h=>base_ok hx c hl h) (by omega) he

end Go.Pv
end

section
/- Declarations and programs as plain data, as values, and what the functions on them compute. -/
namespace Go.Pv
open Go

structure Fm where
 name:Str
 ty:Ty
 pos:Int

structure Sg where
 name:Str
 fms:List Fm
 pms:List Fm
 res:Ty
 pos:Int

structure Dc where
 kind:Int
 name:Str
 fms:List Fm
 flds:List Fm
 sigs:List Sg
 recv:Str
 vars:List Str
 sig:Sg
 body:Exp
 pos:Int

structure Pg where
 decls:List Dc
 main:Exp

def encF (f:Fm):List AV:=[.str f.name,.str f.ty.name,.slice (f.ty.args.map encTy),.int .i64 f.ty.pos,.int .i64 f.pos]
def encG (s:Sg):List AV:=[.str s.name,.slice (s.fms.map encF),.slice (s.pms.map encF),.str s.res.name,.slice (s.res.args.map encTy),.int .i64 s.res.pos,.int .i64 s.pos]
def encD (d:Dc):List AV:=[.int .i64 d.kind,.str d.name,.slice (d.fms.map encF),.slice (d.flds.map encF),.slice (d.sigs.map encG),.str d.recv,.slice (d.vars.map encS),
 .str d.sig.name,.slice (d.sig.fms.map encF),.slice (d.sig.pms.map encF),.str d.sig.res.name,.slice (d.sig.res.args.map encTy),.int .i64 d.sig.res.pos,.int .i64 d.sig.pos,
 .int .i64 d.body.kind,.str d.body.name,.str d.body.ty.name,.slice (d.body.ty.args.map encTy),.int .i64 d.body.ty.pos,.slice (d.body.ta.map encTy),.slice (d.body.kids.map encE),.int .i64 d.body.pos,.int .i64 d.pos]
def encPg (p:Pg):List AV:=[.slice (p.decls.map encD),.int .i64 p.main.kind,.str p.main.name,.str p.main.ty.name,.slice (p.main.ty.args.map encTy),.int .i64 p.main.ty.pos,.slice (p.main.ta.map encTy),.slice (p.main.kids.map encE),.int .i64 p.main.pos]

@[simp] theorem encF_len (f:Fm):(encF f).length=5:=rfl
@[simp] theorem encF_one (f:Fm):(encF f).all AV.one=true:=rfl
@[simp] theorem encG_len (f:Sg):(encG f).length=7:=rfl
@[simp] theorem encG_one (f:Sg):(encG f).all AV.one=true:=rfl
@[simp] theorem encD_len (f:Dc):(encD f).length=23:=rfl
@[simp] theorem encD_one (f:Dc):(encD f).all AV.one=true:=rfl
@[simp] theorem encPg_len (f:Pg):(encPg f).length=9:=rfl
@[simp] theorem encPg_one (f:Pg):(encPg f).all AV.one=true:=rfl
@[simp] theorem encF_rows (l:List Fm):Rows 5 (l.map encF):=Rows_map 5 encF (fun t=>⟨encF_len t,encF_one t⟩) l
@[simp] theorem encG_rows (l:List Sg):Rows 7 (l.map encG):=Rows_map 7 encG (fun t=>⟨encG_len t,encG_one t⟩) l
@[simp] theorem encD_rows (l:List Dc):Rows 23 (l.map encD):=Rows_map 23 encD (fun t=>⟨encD_len t,encD_one t⟩) l
@[simp] theorem encF_take (f:Fm):(encF f).take 5=encF f:=rfl
@[simp] theorem encF_drop (f:Fm):(encF f).drop 5=[]:=rfl
@[simp] theorem encG_take (f:Sg):(encG f).take 7=encG f:=rfl
@[simp] theorem encG_drop (f:Sg):(encG f).drop 7=[]:=rfl
@[simp] theorem encD_take (f:Dc):(encD f).take 23=encD f:=rfl
@[simp] theorem encD_drop (f:Dc):(encD f).drop 23=[]:=rfl
@[simp] theorem encPg_take (f:Pg):(encPg f).take 9=encPg f:=rfl
@[simp] theorem encPg_drop (f:Pg):(encPg f).drop 9=[]:=rfl
def wtF (f:Fm):Nat:=f.name.length+1+wt f.ty
def wtFs:List Fm→Nat | []=>0|f :: r=>wtF f+wtFs r
def wtG (s:Sg):Nat:=s.name.length+1+wtFs s.fms+wtFs s.pms+wt s.res
def wtGs:List Sg→Nat | []=>0|f :: r=>wtG f+wtGs r
def wtSs:List Str→Nat | []=>0|f :: r=>f.length+1+wtSs r
def wtD (d:Dc):Nat:=d.name.length+1+wtFs d.fms+wtFs d.flds+wtGs d.sigs+d.recv.length+wtSs d.vars+wtG d.sig+wtE d.body
def wtDs:List Dc→Nat | []=>0|f :: r=>wtD f+wtDs r
def wtPg (p:Pg):Nat:=wtDs p.decls+wtE p.main

def eqL {α β:Type} (f:α→β→Bool):List α→List β→Bool
 | [],[]=>true
 | t :: r,u :: s=>f t u&&eqL f r s
 | _,_=>false
section
variable {α β:Type} {f:α→β→Bool}
theorem eqL_cons (t:α) (u:β) (r:List α) (s:List β):eqL f (t :: r) (u :: s)=(f t u&&eqL f r s):=rfl
theorem eqL_len:∀ {a:List α} {b:List β},a.length≠b.length→eqL f a b=false
 | [],[],h=>absurd rfl h
 | [],_ :: _,_=>rfl
 | _ :: _,[],_=>rfl
 | x :: a,y :: b,h=>by rw[eqL_cons,eqL_len (a:=a) (b:=b) (fun he=>h (by simp[he])),Bool.and_false]
theorem eqL_congr {g:α→β→Bool}:∀ {a:List α} {b:List β},(∀ x∈a,∀ y∈b,f x y=g x y)→eqL f a b=eqL g a b
 | [],[],_=>rfl
 | [],_ :: _,_=>rfl
 | _ :: _,[],_=>rfl
 | x :: a,y :: b,h=>by rw[eqL_cons,eqL_cons,h x (by simp) y (by simp),eqL_congr fun x hx y hy=>h x (by simp[hx]) y (by simp[hy])]
theorem eqL_refl {f:α→α→Bool}:∀ {a:List α},(∀ x∈a,f x x=true)→eqL f a a=true
 | [],_=>rfl
 | x :: a,h=>by rw[eqL_cons,h x (by simp),eqL_refl fun x hx=>h x (by simp[hx])];rfl
theorem eqL_nil_r (a:List α):eqL f a []=a.isEmpty:=by cases a<;>rfl
end
def sameF (a b:Fm):Bool:=a.name==b.name&&cmpT a.ty b.ty==0
def sameG (a b:Sg):Bool:=a.name==b.name&&eqL sameF a.fms b.fms&&eqL sameF a.pms b.pms&&cmpT a.res b.res==0
def sameD (a b:Dc):Bool:=a.kind==b.kind&&a.name==b.name&&eqL sameF a.fms b.fms&&eqL sameF a.flds b.flds&&eqL sameG a.sigs b.sigs&&a.recv==b.recv&&eqL (·==·) a.vars b.vars&&sameG a.sig b.sig&&sameE a.body b.body
def sameP (a b:Pg):Bool:=eqL sameD a.decls b.decls&&sameE a.main b.main
def eqF (ex:Bool) (a b:Fm):Bool:=a.name==b.name&&cmpT a.ty b.ty==0&&(!ex || (a.pos==b.pos&&eqT a.ty b.ty))
def eqG (ex:Bool) (a b:Sg):Bool:=a.name==b.name&&eqL (eqF ex) a.fms b.fms&&eqL (eqF ex) a.pms b.pms&&cmpT a.res b.res==0&&(!ex || (a.pos==b.pos&&eqT a.res b.res))
def eqD (ex:Bool) (a b:Dc):Bool:=a.kind==b.kind&&a.name==b.name&&a.recv==b.recv&&eqL (eqF ex) a.fms b.fms&&eqL (eqF ex) a.flds b.flds&&eqL (eqG ex) a.sigs b.sigs&&eqL (·==·) a.vars b.vars&&eqG ex a.sig b.sig&&sameE a.body b.body&&(!ex || (a.pos==b.pos&&eqE a.body b.body))
theorem eqF_false (a b:Fm):eqF false a b=sameF a b:=by simp[eqF,sameF]
theorem eqFs_false (a b:List Fm):eqL (eqF false) a b=eqL sameF a b:=eqL_congr fun x _ y _=>eqF_false x y
theorem eqG_false (a b:Sg):eqG false a b=sameG a b:=by simp[eqG,sameG,eqFs_false]
theorem sameF_refl (a:Fm):sameF a a=true:=by simp[sameF,cmpT_refl]
theorem sameG_refl (a:Sg):sameG a a=true:=by simp[sameG,cmpT_refl,eqL_refl fun x _=>sameF_refl x]
def sg0:Sg:=⟨[],[],[],ty0,0⟩
def dc0:Dc:=⟨0,[],[],[],[],[],[],sg0,ex0,0⟩
def rightF (f:Fm):Bool:=isName f.name&&rightT f.ty
def rightG (s:Sg):Bool:=isName s.name&&s.fms.all rightF&&s.pms.all rightF&&rightT s.res
def rightD (d:Dc):Bool:=isName d.name &&
 (if d.kind==3 then sameD d { dc0 with kind:=d.kind,name:=d.name,recv:=d.recv,vars:=d.vars,sig:=d.sig,body:=d.body }&&isName d.recv&&d.vars.all isName&&rightG d.sig&&rightE d.body
  else if d.kind==1 then sameD d { dc0 with kind:=d.kind,name:=d.name,fms:=d.fms,flds:=d.flds }&&d.fms.all rightF&&d.flds.all rightF&&d.sigs.all rightG
  else if d.kind==2 then sameD d { dc0 with kind:=d.kind,name:=d.name,fms:=d.fms,sigs:=d.sigs }&&d.fms.all rightF&&d.flds.all rightF&&d.sigs.all rightG
  else false)
def rightDR (d:Dc):Bool:=isName d.name&&d.fms.all rightF&&d.flds.all rightF&&d.sigs.all rightG&&d.vars.all isName &&
 (if d.kind==3 then isName d.recv&&(d.fms.length+d.flds.length+d.sigs.length==0)&&rightG d.sig&&rightE d.body
  else (d.recv.isEmpty&&d.vars.length==0&&eqG false d.sig sg0&&sameE d.body ex0)&&((d.kind==1&&d.sigs.length==0) || (d.kind==2&&d.flds.length==0)))
def rightPg (p:Pg):Bool:=p.decls.all rightD&&rightE p.main

theorem rightD_eq (d:Dc):rightD d=rightDR d:=by
 have hs:∀ l:List Str,eqL (fun (a b:Str)=>a==b) l l=true:=fun l=>eqL_refl fun x _=>beq_self_eq_true x
 have hf:∀ l:List Fm,eqL sameF l l=true:=fun l=>eqL_refl fun x _=>sameF_refl x
 have hg:∀ l:List Sg,eqL sameG l l=true:=fun l=>eqL_refl fun x _=>sameG_refl x
 have hl:∀ {α:Type} (l:List α),(l.length==0)=l.isEmpty:=fun l=>by cases l<;>rfl
 unfold rightD rightDR
 by_cases h3:d.kind=3
 ·simp only[h3,beq_self_eq_true,if_true,sameD,dc0,hs,hf,hg,eqL_nil_r,sameG_refl,sameE_refl,Bool.and_true,Bool.true_and]
  cases hi:isName d.name with
  | false=>simp
  | true=>
   have:(d.fms.length+d.flds.length+d.sigs.length==0)=(d.fms.isEmpty&&d.flds.isEmpty&&d.sigs.isEmpty):=by
    rw[Bool.eq_iff_iff];simp[Nat.add_eq_zero_iff,List.length_eq_zero_iff]
   rw[this]
   cases h1:d.fms with
   | cons=>simp
   | nil=>
    cases h2:d.flds with
    | cons=>simp
    | nil=>
     cases h4:d.sigs with
     | cons=>simp
     | nil=>simp;cases isName d.recv<;>cases d.vars.all isName<;>simp
 ·have h3':(d.kind==3)=false:=by simpa using h3
  simp only[h3',Bool.false_eq_true,if_false,hl,eqG_false]
  cases hi:isName d.name with
  | false=>simp
  | true=>
   by_cases h1:d.kind=1
   ·simp only[h1,sameD,dc0,hf,hg,eqL_nil_r,sg0]
    cases d.sigs<;>cases d.vars<;>cases d.recv<;>simp<;>ac_rfl
   ·have h1':(d.kind==1)=false:=by simpa using h1
    by_cases h2:d.kind=2
    ·simp only[h2,sameD,dc0,hf,hg,eqL_nil_r,sg0]
     cases d.flds<;>cases d.vars<;>cases d.recv<;>simp<;>ac_rfl
    ·have h2':(d.kind==2)=false:=by simpa using h2
     simp[h1',h2']

def tysG (s:Sg):List Ty:=s.fms.map Fm.ty++s.pms.map Fm.ty++[s.res]
def tysE (e:Exp):List Ty:=((lstE e).map fun x=>x.ta++if typedE x.kind then [x.ty] else []).flatten
def tysD (d:Dc):List Ty:=d.fms.map Fm.ty++d.flds.map Fm.ty++(d.sigs.map tysG).flatten++if d.kind==3 then tysG d.sig++tysE d.body else []
def tysP (p:Pg):List Ty:=(p.decls.map tysD).flatten++tysE p.main
def depP (p:Pg):Nat:=max (max (depE p.main) (deps (tysP p))) ((p.decls.map fun d=>if d.kind==3 then depE d.body else 0).foldr max 0)
def bareE (e:Exp):Bool:=(lstE e).all fun x=>x.ta.isEmpty
def plainP (p:Pg):Bool:=(tysP p).all (fun t=>t.args.isEmpty)&&bareE p.main &&
 p.decls.all fun d=>d.fms.isEmpty&&d.vars.isEmpty&&d.sigs.all (fun s=>s.fms.isEmpty)&&d.sig.fms.isEmpty&&bareE d.body

def cntFs:List Fm→Nat→Nat | [],n=>n|f :: r,n=>if n≤2000 then cntFs r (cnt f.ty (n+1+f.name.length / 50)) else n
def cntG (s:Sg) (n:Nat):Nat:=cnt s.res (cntFs s.pms (cntFs s.fms (n+s.name.length / 50)))
def cntGs:List Sg→Nat→Nat | [],n=>n|s :: r,n=>if n≤2000 then cntGs r (cntG s n) else n
def cntVs:List Str→Nat→Nat | [],n=>n|v :: r,n=>if n≤2000 then cntVs r (n+1+v.length / 50) else n
def cntD (d:Dc) (n:Nat):Nat:=
 let m:=cntVs d.vars (cntGs d.sigs (cntFs d.flds (cntFs d.fms (n+1+d.name.length / 50+d.recv.length / 50))))
 if m≤2000 then cntE d.body (cntG d.sig m) else m
def cntDs:List Dc→Nat→Nat | [],n=>n|d :: r,n=>if n≤2000 then cntDs r (cntD d n) else n
def cntPg (p:Pg):Nat:=cntDs p.decls (cntE p.main 0)

end Go.Pv
end

section
/- The sizes of declarations that a law keeps. -/
namespace Go.Pv
open Go

def fitF (f:Fm):Prop:=f.name.length≤140737488355328∧fit f.ty
def fitFs (l:List Fm):Prop:=l.length≤140737488355328∧∀ f∈l,fitF f
def fitG (s:Sg):Prop:=s.name.length≤140737488355328∧fitFs s.fms∧fitFs s.pms∧fit s.res
def fitD (d:Dc):Prop:=d.name.length≤140737488355328∧fitFs d.fms∧fitFs d.flds∧(d.sigs.length≤140737488355328∧∀ s∈d.sigs,fitG s)∧d.recv.length≤140737488355328∧(d.vars.length≤140737488355328∧∀ v∈d.vars,v.length≤140737488355328)∧fitG d.sig∧fitE d.body
def fitPg (p:Pg):Prop:=(p.decls.length≤140737488355328∧∀ d∈p.decls,fitD d)∧fitE p.main

def fsum (f:Fm):Nat:=1+f.name.length / 50+csum f.ty
def fsums:List Fm→Nat | []=>0|f :: r=>fsum f+fsums r
def gsum (s:Sg):Nat:=s.name.length / 50+fsums s.fms+fsums s.pms+csum s.res
def gsums:List Sg→Nat | []=>0|f :: r=>gsum f+gsums r
def vsums:List Str→Nat | []=>0|f :: r=>1+f.length / 50+vsums r
def dsum (d:Dc):Nat:=1+d.name.length / 50+d.recv.length / 50+fsums d.fms+fsums d.flds+gsums d.sigs+vsums d.vars+gsum d.sig+esum d.body
def dsums:List Dc→Nat | []=>0|f :: r=>dsum f+dsums r

theorem wtFs_mem {l:List Fm} {f:Fm} (h:f∈l):wtF f≤wtFs l:=by
 induction l with
 | nil=>cases h
 | cons x l ih=>
  simp only[wtFs]
  rcases List.mem_cons.1 h with rfl|h
  ·omega
  ·have:=ih h;omega
theorem wtGs_mem {l:List Sg} {f:Sg} (h:f∈l):wtG f≤wtGs l:=by
 induction l with
 | nil=>cases h
 | cons x l ih=>
  simp only[wtGs]
  rcases List.mem_cons.1 h with rfl|h
  ·omega
  ·have:=ih h;omega
theorem wtDs_mem {l:List Dc} {f:Dc} (h:f∈l):wtD f≤wtDs l:=by
 induction l with
 | nil=>cases h
 | cons x l ih=>
  simp only[wtDs]
  rcases List.mem_cons.1 h with rfl|h
  ·omega
  ·have:=ih h;omega
theorem wtFs_len:∀ l:List Fm,l.length≤wtFs l
 | []=>by simp[wtFs]
 | x :: l=>by have:=wtFs_len l;simp only[wtFs,wtF,List.length_cons];omega
theorem wtGs_len:∀ l:List Sg,l.length≤wtGs l
 | []=>by simp[wtGs]
 | x :: l=>by have:=wtGs_len l;simp only[wtGs,wtG,List.length_cons];omega
theorem wtSs_len:∀ l:List Str,l.length≤wtSs l
 | []=>by simp[wtSs]
 | x :: l=>by have:=wtSs_len l;simp only[wtSs,List.length_cons];omega
theorem wtDs_len:∀ l:List Dc,l.length≤wtDs l
 | []=>by simp[wtDs]
 | x :: l=>by have:=wtDs_len l;simp only[wtDs,wtD,List.length_cons];omega

def mxT:Nat→List Ty→Nat|n,[]=>n|n,t :: r=>mxT (max n (dep t)) r
def mxD:Nat→List Dc→Nat|n,[]=>n|n,d :: r=>mxD (if d.kind==3 then max n (depE d.body) else n) r
def dpP (p:Pg):Nat:=mxD (mxT (depE p.main) (tysP p)) p.decls

end Go.Pv
end

section
/- slices.Grow at the nil slice: it hands back a row of its own. -/
namespace Go.Pv
open Go Go.Shelf Go.Proofs

end Go.Pv
end

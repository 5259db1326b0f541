import Derived.Test.YtfgafcjebfjepaaGreatDoorPvDc
import Derived.Test.YtfgafcjebfjepaaGreatDoorPvMc
import Derived.Test.YtfgafcjebfjepaaGreatDoorPvRb
set_option linter.all false
section
/- Types of declarations: lists of lists. -/
namespace Go.Pv
open Go

def encTL (l:List Ty):List AV:=[.slice (l.map encTy)]
@[simp] theorem encTL_len (l:List Ty):(encTL l).length=1:=rfl
@[simp] theorem encTL_one (l:List Ty):(encTL l).all AV.one=true:=rfl
@[simp] theorem encTL_rows (l:List (List Ty)):Rows 1 (l.map encTL):=Rows_map 1 encTL (fun t=>⟨encTL_len t,encTL_one t⟩) l

def flT {α:Type} (l:List (List α)) (k:Nat):List α:=(l.take k).flatten
def flN {α:Type} (l:List (List α)) (k:Nat):Nat:=(flT l k).length
def partsE (x:Exp):List Ty:=x.ta++if typedE x.kind then [x.ty] else []
def bodL (e:Exp):List (List Ty):=(lstE e).map partsE
@[simp] theorem bodL_len (e:Exp):(bodL e).length=(lstE e).length:=by simp[bodL]
def headD (d:Dc):List Ty:=d.fms.map Fm.ty++d.flds.map Fm.ty
def sigL (d:Dc):List (List Ty):=d.sigs.map tysG
def tailD (d:Dc):List Ty:=if d.kind==3 then tysG d.sig++tysE d.body else []
def declL (p:Pg):List (List Ty):=p.decls.map tysD
def sigA (d:Dc):List Ty:=(sigL d).flatten
def declA (p:Pg):List Ty:=(declL p).flatten
@[simp] theorem sigL_len (d:Dc):(sigL d).length=d.sigs.length:=by simp[sigL]
@[simp] theorem declL_len (p:Pg):(declL p).length=p.decls.length:=by simp[declL]
def flatTy (t:Ty):Bool:=t.args.isEmpty
def bareX (x:Exp):Bool:=x.ta.isEmpty
def bareS (s:Sg):Bool:=s.fms.isEmpty
def plainD (d:Dc):Bool:=d.fms.isEmpty&&d.vars.isEmpty&&d.sigs.all bareS&&bareS d.sig&&bareE d.body
theorem rows_take {n:Nat} {l:List (List AV)} (k:Nat) (h:Rows n l):Rows n (l.take k):=fun r hr=>h r (List.mem_of_mem_take hr)
end Go.Pv
end

section
/- Counting soon stops: how much it counts at most. -/
namespace Go.Pv
open Go

theorem int_ne {m n:Nat} (h:((m:Int) != n)=true):m≠n:=fun he=>by
 subst he
 rw[bne_self_eq_false] at h
 cases h
end Go.Pv
end

section
/- What the package parse does with a cursor. -/
namespace Go.Pv
open Go

def pg0:Pg:=⟨[],ex0⟩
def allC (ws:List Str) (c:Cur):Cur:=ws.foldl Cur.must c

section
variable (rT:Cur→Ty×Cur) (rE:Cur→Exp×Cur)
def itemC (c:Cur):Fm×Cur:=(⟨c.nm,(rT c.name).1,c.at_⟩,(rT c.name).2)
def pairsC (e:Str):Nat→Cur→List Fm×Cur
 | 0,c=>([],c)
 | m+1,c=>if (itemC rT c).2.next [44] then ((itemC rT c).1 :: (pairsC e m (itemC rT c).2.adv).1,(pairsC e m (itemC rT c).2.adv).2) else ([(itemC rT c).1],(itemC rT c).2.must e)
def pairsF (e:Str) (c:Cur):List Fm×Cur:=pairsC rT e (c.l.length+1) c
def formalsC (c:Cur):List Fm×Cur:=if c.next [91] then pairsF rT [93] c.adv else ([],c)
def parC (c:Cur):List Fm×Cur:=if (c.must [40]).next [41] then ([],(c.must [40]).adv) else pairsF rT [41] (c.must [40])
def sigC (c:Cur):Sg×Cur:=
 (⟨c.nm,(formalsC rT c.name).1,(parC rT (formalsC rT c.name).2).1,(rT (parC rT (formalsC rT c.name).2).2).1,c.at_⟩,(rT (parC rT (formalsC rT c.name).2).2).2)
end
def untilC {α:Type} (rd:Cur→α×Cur):Nat→Cur→List α×Cur
 | 0,c=>([],c)
 | m+1,c=>if c.next [125] then ([],c.adv) else if c.err.isSome then ([],c) else ((rd c).1 :: (untilC rd m ((rd c).2.must [59])).1,(untilC rd m ((rd c).2.must [59])).2)
def untilF {α:Type} (rd:Cur→α×Cur) (c:Cur):List α×Cur:=untilC rd (c.l.length+1) c
def varsC:Nat→Cur→List Str×Cur
 | 0,c=>([],c)
 | m+1,c=>if c.name.next [44] then (c.nm :: (varsC m c.name.adv).1,(varsC m c.name.adv).2) else ([c.nm],c.name)
def wInterface:Str:=[105,110,116,101,114,102,97,99,101]
def wStruct:Str:=[115,116,114,117,99,116]
def wReturn:Str:=[114,101,116,117,114,110]
def wType:Str:=[116,121,112,101]
def wFunc:Str:=[102,117,110,99]
def wMain:Str:=[109,97,105,110]
def wPackage:Str:=[112,97,99,107,97,103,101]
section
variable (rT:Cur→Ty×Cur) (rE:Cur→Exp×Cur)
def typedC (c:Cur):Dc×Cur:=
 if (formalsC rT c.name).2.next wInterface then
  (⟨2,c.nm,(formalsC rT c.name).1,[],(untilF (sigC rT) ((formalsC rT c.name).2.adv.must [123])).1,[],[],sg0,ex0,c.at_⟩,(untilF (sigC rT) ((formalsC rT c.name).2.adv.must [123])).2.must [59])
 else (⟨1,c.nm,(formalsC rT c.name).1,(untilF (itemC rT) (allC [wStruct,[123]] (formalsC rT c.name).2)).1,[],[],[],sg0,ex0,c.at_⟩,(untilF (itemC rT) (allC [wStruct,[123]] (formalsC rT c.name).2)).2.must [59])
def recvC (c:Cur):List Str×Cur:=if c.next [91] then ((varsC (c.l.length+1) c.adv).1,(varsC (c.l.length+1) c.adv).2.must [93]) else ([],c)
def methodC (c:Cur):Dc×Cur:=
 let c0:=c.must [40]
 let c1:=c0.name
 let v:=recvC c1.name
 let s:=sigC rT (v.2.must [41])
 let b:=rE (allC [[123],wReturn] s.2)
 (⟨3,c1.nm,[],[],[],c0.nm,v.1,s.1,b.1,c1.at_⟩,allC [[125],[59]] b.2)
def declsC:Nat→Cur→List Dc×Cur
 | 0,c=>([],c)
 | m+1,c=>
  if c.next wType then ((typedC rT c.adv).1 :: (declsC m (typedC rT c.adv).2).1,(declsC m (typedC rT c.adv).2).2)
  else if c.next wFunc then
   if c.adv.next wMain then ([],c.adv) else ((methodC rT rE c.adv).1 :: (declsC m (methodC rT rE c.adv).2).1,(declsC m (methodC rT rE c.adv).2).2)
  else ([],c.fail)
def programC (c:Cur):Pg×Cur:=
 let c0:=allC [wPackage,wMain,[59]] c
 let d:=declsC rT rE (c0.l.length+1) c0
 let e:=rE (allC [wMain,[40],[41],[123],[95],[61]] d.2)
 (⟨d.1,e.1⟩,e.2.must [125])
end
def rdP (l:List Tk):Pg×Cur:=programC (typeC (l.length+1)) (exprC (l.length+1)) ⟨l,none⟩

theorem allC_suf:∀ (ws:List Str) (c:Cur),(allC ws c).l <:+ c.l
 | [],c=>List.suffix_refl _
 | w :: ws,c=>(allC_suf ws (c.must w)).trans (c.must_suf w)
theorem allC_cons (w:Str) (ws:List Str) (c:Cur):allC (w :: ws) c=allC ws (c.must w):=rfl

section
variable {rT:Cur→Ty×Cur} {rE:Cur→Exp×Cur} (hT:∀ c,(rT c).2.l <:+ c.l) (hE:∀ c,(rE c).2.l <:+ c.l)
include hT
theorem itemC_suf (c:Cur):(itemC rT c).2.l <:+ c.l:=(hT c.name).trans c.name_suf
theorem itemC_suf2 (c:Cur):(itemC rT c).2.l <:+ c.name.l:=hT c.name
theorem pairsC_suf (e:Str):∀ (m:Nat) (c:Cur),(pairsC rT e m c).2.l <:+ c.l
 | 0,c=>List.suffix_refl _
 | m+1,c=>by
  rw[pairsC]
  split
  ·exact (pairsC_suf e m _).trans ((Cur.adv_suf _).trans (itemC_suf hT c))
  ·exact (Cur.must_suf _ e).trans (itemC_suf hT c)
theorem formalsC_suf (c:Cur):(formalsC rT c).2.l <:+ c.l:=by
 unfold formalsC
 split
 ·exact (pairsC_suf hT _ _ _).trans c.adv_suf
 ·exact List.suffix_refl _
theorem parC_suf (c:Cur):(parC rT c).2.l <:+ c.l:=by
 unfold parC
 split
 ·exact (Cur.adv_suf _).trans (c.must_suf _)
 ·exact (pairsC_suf hT _ _ _).trans (c.must_suf _)
theorem sigC_suf2 (c:Cur):(sigC rT c).2.l <:+ c.name.l:=(hT _).trans ((parC_suf hT _).trans (formalsC_suf hT _))
theorem sigC_suf (c:Cur):(sigC rT c).2.l <:+ c.l:=(sigC_suf2 hT c).trans c.name_suf
end
theorem untilC_suf {α:Type} {rd:Cur→α×Cur} (h:∀ c,(rd c).2.l <:+ c.l):∀ (m:Nat) (c:Cur),(untilC rd m c).2.l <:+ c.l
 | 0,c=>List.suffix_refl _
 | m+1,c=>by
  rw[untilC]
  split
  ·exact c.adv_suf
  ·split
   ·exact List.suffix_refl _
   ·exact (untilC_suf h m _).trans ((Cur.must_suf _ _).trans (h c))
theorem varsC_suf:∀ (m:Nat) (c:Cur),(varsC m c).2.l <:+ c.l
 | 0,c=>List.suffix_refl _
 | m+1,c=>by
  rw[varsC]
  split
  ·exact (varsC_suf m _).trans ((Cur.adv_suf _).trans c.name_suf)
  ·exact c.name_suf
theorem recvC_suf (c:Cur):(recvC c).2.l <:+ c.l:=by
 unfold recvC
 split
 ·exact (Cur.must_suf _ _).trans ((varsC_suf _ _).trans c.adv_suf)
 ·exact List.suffix_refl _
section
variable {rT:Cur→Ty×Cur} {rE:Cur→Exp×Cur} (hT:∀ c,(rT c).2.l <:+ c.l) (hE:∀ c,(rE c).2.l <:+ c.l)
include hT
theorem typedC_suf (c:Cur):(typedC rT c).2.l <:+ c.l:=by
 unfold typedC
 split
 ·exact (Cur.must_suf _ _).trans ((untilC_suf (sigC_suf hT) _ _).trans ((Cur.must_suf _ _).trans ((Cur.adv_suf _).trans ((formalsC_suf hT _).trans c.name_suf))))
 ·exact (Cur.must_suf _ _).trans ((untilC_suf (itemC_suf hT) _ _).trans ((allC_suf _ _).trans ((formalsC_suf hT _).trans c.name_suf)))
include hE
theorem methodC_suf (c:Cur):(methodC rT rE c).2.l <:+ c.l:=
 (allC_suf _ _).trans ((hE _).trans ((allC_suf _ _).trans ((sigC_suf hT _).trans ((Cur.must_suf _ _).trans ((recvC_suf _).trans ((Cur.name_suf _).trans ((Cur.name_suf _).trans (c.must_suf _))))))))
theorem declsC_suf:∀ (m:Nat) (c:Cur),(declsC rT rE m c).2.l <:+ c.l
 | 0,c=>List.suffix_refl _
 | m+1,c=>by
  rw[declsC]
  split
  ·exact (declsC_suf m _).trans ((typedC_suf hT _).trans c.adv_suf)
  ·split
   ·split
    ·exact c.adv_suf
    ·exact (declsC_suf m _).trans ((methodC_suf hT hE _).trans c.adv_suf)
   ·exact c.fail_suf
theorem programC_suf (c:Cur):(programC rT rE c).2.l <:+ c.l:=
 (Cur.must_suf _ _).trans ((hE _).trans ((allC_suf _ _).trans ((declsC_suf hT hE _ _).trans (allC_suf _ _))))
end

theorem Cur.err_fail (c:Cur):c.fail.err.isSome=true:=by unfold Cur.fail;split<;>first|assumption|rfl
theorem Cur.err_must {c:Cur} (h:c.err.isSome=true) (s:Str):(c.must s).err.isSome=true:=by
 unfold Cur.must;split
 ·exact h
 ·exact c.err_fail
theorem Cur.err_name {c:Cur} (h:c.err.isSome=true):c.name.err.isSome=true:=by
 unfold Cur.name;split
 ·exact h
 ·exact c.err_fail
theorem Cur.name_or (c:Cur):c.name.err.isSome=true∨c.name.l.length+1=c.l.length:=by
 unfold Cur.name
 split
 ·rename_i h
  obtain ⟨-,t,r,hl,-,-⟩:=Cur.named_cons h
  right;simp[Cur.adv,hl]
 ·exact .inl c.err_fail

end Go.Pv
end

section
/- The package parse: an error stays; each item takes a token or fails. -/
namespace Go.Pv
open Go

theorem typeC_errS (n:Nat) {c:Cur} (h:c.err.isSome=true):(typeC n c).2.err.isSome=true:=by
 cases n with
 | zero=>exact h
 | succ n=>
  have h1:=Cur.err_name h
  rw[typeC,targsC,if_neg (by rw[Cur.err_next h1];exact Bool.false_ne_true)]
  exact h1
section
variable {rT:Cur→Ty×Cur} (hT:∀ c,(rT c).2.l <:+ c.l) (hTe:∀ c:Cur,c.err.isSome=true→(rT c).2.err.isSome=true)
include hTe
theorem itemC_err {c:Cur} (h:c.err.isSome=true):(itemC rT c).2.err.isSome=true:=hTe _ (Cur.err_name h)
theorem pairsC_err (e:Str) (m:Nat) {c:Cur} (h:c.err.isSome=true):(pairsC rT e m c).2.err.isSome=true:=by
 cases m with
 | zero=>exact h
 | succ m=>
  have h1:=itemC_err hTe h
  rw[pairsC,if_neg (by rw[Cur.err_next h1];exact Bool.false_ne_true)]
  exact Cur.err_must h1 e
theorem formalsC_err {c:Cur} (h:c.err.isSome=true):(formalsC rT c).2.err.isSome=true:=by
 rw[formalsC,if_neg (by rw[Cur.err_next h];exact Bool.false_ne_true)];exact h
theorem parC_err {c:Cur} (h:c.err.isSome=true):(parC rT c).2.err.isSome=true:=by
 have h1:=Cur.err_must h [40]
 rw[parC,if_neg (by rw[Cur.err_next h1];exact Bool.false_ne_true)]
 exact pairsC_err hTe _ _ h1
theorem sigC_err2 {c:Cur} (h:c.name.err.isSome=true):(sigC rT c).2.err.isSome=true:=hTe _ (parC_err hTe (formalsC_err hTe h))
include hT
theorem itemC_prog (c:Cur):(itemC rT c).2.err.isSome=true∨(itemC rT c).2.l.length+1≤c.l.length:=by
 rcases c.name_or with h|h
 ·exact .inl (hTe _ h)
 ·have:=(itemC_suf2 hT c).length_le
  right;omega
theorem sigC_prog (c:Cur):(sigC rT c).2.err.isSome=true∨(sigC rT c).2.l.length+1≤c.l.length:=by
 rcases c.name_or with h|h
 ·exact .inl (sigC_err2 hTe h)
 ·have:=(sigC_suf2 hT c).length_le
  right;omega
end
theorem untilC_err {α:Type} (rd:Cur→α×Cur) (m:Nat) {c:Cur} (h:c.err.isSome=true):untilC rd m c=([],c):=by
 cases m with
 | zero=>rfl
 | succ m=>rw[untilC,if_neg (by rw[Cur.err_next h];exact Bool.false_ne_true),if_pos h]
theorem untilC_end {α:Type} (rd:Cur→α×Cur) (m:Nat) {c:Cur} (h:c.next [125]=true):untilC rd (m+1) c=([],c.adv):=by rw[untilC,if_pos h]
theorem untilC_go {α:Type} (rd:Cur→α×Cur) (m:Nat) {c:Cur} (h:c.next [125]=false) (h2:c.err.isSome=false):untilC rd (m+1) c=((rd c).1 :: (untilC rd m ((rd c).2.must [59])).1,(untilC rd m ((rd c).2.must [59])).2):=by
 rw[untilC,if_neg (by rw[h];exact Bool.false_ne_true),if_neg (by rw[h2];exact Bool.false_ne_true)]
theorem until_next {α:Type} {rd:Cur→α×Cur} {c:Cur} {m:Nat} (hp:(rd c).2.err.isSome=true∨(rd c).2.l.length+1≤c.l.length) (hm:c.l.length < m+1):((rd c).2.must [59]).err.isSome=false→((rd c).2.must [59]).l.length < m:=fun h=>by
 rcases hp with h1|h1
 ·rw[Cur.err_must h1] at h;cases h
 ·have:=Cur.must_len (rd c).2 [59]
  omega
theorem pairsC_count {rT:Cur→Ty×Cur} (e:Str):∀ (m:Nat) (c:Cur),(pairsC rT e m c).1.length≤m
 | 0,c=>Nat.le_refl _
 | m+1,c=>by
  rw[pairsC]
  split
  ·have:=pairsC_count (rT:=rT) e m (itemC rT c).2.adv
   simp;omega
  ·simp
theorem untilF_suf {α:Type} {rd:Cur→α×Cur} (h:∀ c,(rd c).2.l <:+ c.l) (c:Cur):(untilF rd c).2.l <:+ c.l:=untilC_suf h _ _
theorem next_ok {c:Cur} {s:Str} (h:c.next s=true):c.err.isSome=false:=by
 have:=(Cur.next_cons h).1
 rw[this];rfl

end Go.Pv
end

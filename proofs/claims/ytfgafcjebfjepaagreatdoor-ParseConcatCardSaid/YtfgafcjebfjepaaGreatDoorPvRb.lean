import Derived.Test.YtfgafcjebfjepaaGreatDoorPvMc
import Derived.Test.YtfgafcjebfjepaaGreatDoorPvLa
import Derived.Test.YtfgafcjebfjepaaGreatDoorPvPb
set_option linter.all false
section
/- From data to expressions. -/
namespace Go.Pv
open Go

section
variable {H:Type} {P:Program} {S I L T E X:Nat} (hS:P.underlying S=some .string) (hI:P.underlying I=some (.int .i64)) (hL:P.underlying L=some (.slice T)) (hF:ftypes P T=some [S,L,I]) (hb:0 < P.bytesOf T)
 (hX:P.underlying X=some (.slice E)) (hE:ftypes P E=some [I,S,T,L,X,I]) (hbe:0 < P.bytesOf E)
include hS hI hL hF hb hX hE hbe
end
end Go.Pv
end

section
/- The sizes of expressions behind substituting and replacing. -/
namespace Go.Pv
open Go

end Go.Pv
end

section
/- Reading types and expressions: what a cursor does (read), and what the reference does with a place (castingsref07). -/
namespace Go.Pv
open Go

structure Cur where
 l:List Tk
 err:Option Int

def tk0:Tk:=(3,[],0)
def Cur.first (c:Cur):Tk:=if c.err.isSome then tk0 else c.l.headD tk0
def Cur.fail (c:Cur):Cur:=if c.err.isSome then c else { c with err:=some c.first.2.2 }
def Cur.next (c:Cur) (s:Str):Bool:=c.first.1 != 3&&c.first.2.1==s
def Cur.adv (c:Cur):Cur:={ c with l:=c.l.tail }
def Cur.take (c:Cur) (s:Str):Cur:=if c.next s then c.adv else c
def Cur.must (c:Cur) (s:Str):Cur:=if c.next s then c.adv else c.fail
def Cur.named (c:Cur):Bool:=c.first.1==1&&isName c.first.2.1
def Cur.name (c:Cur):Cur:=if c.named then c.adv else c.fail
def Cur.nm (c:Cur):Str:=if c.named then c.first.2.1 else []
def Cur.at_ (c:Cur):Int:=if c.named then c.first.2.2 else 0

def loopC {α:Type} (rd:Cur→α×Cur):Nat→Cur→List α×Cur
 | 0,c=>([],c)
 | m+1,c=>if c.next [44] then ((rd c.adv).1 :: (loopC rd m (rd c.adv).2).1,(loopC rd m (rd c.adv).2).2) else ([],c)
def listC {α:Type} (rd:Cur→α×Cur) (c:Cur):List α×Cur:=
 ((rd c).1 :: (loopC rd (rd c).2.l.length (rd c).2).1,(loopC rd (rd c).2.l.length (rd c).2).2)
def targsC (rd:Cur→Ty×Cur) (c:Cur):List Ty×Cur:=
 if c.next [91] then ((listC rd c.adv).1,(listC rd c.adv).2.must [93]) else ([],c)
def typeC:Nat→Cur→Ty×Cur
 | 0,c=>(ty0,c)
 | n+1,c=>(.mk c.nm (targsC (typeC n) c.name).1 c.at_,(targsC (typeC n) c.name).2)
def argsC (rd:Cur→Exp×Cur) (e:Str) (c:Cur):List Exp×Cur:=
 if c.next e then ([],c.must e) else ((listC rd c).1,(listC rd c).2.must e)
def restC (ty:Cur→Ty×Cur) (ex:Cur→Exp×Cur) (e:Exp) (c:Cur):Exp×Cur:=
 if c.next [40] then (.mk 5 [] (ty c.adv).1 [] [e] c.first.2.2,(ty c.adv).2.must [41])
 else if !c.name.next [91]&&!c.name.next [40] then (.mk 4 c.nm ty0 [] [e] c.at_,c.name)
 else (.mk 2 c.nm ty0 (targsC ty c.name).1 (e :: (argsC ex [41] ((targsC ty c.name).2.must [40])).1) c.at_,(argsC ex [41] ((targsC ty c.name).2.must [40])).2)
def dotsC (rs:Exp→Cur→Exp×Cur):Nat→Exp→Cur→Exp×Cur
 | 0,e,c=>(e,c)
 | m+1,e,c=>if c.next [46] then dotsC rs m (rs e c.adv).1 (rs e c.adv).2 else (e,c)
def baseC (ty:Cur→Ty×Cur) (ex:Cur→Exp×Cur) (c:Cur):Exp×Cur:=
 if c.name.next [91] || c.name.next [123] then
  (.mk 3 [] (.mk c.nm (targsC ty c.name).1 c.at_) [] (argsC ex [125] ((targsC ty c.name).2.must [123])).1 c.at_,(argsC ex [125] ((targsC ty c.name).2.must [123])).2)
 else (.mk 1 c.nm ty0 [] [] c.at_,c.name)
def exprC:Nat→Cur→Exp×Cur
 | 0,c=>(ex0,c)
 | n+1,c=>dotsC (restC (typeC n) (exprC n)) (baseC (typeC n) (exprC n) c).2.l.length (baseC (typeC n) (exprC n) c).1 (baseC (typeC n) (exprC n) c).2
def endC (c:Cur):Cur:=if c.first.1 != 3 then c.fail else c

def errA (ft:Nat):Option Int→AV
 | none=>.nilIface
 | some a=>.iface ft (.agg [.int .i64 2,.int .i64 a])
def encC (ft:Nat) (c:Cur):List AV:=[.slice (c.l.map encK),errA ft c.err]

theorem Cur.err_first {c:Cur} (h:c.err.isSome=true):c.first=tk0:=by simp[Cur.first,h]
theorem Cur.err_next {c:Cur} (h:c.err.isSome=true) (s:Str):c.next s=false:=by rw[Cur.next,c.err_first h];rfl
theorem Cur.next_cons {c:Cur} {s:Str} (h:c.next s=true):c.err=none∧∃ t r,c.l=t :: r∧t.1≠3∧t.2.1=s:=by
 cases he:c.err with
 | some a=>rw[c.err_next (by rw[he];rfl)] at h;cases h
 | none=>
  refine ⟨rfl,?_⟩
  cases hl:c.l with
  | nil=>simp[Cur.next,Cur.first,he,hl,tk0] at h
  | cons t r=>simp[Cur.next,Cur.first,he,hl] at h;exact ⟨t,r,rfl,h.1,h.2⟩
theorem Cur.named_cons {c:Cur} (h:c.named=true):c.err=none∧∃ t r,c.l=t :: r∧t.1=1∧isName t.2.1=true:=by
 cases he:c.err with
 | some a=>simp[Cur.named,c.err_first (show c.err.isSome=true by rw[he];rfl),tk0] at h
 | none=>
  refine ⟨rfl,?_⟩
  cases hl:c.l with
  | nil=>simp[Cur.named,Cur.first,he,hl,tk0] at h
  | cons t r=>simp[Cur.named,Cur.first,he,hl] at h;exact ⟨t,r,rfl,h.1,h.2⟩
theorem Cur.adv_len {c:Cur} {s:Str} (h:c.next s=true):c.adv.l.length+1=c.l.length:=by
 obtain ⟨-,t,r,hl,-,-⟩:=Cur.next_cons h
 simp[Cur.adv,hl]
theorem Cur.fail_l (c:Cur):c.fail.l=c.l:=by unfold Cur.fail;split<;>rfl
theorem Cur.must_len (c:Cur) (s:Str):(c.must s).l.length≤c.l.length:=by
 unfold Cur.must
 split
 ·rename_i h;have:=Cur.adv_len h;omega
 ·rw[Cur.fail_l];exact Nat.le_refl _
theorem Cur.name_len (c:Cur):c.name.l.length≤c.l.length:=by
 unfold Cur.name
 split
 ·rename_i h
  obtain ⟨-,t,r,hl,-,-⟩:=Cur.named_cons h
  simp[Cur.adv,hl]
 ·rw[Cur.fail_l];exact Nat.le_refl _
theorem Cur.name_next {c:Cur} {s:Str} (h:c.name.next s=true):c.named=true∧c.name.l.length+1=c.l.length:=by
 cases hn:c.named with
 | false=>
  exfalso
  have he:c.name.err.isSome=true:=by
   simp only[Cur.name,hn,Bool.false_eq_true,if_false,Cur.fail]
   split
   ·assumption
   ·rfl
  rw[Cur.err_next he] at h;cases h
 | true=>
  obtain ⟨-,t,r,hl,-,-⟩:=Cur.named_cons hn
  exact ⟨rfl,by simp[Cur.name,hn,Cur.adv,hl]⟩

section
variable {α:Type} {rd:Cur→α×Cur}
theorem loopC_count (h:∀ c,(rd c).2.l.length≤c.l.length):∀ (m:Nat) (c:Cur),(loopC rd m c).1.length+(loopC rd m c).2.l.length≤c.l.length
 | 0,c=>by simp[loopC]
 | m+1,c=>by
  rw[loopC]
  split
  ·rename_i hn
   have h1:=h c.adv
   have h2:=loopC_count h m (rd c.adv).2
   have h3:=Cur.adv_len hn
   simp only[List.length_cons]
   omega
  ·simp
end

theorem Cur.adv_suf (c:Cur):c.adv.l <:+ c.l:=List.tail_suffix _
theorem Cur.fail_suf (c:Cur):c.fail.l <:+ c.l:=by rw[Cur.fail_l];exact List.suffix_refl _
theorem Cur.must_suf (c:Cur) (s:Str):(c.must s).l <:+ c.l:=by unfold Cur.must;split;exact c.adv_suf;exact c.fail_suf
theorem Cur.name_suf (c:Cur):c.name.l <:+ c.l:=by unfold Cur.name;split;exact c.adv_suf;exact c.fail_suf
section
variable {α:Type} {rd:Cur→α×Cur}
theorem loopC_suf (h:∀ c,(rd c).2.l <:+ c.l):∀ (m:Nat) (c:Cur),(loopC rd m c).2.l <:+ c.l
 | 0,c=>List.suffix_refl _
 | m+1,c=>by
  rw[loopC]
  split
  ·exact (loopC_suf h m (rd c.adv).2).trans ((h _).trans c.adv_suf)
  ·exact List.suffix_refl _
theorem listC_suf (h:∀ c,(rd c).2.l <:+ c.l) (c:Cur):(listC rd c).2.l <:+ c.l:=(loopC_suf h _ _).trans (h c)
theorem targsC_suf {rd:Cur→Ty×Cur} (h:∀ c,(rd c).2.l <:+ c.l) (c:Cur):(targsC rd c).2.l <:+ c.l:=by
 unfold targsC
 split
 ·exact (Cur.must_suf _ _).trans ((listC_suf h _).trans c.adv_suf)
 ·exact List.suffix_refl _
theorem typeC_suf:∀ (n:Nat) (c:Cur),(typeC n c).2.l <:+ c.l
 | 0,c=>List.suffix_refl _
 | n+1,c=>(targsC_suf (typeC_suf n) _).trans c.name_suf
theorem argsC_suf {rd:Cur→Exp×Cur} (h:∀ c,(rd c).2.l <:+ c.l) (s:Str) (c:Cur):(argsC rd s c).2.l <:+ c.l:=by
 unfold argsC
 split
 ·exact c.must_suf s
 ·exact (Cur.must_suf _ _).trans (listC_suf h c)
theorem restC_suf {ty:Cur→Ty×Cur} {ex:Cur→Exp×Cur} (h1:∀ c,(ty c).2.l <:+ c.l) (h2:∀ c,(ex c).2.l <:+ c.l) (e:Exp) (c:Cur):(restC ty ex e c).2.l <:+ c.l:=by
 unfold restC
 split
 ·exact (Cur.must_suf _ _).trans ((h1 _).trans c.adv_suf)
 ·split
  ·exact c.name_suf
  ·exact (argsC_suf h2 _ _).trans ((Cur.must_suf _ _).trans ((targsC_suf h1 _).trans c.name_suf))
theorem dotsC_suf {rs:Exp→Cur→Exp×Cur} (h:∀ e c,(rs e c).2.l <:+ c.l):∀ (m:Nat) (e:Exp) (c:Cur),(dotsC rs m e c).2.l <:+ c.l
 | 0,_,_=>List.suffix_refl _
 | m+1,e,c=>by
  rw[dotsC]
  split
  ·exact (dotsC_suf h m _ _).trans ((h _ _).trans c.adv_suf)
  ·exact List.suffix_refl _
theorem baseC_suf {ty:Cur→Ty×Cur} {ex:Cur→Exp×Cur} (h1:∀ c,(ty c).2.l <:+ c.l) (h2:∀ c,(ex c).2.l <:+ c.l) (c:Cur):(baseC ty ex c).2.l <:+ c.l:=by
 unfold baseC
 split
 ·exact (argsC_suf h2 _ _).trans ((Cur.must_suf _ _).trans ((targsC_suf h1 _).trans c.name_suf))
 ·exact c.name_suf
theorem exprC_suf:∀ (n:Nat) (c:Cur),(exprC n c).2.l <:+ c.l
 | 0,c=>List.suffix_refl _
 | n+1,c=>(dotsC_suf (restC_suf (typeC_suf n) (exprC_suf n)) _ _ _).trans (baseC_suf (typeC_suf n) (exprC_suf n) c)
end

theorem listC_count {α:Type} {rd:Cur→α×Cur} (h:∀ c,(rd c).2.l <:+ c.l) (c:Cur):(listC rd c).1.length≤c.l.length+1:=by
 have h1:=loopC_count (fun c=>(h c).length_le) (rd c).2.l.length (rd c).2
 have h2:=(h c).length_le
 simp only[listC,List.length_cons]
 omega
theorem argsC_count {rd:Cur→Exp×Cur} (h:∀ c,(rd c).2.l <:+ c.l) (s:Str) (c:Cur):(argsC rd s c).1.length≤c.l.length+1:=by
 unfold argsC
 split
 ·simp
 ·exact listC_count h c
theorem loopC_more {α:Type} {rd:Cur→α×Cur} (h:∀ c,(rd c).2.l.length≤c.l.length):∀ (m:Nat) (c:Cur),c.l.length≤m→loopC rd m c=loopC rd c.l.length c
 | 0,c,hm=>by rw[Nat.le_zero.1 hm]
 | m+1,c,hm=>by
  cases hl:c.l.length with
  | zero=>
   have hn:c.next [44]=false:=by
    cases hn:c.next [44] with
    | false=>rfl
    | true=>have:=Cur.adv_len hn;omega
   rw[loopC,loopC];simp[hn]
  | succ k=>
   rw[loopC,loopC]
   cases hn:c.next [44] with
   | false=>rfl
   | true=>
    have h1:=Cur.adv_len hn
    have h2:=h c.adv
    rw[loopC_more h m (rd c.adv).2 (by omega),loopC_more h k (rd c.adv).2 (by omega)]
theorem dotsC_more {rs:Exp→Cur→Exp×Cur} (h:∀ e c,(rs e c).2.l.length≤c.l.length):∀ (m:Nat) (e:Exp) (c:Cur),c.l.length≤m→dotsC rs m e c=dotsC rs c.l.length e c
 | 0,e,c,hm=>by rw[Nat.le_zero.1 hm]
 | m+1,e,c,hm=>by
  cases hl:c.l.length with
  | zero=>
   have hn:c.next [46]=false:=by
    cases hn:c.next [46] with
    | false=>rfl
    | true=>have:=Cur.adv_len hn;omega
   rw[dotsC,dotsC];simp[hn]
  | succ k=>
   rw[dotsC,dotsC]
   cases hn:c.next [46] with
   | false=>rfl
   | true=>
    have h1:=Cur.adv_len hn
    have h2:=h e c.adv
    simp only[if_true]
    rw[dotsC_more h m _ (rs e c.adv).2 (by omega),dotsC_more h k _ (rs e c.adv).2 (by omega)]
theorem loopC_at {α:Type} {rd:Cur→α×Cur} (h:∀ c,(rd c).2.l.length≤c.l.length) (c:Cur):loopC rd c.l.length c=if c.next [44] then ((rd c.adv).1 :: (loopC rd (rd c.adv).2.l.length (rd c.adv).2).1,(loopC rd (rd c.adv).2.l.length (rd c.adv).2).2) else ([],c):=by
 rw[←loopC_more h (c.l.length+1) c (by omega),loopC]
 split
 ·rename_i hn
  have h1:=Cur.adv_len hn
  have h2:=h c.adv
  rw[loopC_more h c.l.length (rd c.adv).2 (by omega)]
 ·rfl
theorem dotsC_at {rs:Exp→Cur→Exp×Cur} (h:∀ e c,(rs e c).2.l.length≤c.l.length) (e:Exp) (c:Cur):dotsC rs c.l.length e c=if c.next [46] then dotsC rs (rs e c.adv).2.l.length (rs e c.adv).1 (rs e c.adv).2 else (e,c):=by
 rw[←dotsC_more h (c.l.length+1) e c (by omega),dotsC]
 split
 ·rename_i hn
  have h1:=Cur.adv_len hn
  have h2:=h e c.adv
  rw[dotsC_more h c.l.length _ (rs e c.adv).2 (by omega)]
 ·rfl
def rdT (l:List Tk):Ty×Cur:=typeC (l.length+1) ⟨l,none⟩
def rdE (l:List Tk):Exp×Cur:=exprC (l.length+1) ⟨l,none⟩
def wholeC {α:Type} (ft:Nat) (none_:α) (rd:List Tk→α×Cur) (s:Str):α×AV:=
 match lexT s with
 | (none,m)=>(none_,.iface ft (.agg [.int .i64 1,.int .i64 m]))
 | (some l,_)=>if (endC (rd l).2).err.isSome then (none_,errA ft (endC (rd l).2).err) else ((rd l).1,.nilIface)
theorem lexT_bounds {s:Str} {l:List Tk} {n:Nat} (h:lexT s=(some l,n)):s.length≤65536∧l.length≤140000∧∀ t∈l,t.2.1.length≤140000:=by
 have hs:s.length≤65536:=by
  rcases Nat.lt_or_ge 65536 s.length with h1|h1
  ·unfold lexT at h
   rw[if_neg (by omega)] at h
   simp at h
  ·exact h1
 obtain ⟨-,-,h3,-⟩:=lexT_some hs h
 refine ⟨hs,?_,fun t ht=>?_⟩
 ·have:=szK_len (l.map ktOf)
  rw[List.length_map] at this
  omega
 ·have:=szK_mem (x:=ktOf t) (List.mem_map_of_mem (f:=ktOf) ht)
  have e:(ktOf t).2.length=t.2.1.length:=rfl
  omega
end Go.Pv
end

section
/- Reading in the reference (castingsref07), by places in a list of tokens; that both read the same. -/
namespace Go.Pv
open Go

structure Pl where
 k:Nat
 bad:Bool

theorem Pl.eta_ {p:Pl} (h:p.bad=false):p=⟨p.k,false⟩:=by
 cases p;simp only at h;subst h;rfl
section
variable (L:List Tk)
def hdK (p:Pl):Tk:=L.getD p.k tk0
def Pl.is (p:Pl) (s:Str):Bool:=!p.bad&&(hdK L p).1 != 3&&(hdK L p).2.1==s
def Pl.adv (p:Pl):Pl:=⟨p.k+1,p.bad⟩
def Pl.fail (p:Pl):Pl:=⟨p.k,true⟩
def Pl.must (p:Pl) (s:Str):Pl:=if p.is L s then p.adv else p.fail
def Pl.named (p:Pl):Bool:=!p.bad&&(hdK L p).1==1&&isName (hdK L p).2.1
def Pl.name (p:Pl):Pl:=if p.named L then p.adv else p.fail
def Pl.nm (p:Pl):Str:=if p.named L then (hdK L p).2.1 else []
def Pl.at_ (p:Pl):Int:=if p.named L then (hdK L p).2.2 else 0

def tloopR (rd:Pl→Ty×Pl):Nat→Pl→List Ty×Pl
 | 0,p=>([],p)
 | m+1,p=>if (rd p.adv).2.is L [44] then ((rd p.adv).1 :: (tloopR rd m (rd p.adv).2).1,(tloopR rd m (rd p.adv).2).2) else ([(rd p.adv).1],(rd p.adv).2.must L [93])
def targsR (rd:Pl→Ty×Pl) (p:Pl):List Ty×Pl:=if p.is L [91] then tloopR L rd (L.length - p.k) p else ([],p)
def typeR:Nat→Pl→Ty×Pl
 | 0,p=>(ty0,p)
 | n+1,p=>(.mk (p.nm L) (targsR L (typeR n) (p.name L)).1 (p.at_ L),(targsR L (typeR n) (p.name L)).2)
def aloopR (rd:Pl→Exp×Pl) (e:Str):Nat→Pl→List Exp×Pl
 | 0,p=>([],p)
 | m+1,p=>if (rd p).2.is L [44] then ((rd p).1 :: (aloopR rd e m (rd p).2.adv).1,(aloopR rd e m (rd p).2.adv).2) else ([(rd p).1],(rd p).2.must L e)
def alB (rd:Pl→Exp×Pl) (e:Str) (m:Nat) (p:Pl):List Exp×Pl:=if p.bad then ([],p) else aloopR L rd e m p
def argsR (rd:Pl→Exp×Pl) (e:Str) (p:Pl):List Exp×Pl:=if p.is L e then ([],p.must L e) else if p.bad then ([],p) else aloopR L rd e (L.length - p.k) p
def restR (ty:Pl→Ty×Pl) (ex:Pl→Exp×Pl) (e:Exp) (p:Pl):Exp×Pl:=
 if p.is L [40] then (.mk 5 [] (ty p.adv).1 [] [e] (hdK L p).2.2,(ty p.adv).2.must L [41])
 else if (p.name L).is L [91] || (p.name L).is L [40] then
  (.mk 2 (p.nm L) ty0 (targsR L ty (p.name L)).1 (e :: (argsR L ex [41] ((targsR L ty (p.name L)).2.must L [40])).1) (p.at_ L),(argsR L ex [41] ((targsR L ty (p.name L)).2.must L [40])).2)
 else (.mk 4 (p.nm L) ty0 [] [e] (p.at_ L),p.name L)
def dotsR (rs:Exp→Pl→Exp×Pl):Nat→Exp→Pl→Exp×Pl
 | 0,e,p=>(e,p)
 | m+1,e,p=>if p.is L [46] then dotsR rs m (rs e p.adv).1 (rs e p.adv).2 else (e,p)
def baseR (ty:Pl→Ty×Pl) (ex:Pl→Exp×Pl) (p:Pl):Exp×Pl:=
 if (p.name L).is L [91] || (p.name L).is L [123] then
  (.mk 3 [] (.mk (p.nm L) (targsR L ty (p.name L)).1 (p.at_ L)) [] (argsR L ex [125] ((targsR L ty (p.name L)).2.must L [123])).1 (p.at_ L),(argsR L ex [125] ((targsR L ty (p.name L)).2.must L [123])).2)
 else (.mk 1 (p.nm L) ty0 [] [] (p.at_ L),p.name L)
def exprR:Nat→Pl→Exp×Pl
 | 0,p=>(ex0,p)
 | n+1,p=>dotsR L (restR L (typeR L n) (exprR n)) (L.length - (baseR L (typeR L n) (exprR n) p).2.k) (baseR L (typeR L n) (exprR n) p).1 (baseR L (typeR L n) (exprR n) p).2
def finR (p:Pl):Int×Int:=if !p.bad&&(hdK L p).1==3 then (0,0) else (2,(hdK L p).2.2)
def encP (p:Pl):List AV:=[.slice (L.map encK),.int .i64 p.k,.bool p.bad]

def EndsT:Prop:=0 < L.length∧∀ k,k < L.length→(L.getD k tk0).1≠3→k+1 < L.length
end

section
variable {L:List Tk} (hE:EndsT L)
theorem Pl.is_bad {p:Pl} {s:Str} (h:p.is L s=true):p.bad=false∧(hdK L p).1≠3:=by
 simp only[Pl.is,Bool.and_eq_true,Bool.not_eq_true',bne_iff_ne] at h;exact ⟨h.1.1,h.1.2⟩
theorem Pl.named_bad {p:Pl} (h:p.named L=true):p.bad=false∧(hdK L p).1≠3:=by
 simp only[Pl.named,Bool.and_eq_true,Bool.not_eq_true',beq_iff_eq] at h
 exact ⟨h.1.1,by rw[h.1.2];decide⟩
include hE
theorem Pl.adv_lt {p:Pl} {s:Str} (hp:p.k < L.length) (h:p.is L s=true):p.adv.k < L.length:=hE.2 _ hp (Pl.is_bad h).2
theorem Pl.must_lt {p:Pl} (s:Str) (hp:p.k < L.length):p.k≤(p.must L s).k∧(p.must L s).k < L.length:=by
 unfold Pl.must
 split
 ·rename_i h;exact ⟨Nat.le_succ _,Pl.adv_lt hE hp h⟩
 ·exact ⟨Nat.le_refl _,hp⟩
theorem Pl.name_lt {p:Pl} (hp:p.k < L.length):p.k≤(p.name L).k∧(p.name L).k < L.length:=by
 unfold Pl.name
 split
 ·rename_i h;exact ⟨Nat.le_succ _,hE.2 _ hp (Pl.named_bad h).2⟩
 ·exact ⟨Nat.le_refl _,hp⟩
def Goes {α:Type} (L:List Tk) (rd:Pl→α×Pl):Prop:=∀ p,p.k < L.length→p.k≤(rd p).2.k∧(rd p).2.k < L.length
theorem tloopR_lt {rd:Pl→Ty×Pl} (h:Goes L rd):∀ (m:Nat) (p:Pl),p.adv.k < L.length→p.k≤(tloopR L rd m p).2.k∧(tloopR L rd m p).2.k < L.length
 | 0,p,hp=>⟨Nat.le_refl _,Nat.lt_of_succ_lt hp⟩
 | m+1,p,hp=>by
  have h1:=h p.adv hp
  have h0:p.k≤p.adv.k:=Nat.le_succ _
  rw[tloopR]
  split
  ·rename_i hi
   have h2:=tloopR_lt h m (rd p.adv).2 (Pl.adv_lt hE h1.2 hi)
   exact ⟨by show p.k≤(tloopR L rd m (rd p.adv).2).2.k;omega,h2.2⟩
  ·have h2:=Pl.must_lt hE [93] h1.2
   exact ⟨by show p.k≤((rd p.adv).2.must L [93]).k;omega,h2.2⟩
theorem targsR_lt {rd:Pl→Ty×Pl} (h:Goes L rd):Goes L (targsR L rd):=fun p hp=>by
 unfold targsR
 split
 ·rename_i hi;exact tloopR_lt hE h _ p (Pl.adv_lt hE hp hi)
 ·exact ⟨Nat.le_refl _,hp⟩
theorem typeR_lt:∀ n,Goes L (typeR L n)
 | 0=>fun p hp=>⟨Nat.le_refl _,hp⟩
 | n+1=>fun p hp=>by
  have h1:=Pl.name_lt hE hp
  have h2:=targsR_lt hE (typeR_lt n) (p.name L) h1.2
  exact ⟨Nat.le_trans h1.1 h2.1,h2.2⟩
theorem aloopR_lt {rd:Pl→Exp×Pl} (h:Goes L rd) (e:Str):∀ (m:Nat) (p:Pl),p.k < L.length→p.k≤(aloopR L rd e m p).2.k∧(aloopR L rd e m p).2.k < L.length
 | 0,p,hp=>⟨Nat.le_refl _,hp⟩
 | m+1,p,hp=>by
  have h1:=h p hp
  rw[aloopR]
  split
  ·rename_i hi
   have h2:=aloopR_lt h e m (rd p).2.adv (Pl.adv_lt hE h1.2 hi)
   have h0:(rd p).2.k≤(rd p).2.adv.k:=Nat.le_succ _
   exact ⟨by show p.k≤(aloopR L rd e m (rd p).2.adv).2.k;omega,h2.2⟩
  ·have h2:=Pl.must_lt hE e h1.2
   exact ⟨by show p.k≤((rd p).2.must L e).k;omega,h2.2⟩
theorem argsR_lt {rd:Pl→Exp×Pl} (h:Goes L rd) (e:Str):Goes L (argsR L rd e):=fun p hp=>by
 unfold argsR
 split
 ·exact Pl.must_lt hE e hp
 ·split
  ·exact ⟨Nat.le_refl _,hp⟩
  ·exact aloopR_lt hE h e _ p hp
theorem restR_lt {ty:Pl→Ty×Pl} {ex:Pl→Exp×Pl} (h1:Goes L ty) (h2:Goes L ex) (e:Exp):Goes L (restR L ty ex e):=fun p hp=>by
 unfold restR
 split
 ·rename_i hi
  have h3:=h1 p.adv (Pl.adv_lt hE hp hi)
  have h4:=Pl.must_lt hE [41] h3.2
  have h0:p.k≤p.adv.k:=Nat.le_succ _
  exact ⟨by show p.k≤((ty p.adv).2.must L [41]).k;omega,h4.2⟩
 ·have h3:=Pl.name_lt hE hp
  split
  ·have h4:=targsR_lt hE h1 _ h3.2
   have h5:=Pl.must_lt hE [40] h4.2
   have h6:=argsR_lt hE h2 [41] _ h5.2
   exact ⟨by show p.k≤(argsR L ex [41] ((targsR L ty (p.name L)).2.must L [40])).2.k;omega,h6.2⟩
  ·exact h3
theorem dotsR_lt {rs:Exp→Pl→Exp×Pl} (h:∀ e,Goes L (rs e)):∀ (m:Nat) (e:Exp),Goes L (dotsR L rs m e)
 | 0,e=>fun p hp=>⟨Nat.le_refl _,hp⟩
 | m+1,e=>fun p hp=>by
  rw[dotsR]
  split
  ·rename_i hi
   have h1:=h e p.adv (Pl.adv_lt hE hp hi)
   have h2:=dotsR_lt h m (rs e p.adv).1 (rs e p.adv).2 h1.2
   have h0:p.k≤p.adv.k:=Nat.le_succ _
   exact ⟨by omega,h2.2⟩
  ·exact ⟨Nat.le_refl _,hp⟩
theorem baseR_lt {ty:Pl→Ty×Pl} {ex:Pl→Exp×Pl} (h1:Goes L ty) (h2:Goes L ex):Goes L (baseR L ty ex):=fun p hp=>by
 have h3:=Pl.name_lt hE hp
 unfold baseR
 split
 ·have h4:=targsR_lt hE h1 _ h3.2
  have h5:=Pl.must_lt hE [123] h4.2
  have h6:=argsR_lt hE h2 [125] _ h5.2
  exact ⟨by show p.k≤(argsR L ex [125] ((targsR L ty (p.name L)).2.must L [123])).2.k;omega,h6.2⟩
 ·exact h3
theorem exprR_lt:∀ n,Goes L (exprR L n)
 | 0=>fun p hp=>⟨Nat.le_refl _,hp⟩
 | n+1=>fun p hp=>by
  have h1:=baseR_lt hE (typeR_lt hE n) (exprR_lt n) p hp
  have h2:=dotsR_lt hE (restR_lt hE (typeR_lt hE n) (exprR_lt n)) (L.length - (baseR L (typeR L n) (exprR L n) p).2.k) (baseR L (typeR L n) (exprR L n) p).1 _ h1.2
  exact ⟨Nat.le_trans h1.1 h2.1,h2.2⟩
end

theorem aloopR_count {L:List Tk} (rd:Pl→Exp×Pl) (e:Str):∀ (m:Nat) (p:Pl),(aloopR L rd e m p).1.length≤m
 | 0,p=>by simp[aloopR]
 | m+1,p=>by
  rw[aloopR]
  split
  ·have:=aloopR_count (L:=L) rd e m (rd p).2.adv
   simp only[List.length_cons];omega
  ·simp
theorem argsR_count {L:List Tk} (rd:Pl→Exp×Pl) (e:Str) (p:Pl):(argsR L rd e p).1.length≤L.length:=by
 unfold argsR
 split
 ·simp
 ·split
  ·simp
  ·have:=aloopR_count (L:=L) rd e (L.length - p.k) p
   omega
structure Rel (L:List Tk) (c:Cur) (p:Pl):Prop where
 l:c.l=L.drop p.k
 lt:p.k < L.length
 err:c.err.isSome=p.bad
 at_:∀ a,c.err=some a→a=(hdK L p).2.2

section
variable {L:List Tk} {c:Cur} {p:Pl}
theorem Rel.head (r:Rel L c p):c.l.headD tk0=hdK L p:=by
 rw[r.l,List.drop_eq_getElem_cons r.lt]
 simp[hdK,List.getD_eq_getElem?_getD,r.lt]
theorem Rel.first (r:Rel L c p) (h:p.bad=false):c.first=hdK L p:=by
 rw[Cur.first,r.err,h];exact r.head
theorem Rel.next (r:Rel L c p) (s:Str):c.next s=p.is L s:=by
 cases h:p.bad with
 | true=>rw[Cur.err_next (by rw[r.err,h]),Pl.is,h];rfl
 | false=>rw[Cur.next,r.first h,Pl.is,h];rfl
theorem Rel.named (r:Rel L c p):c.named=p.named L:=by
 cases h:p.bad with
 | true=>rw[Cur.named,Cur.err_first (by rw[r.err,h]),Pl.named,h];rfl
 | false=>rw[Cur.named,r.first h,Pl.named,h];rfl
theorem Rel.nm (r:Rel L c p):c.nm=p.nm L:=by
 unfold Cur.nm Pl.nm
 rw[r.named]
 cases h:p.named L with
 | false=>rfl
 | true=>rw[r.first (Pl.named_bad h).1]
theorem Rel.pos (r:Rel L c p):c.at_=p.at_ L:=by
 unfold Cur.at_ Pl.at_
 rw[r.named]
 cases h:p.named L with
 | false=>rfl
 | true=>rw[r.first (Pl.named_bad h).1]
theorem Rel.adv' (r:Rel L c p) (hb:p.bad=false) (h:p.k+1 < L.length):Rel L c.adv p.adv:=by
 refine ⟨?_,h,by simpa[Cur.adv,Pl.adv] using r.err,fun a ha=>?_⟩
 ·show c.l.tail=L.drop (p.k+1)
  rw[r.l,List.tail_drop]
 ·have:c.err.isSome=true:=by rw[show c.err=some a from ha];rfl
  rw[r.err,hb] at this;cases this
theorem Rel.adv (hE:EndsT L) (r:Rel L c p) {s:Str} (h:p.is L s=true):Rel L c.adv p.adv:=r.adv' (Pl.is_bad h).1 (Pl.adv_lt hE r.lt h)
theorem Rel.fail (r:Rel L c p):Rel L c.fail p.fail:=by
 refine ⟨by rw[Cur.fail_l];exact r.l,r.lt,?_,fun a ha=>?_⟩
 ·unfold Cur.fail
  split
  ·rename_i h;exact h
  ·rfl
 ·unfold Cur.fail at ha
  split at ha
  ·exact r.at_ a ha
  ·rename_i h
   have hb:p.bad=false:=by rw[←r.err];simpa using h
   rw[r.first hb] at ha
   injection ha with ha;exact ha.symm
theorem Rel.must (hE:EndsT L) (r:Rel L c p) (s:Str):Rel L (c.must s) (p.must L s):=by
 unfold Cur.must Pl.must
 rw[r.next]
 split
 ·rename_i h;exact r.adv hE h
 ·exact r.fail
theorem Rel.name (hE:EndsT L) (r:Rel L c p):Rel L c.name (p.name L):=by
 unfold Cur.name Pl.name
 rw[r.named]
 split
 ·rename_i h;exact r.adv' (Pl.named_bad h).1 (hE.2 _ r.lt (Pl.named_bad h).2)
 ·exact r.fail
theorem Pl.must_bad {s:Str} (h:(p.must L s).bad=false):p.bad=false∧p.is L s=true:=by
 unfold Pl.must at h
 split at h
 ·rename_i hi;exact ⟨(Pl.is_bad hi).1,hi⟩
 ·cases h
theorem Pl.name_bad (h:(p.name L).bad=false):p.bad=false:=by
 unfold Pl.name at h
 split at h
 ·rename_i hi;exact (Pl.named_bad hi).1
 ·cases h

structure Sim {α:Type} (L:List Tk) (rc:Cur→α×Cur) (rp:Pl→α×Pl) (n:Nat):Prop where
 sim:∀ c p,Rel L c p→L.length - p.k < n→Rel L (rc c).2 (rp p).2∧((rp p).2.bad=false→p.bad=false∧(rc c).1=(rp p).1)
 suf:∀ c,(rc c).2.l <:+ c.l
 goes:Goes L rp
 still:∀ c,c.err.isSome=true→(rc c).2=c

theorem listC_err {α:Type} {rd:Cur→α×Cur} (h:∀ c:Cur,c.err.isSome=true→(rd c).2=c) (c:Cur) (he:c.err.isSome=true):(listC rd c).2=c:=by
 rw[listC,h c he]
 cases c.l.length with
 | zero=>rfl
 | succ m=>rw[loopC,Cur.err_next he];rfl
theorem Cur.must_err {s:Str} (he:c.err.isSome=true):c.must s=c:=by rw[Cur.must,Cur.err_next he];simp[Cur.fail,he]
theorem Cur.name_err (he:c.err.isSome=true):c.name=c:=by
 have:c.named=false:=by simp[Cur.named,Cur.err_first he,tk0]
 simp[Cur.name,this,Cur.fail,he]
theorem targsC_err {rd:Cur→Ty×Cur} (c:Cur) (he:c.err.isSome=true):(targsC rd c).2=c:=by rw[targsC,Cur.err_next he];rfl
theorem typeC_err (n:Nat) (c:Cur) (he:c.err.isSome=true):(typeC n c).2=c:=by
 cases n with
 | zero=>rfl
 | succ n=>show (targsC (typeC n) c.name).2=c;rw[Cur.name_err he];exact targsC_err c he
theorem baseC_err {ty:Cur→Ty×Cur} {ex:Cur→Exp×Cur} (c:Cur) (he:c.err.isSome=true):(baseC ty ex c).2=c:=by
 rw[baseC,Cur.name_err he,Cur.err_next he,Cur.err_next he];rfl
theorem dotsC_err {rs:Exp→Cur→Exp×Cur} (m:Nat) (e:Exp) (c:Cur) (he:c.err.isSome=true):(dotsC rs m e c).2=c:=by
 cases m with
 | zero=>rfl
 | succ m=>rw[dotsC,Cur.err_next he];rfl
theorem exprC_err (n:Nat) (c:Cur) (he:c.err.isSome=true):(exprC n c).2=c:=by
 cases n with
 | zero=>rfl
 | succ n=>
  show (dotsC (restC (typeC n) (exprC n)) _ _ (baseC (typeC n) (exprC n) c).2).2=c
  rw[baseC_err c he];exact dotsC_err _ _ c he

variable (hE:EndsT L)
include hE
theorem sim_list {rc:Cur→Ty×Cur} {rp:Pl→Ty×Pl} {n:Nat} (h:Sim L rc rp n):∀ (m:Nat) (c:Cur) (p:Pl),Rel L c.adv p.adv→L.length - p.k≤m→L.length - p.adv.k < n →
  Rel L ((listC rc c.adv).2.must [93]) (tloopR L rp m p).2∧((tloopR L rp m p).2.bad=false→p.bad=false∧(listC rc c.adv).1=(tloopR L rp m p).1)
 | 0,c,p,r,hm,_=>by have h1:=r.lt;have h2:p.adv.k=p.k+1:=rfl;omega
 | m+1,c,p,r,hm,hn=>by
  obtain ⟨h1,h2⟩:=h.sim _ _ r hn
  have hg:=h.goes _ r.lt
  have hk:p.adv.k=p.k+1:=rfl
  have hl:=loopC_at (fun c=>(h.suf c).length_le) (rc c.adv).2
  rw[h1.next] at hl
  rw[tloopR]
  cases hi:(rp p.adv).2.is L [44] with
  | true=>
   rw[hi] at hl
   simp only[if_true] at hl ⊢
   have e:listC rc c.adv=((rc c.adv).1 :: (listC rc (rc c.adv).2.adv).1,(listC rc (rc c.adv).2.adv).2):=by
    rw[listC,hl];rfl
   have hk2:(rp p.adv).2.adv.k=(rp p.adv).2.k+1:=rfl
   obtain ⟨h3,h4⟩:=sim_list h m (rc c.adv).2 (rp p.adv).2 (h1.adv hE hi) (by omega) (by omega)
   rw[e]
   refine ⟨h3,fun hb=>?_⟩
   obtain ⟨h5,h6⟩:=h4 hb
   obtain ⟨h7,h8⟩:=h2 h5
   exact ⟨h7,by rw[h8,h6]⟩
  | false=>
   rw[hi] at hl
   simp only[Bool.false_eq_true,if_false] at hl ⊢
   have e:listC rc c.adv=([(rc c.adv).1],(rc c.adv).2):=by rw[listC,hl]
   rw[e]
   refine ⟨h1.must hE [93],fun hb=>?_⟩
   obtain ⟨h7,h8⟩:=h2 (Pl.must_bad hb).1
   exact ⟨h7,by rw[h8]⟩
theorem sim_targs {rc:Cur→Ty×Cur} {rp:Pl→Ty×Pl} {n:Nat} (h:Sim L rc rp n) (c:Cur) (p:Pl) (r:Rel L c p) (hn:p.is L [91]=true→L.length - p.adv.k < n):
  Rel L (targsC rc c).2 (targsR L rp p).2∧((targsR L rp p).2.bad=false→p.bad=false∧(targsC rc c).1=(targsR L rp p).1):=by
 unfold targsC targsR
 rw[r.next]
 cases hi:p.is L [91] with
 | true=>
  simp only[if_true]
  exact sim_list hE h _ c p (r.adv hE hi) (Nat.le_refl _) (hn hi)
 | false=>
  simp only[Bool.false_eq_true,if_false]
  exact ⟨r,fun h=>⟨h,trivial⟩⟩
theorem sim_type:∀ n,Sim L (typeC n) (typeR L n) n
 | 0=>⟨fun _ _ _ h=>absurd h (Nat.not_lt_zero _),typeC_suf 0,typeR_lt hE 0,typeC_err 0⟩
 | n+1=>by
  refine ⟨fun c p r hn=>?_,typeC_suf _,typeR_lt hE _,typeC_err _⟩
  have r1:=r.name hE
  obtain ⟨h1,h2⟩:=sim_targs hE (sim_type n) c.name (p.name L) r1 (fun hi=>by
   have h3:(p.name L).k=p.k+1:=by
    have:=Pl.is_bad hi
    unfold Pl.name at this ⊢
    split
    ·rfl
    ·rename_i hq;rw[if_neg hq] at this;cases this.1
   have h4:(p.name L).adv.k=(p.name L).k+1:=rfl
   have:=r.lt
   omega)
  refine ⟨h1,fun hb=>?_⟩
  obtain ⟨h3,h4⟩:=h2 hb
  exact ⟨Pl.name_bad h3,by show Ty.mk _ _ _=Ty.mk _ _ _;rw[r.nm,r.pos,h4]⟩
theorem sim_alist {rc:Cur→Exp×Cur} {rp:Pl→Exp×Pl} {n:Nat} (h:Sim L rc rp n) (e:Str):∀ (m:Nat) (c:Cur) (p:Pl),Rel L c p→L.length - p.k≤m→L.length - p.k < n →
  Rel L ((listC rc c).2.must e) (aloopR L rp e m p).2∧((aloopR L rp e m p).2.bad=false→p.bad=false∧(listC rc c).1=(aloopR L rp e m p).1)
 | 0,c,p,r,hm,_=>by have h1:=r.lt;omega
 | m+1,c,p,r,hm,hn=>by
  obtain ⟨h1,h2⟩:=h.sim _ _ r hn
  have hg:=h.goes _ r.lt
  have hl:=loopC_at (fun c=>(h.suf c).length_le) (rc c).2
  rw[h1.next] at hl
  rw[aloopR]
  cases hi:(rp p).2.is L [44] with
  | true=>
   rw[hi] at hl
   simp only[if_true] at hl ⊢
   have e':listC rc c=((rc c).1 :: (listC rc (rc c).2.adv).1,(listC rc (rc c).2.adv).2):=by
    rw[listC,hl];rfl
   have hk2:(rp p).2.adv.k=(rp p).2.k+1:=rfl
   obtain ⟨h3,h4⟩:=sim_alist h e m (rc c).2.adv (rp p).2.adv (h1.adv hE hi) (by omega) (by omega)
   rw[e']
   refine ⟨h3,fun hb=>?_⟩
   obtain ⟨h5,h6⟩:=h4 hb
   obtain ⟨h7,h8⟩:=h2 h5
   exact ⟨h7,by rw[h8,h6]⟩
  | false=>
   rw[hi] at hl
   simp only[Bool.false_eq_true,if_false] at hl ⊢
   have e':listC rc c=([(rc c).1],(rc c).2):=by rw[listC,hl]
   rw[e']
   refine ⟨h1.must hE e,fun hb=>?_⟩
   obtain ⟨h7,h8⟩:=h2 (Pl.must_bad hb).1
   exact ⟨h7,by rw[h8]⟩
theorem sim_args {rc:Cur→Exp×Cur} {rp:Pl→Exp×Pl} {n:Nat} (h:Sim L rc rp n) (e:Str) (c:Cur) (p:Pl) (r:Rel L c p) (hn:p.bad=false→L.length - p.k < n):
  Rel L (argsC rc e c).2 (argsR L rp e p).2∧((argsR L rp e p).2.bad=false→p.bad=false∧(argsC rc e c).1=(argsR L rp e p).1):=by
 unfold argsC argsR
 rw[r.next]
 cases hi:p.is L e with
 | true=>simp only[if_true];exact ⟨r.must hE e,fun _=>⟨(Pl.is_bad hi).1,trivial⟩⟩
 | false=>
  simp only[Bool.false_eq_true,if_false]
  cases hb:p.bad with
  | true=>
   simp only[if_true]
   have he:c.err.isSome=true:=by rw[r.err,hb]
   rw[listC_err h.still c he,Cur.must_err he]
   exact ⟨r,fun h=>by rw[hb] at h;cases h⟩
  | false=>
   simp only[Bool.false_eq_true,if_false]
   have:=sim_alist hE h e _ c p r (Nat.le_refl _) (hn hb)
   rw[hb] at this
   exact ⟨this.1,fun h=>⟨trivial,(this.2 h).2⟩⟩
theorem sim_rest {tc:Cur→Ty×Cur} {tp:Pl→Ty×Pl} {xc:Cur→Exp×Cur} {xp:Pl→Exp×Pl} {n:Nat} (ht:Sim L tc tp n) (hx:Sim L xc xp n) (e:Exp) (c:Cur) (p:Pl) (r:Rel L c p) (hn:L.length - p.k < n):
  Rel L (restC tc xc e c).2 (restR L tp xp e p).2∧((restR L tp xp e p).2.bad=false→p.bad=false∧(restC tc xc e c).1=(restR L tp xp e p).1):=by
 unfold restC restR
 rw[r.next]
 cases hi:p.is L [40] with
 | true=>
  simp only[if_true]
  have hk:p.adv.k=p.k+1:=rfl
  obtain ⟨h1,h2⟩:=ht.sim _ _ (r.adv hE hi) (by omega)
  refine ⟨h1.must hE _,fun hb=>?_⟩
  obtain ⟨h3,h4⟩:=h2 (Pl.must_bad hb).1
  exact ⟨h3,by rw[h4,r.first (Pl.is_bad hi).1]⟩
 | false=>
  simp only[Bool.false_eq_true,if_false]
  have r1:=r.name hE
  rw[r1.next,r1.next]
  have hnl:=(Pl.name_lt hE r.lt)
  have hng:∀ s,(p.name L).is L s=true→(p.name L).k=p.k+1:=fun s hi=>by
   have:=Pl.is_bad hi
   unfold Pl.name at this ⊢
   split
   ·rfl
   ·rename_i hq;rw[if_neg hq] at this;cases this.1
  cases hq:((p.name L).is L [91] || (p.name L).is L [40]) with
  | true=>
   have hq2:(!(p.name L).is L [91]&&!(p.name L).is L [40])=false:=by
    cases h1:(p.name L).is L [91]<;>cases h2:(p.name L).is L [40]<;>simp_all
   rw[hq2]
   simp only[if_true,Bool.false_eq_true,if_false]
   obtain ⟨h1,h2⟩:=sim_targs hE ht c.name (p.name L) r1 (fun h=>by
    have h4:(p.name L).adv.k=(p.name L).k+1:=rfl
    omega)
   have r2:=h1.must hE [40]
   have hg1:=targsR_lt hE ht.goes _ r1.lt
   have hg2:=Pl.must_lt hE [40] hg1.2
   obtain ⟨h3,h4⟩:=sim_args hE hx [41] _ _ r2 (fun _=>by omega)
   refine ⟨h3,fun hb=>?_⟩
   obtain ⟨h5,h6⟩:=h4 hb
   obtain ⟨h7,h8⟩:=h2 (Pl.must_bad h5).1
   exact ⟨Pl.name_bad h7,by rw[h6,h8,r.nm,r.pos]⟩
  | false=>
   have hq2:(!(p.name L).is L [91]&&!(p.name L).is L [40])=true:=by
    cases h1:(p.name L).is L [91]<;>cases h2:(p.name L).is L [40]<;>simp_all
   rw[hq2]
   simp only[if_true,Bool.false_eq_true,if_false]
   exact ⟨r1,fun hb=>⟨Pl.name_bad hb,by rw[r.nm,r.pos]⟩⟩
theorem sim_dots {rc:Exp→Cur→Exp×Cur} {rp:Exp→Pl→Exp×Pl} {n:Nat} (hs:∀ e c,(rc e c).2.l <:+ c.l) (hg:∀ e,Goes L (rp e))
  (h:∀ e c p,Rel L c p→L.length - p.k < n→Rel L (rc e c).2 (rp e p).2∧((rp e p).2.bad=false→p.bad=false∧(rc e c).1=(rp e p).1)):∀ (m:Nat) (e e':Exp) (c:Cur) (p:Pl),Rel L c p→(p.bad=false→e=e')→L.length - p.k≤m→L.length - p.k≤n →
  Rel L (dotsC rc c.l.length e c).2 (dotsR L rp m e' p).2∧((dotsR L rp m e' p).2.bad=false→p.bad=false∧(dotsC rc c.l.length e c).1=(dotsR L rp m e' p).1)
 | 0,e,e',c,p,r,_,hm,_=>by have h1:=r.lt;omega
 | m+1,e,e',c,p,r,hee,hm,hn=>by
  rw[dotsC_at (fun e c=>(hs e c).length_le),dotsR,r.next]
  cases hi:p.is L [46] with
  | true=>
   simp only[if_true]
   obtain rfl:=hee (Pl.is_bad hi).1
   have r1:=r.adv hE hi
   have hk:p.adv.k=p.k+1:=rfl
   have hlt:=r.lt
   obtain ⟨h1,h2⟩:=h e _ _ r1 (by omega)
   have hgo:=hg e _ r1.lt
   obtain ⟨h3,h4⟩:=sim_dots hs hg h m (rc e c.adv).1 (rp e p.adv).1 (rc e c.adv).2 (rp e p.adv).2 h1 (fun hb=>(h2 hb).2) (by omega) (by omega)
   refine ⟨h3,fun hb=>?_⟩
   obtain ⟨h5,h6⟩:=h4 hb
   exact ⟨(Pl.is_bad hi).1,h6⟩
  | false=>
   simp only[Bool.false_eq_true,if_false]
   exact ⟨r,fun hb=>⟨hb,hee hb⟩⟩
theorem sim_base {tc:Cur→Ty×Cur} {tp:Pl→Ty×Pl} {xc:Cur→Exp×Cur} {xp:Pl→Exp×Pl} {n:Nat} (ht:Sim L tc tp n) (hx:Sim L xc xp n) (c:Cur) (p:Pl) (r:Rel L c p) (hn:L.length - p.k < n+1):
  Rel L (baseC tc xc c).2 (baseR L tp xp p).2∧((baseR L tp xp p).2.bad=false→p.bad=false∧(baseC tc xc c).1=(baseR L tp xp p).1):=by
 unfold baseC baseR
 have r1:=r.name hE
 rw[r1.next,r1.next]
 have hng:∀ s,(p.name L).is L s=true→(p.name L).k=p.k+1:=fun s hi=>by
  have:=Pl.is_bad hi
  unfold Pl.name at this ⊢
  split
  ·rfl
  ·rename_i hq;rw[if_neg hq] at this;cases this.1
 have hlt:=r.lt
 cases hq:((p.name L).is L [91] || (p.name L).is L [123]) with
 | true=>
  have hk:(p.name L).k=p.k+1:=by
   rcases Bool.or_eq_true _ _▸hq with h|h<;>exact hng _ h
  simp only[if_true]
  obtain ⟨h1,h2⟩:=sim_targs hE ht c.name (p.name L) r1 (fun h=>by
   have h4:(p.name L).adv.k=(p.name L).k+1:=rfl
   omega)
  have r2:=h1.must hE [123]
  have hg1:=targsR_lt hE ht.goes _ r1.lt
  have hg2:=Pl.must_lt hE [123] hg1.2
  obtain ⟨h3,h4⟩:=sim_args hE hx [125] _ _ r2 (fun _=>by omega)
  refine ⟨h3,fun hb=>?_⟩
  obtain ⟨h5,h6⟩:=h4 hb
  obtain ⟨h7,h8⟩:=h2 (Pl.must_bad h5).1
  exact ⟨Pl.name_bad h7,by rw[h6,h8,r.nm,r.pos]⟩
 | false=>
  simp only[Bool.false_eq_true,if_false]
  exact ⟨r1,fun hb=>⟨Pl.name_bad hb,by rw[r.nm,r.pos]⟩⟩
theorem sim_expr:∀ n,Sim L (exprC n) (exprR L n) n
 | 0=>⟨fun _ _ _ h=>absurd h (Nat.not_lt_zero _),exprC_suf 0,exprR_lt hE 0,exprC_err 0⟩
 | n+1=>by
  have ht:=sim_type hE n
  have hx:=sim_expr n
  refine ⟨fun c p r hn=>?_,exprC_suf _,exprR_lt hE _,exprC_err _⟩
  obtain ⟨h1,h2⟩:=sim_base hE ht hx c p r hn
  have hg:=baseR_lt hE ht.goes hx.goes p r.lt
  obtain ⟨h3,h4⟩:=sim_dots hE (restC_suf ht.suf hx.suf) (restR_lt hE ht.goes hx.goes) (fun e c p r hn=>sim_rest hE ht hx e c p r hn)
   (L.length - (baseR L (typeR L n) (exprR L n) p).2.k) (baseC (typeC n) (exprC n) c).1 (baseR L (typeR L n) (exprR L n) p).1 _ _ h1 (fun hb=>(h2 hb).2) (Nat.le_refl _) (by have:=r.lt;omega)
  refine ⟨h3,fun hb=>?_⟩
  obtain ⟨h5,h6⟩:=h4 hb
  exact ⟨(h2 h5).1,h6⟩
end
end Go.Pv
end

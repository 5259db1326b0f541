import Derived.Test.YtfgafcjebfjepaaGreatDoorPvO
set_option linter.all false
section
/- A drawn region whose last operation comes after all others: that one may see the hints, and whatever else is known by then. Nil slices that are known as such. -/
namespace Go.Pv
open Go

def guardsIn (n:Nat) (l:List Oper):Bool:=l.all fun o=>match o.guard with|some (j,_)=>decide (j < n)|none=>true
def edgesIn:Nat→List Oper→Bool
 | _,[]=>true
 | i,o :: r=>(edgesOf o).all (fun e=>decide (e < i))&&edgesIn (i+1) r
def lastOk (l:List Oper) (o:Oper):Bool:=
 guardsIn l.length l&&edgesIn 0 (l++[o])&&(List.range l.length).all fun i=>((masks (l++[o]) []).getD l.length 0).testBit i

section
variable {ops ops':Array Oper}

end

def Gives (P:Program) (σ σ':AS):Prop:=∀ (cx:Cx) (a:Act) (w:World),cx.P=P→R cx σ a w→R cx σ' a w
theorem Gives.refl {P:Program} {σ:AS}:Gives P σ σ:=fun _ _ _ _ h=>h
theorem Gives.trans {P:Program} {σ1 σ2 σ3:AS} (h:Gives P σ1 σ2) (k:Gives P σ2 σ3):Gives P σ1 σ3:=fun cx a w hP r=>k cx a w hP (h cx a w hP r)

section
variable {P:Program} {gl:Gl} {σ:AS} {Q:Exit→AS→Prop}

theorem AT_str {c:Code} {σ':AS} (hs:Gives P σ σ') (h:AT P gl c σ' Q):AT P gl c σ Q:=fun cx ro n a w hP hg hro r=>h cx ro n a w hP hg hro (hs cx a w hP r)

end

def nilled (l:List AV) (ns:List Nat):List AV:=ns.foldl (fun l n=>l.set n .nilS) l
attribute [simp] nilled

theorem nilled_rep {lim:Lim} {h:Array Obj} {vs:List Value}:∀ (ns:List Nat) (l:List AV),RepL lim h vs l→(∀ j∈ns,vs[j]? = some (.slice none 0 0))→RepL lim h vs (nilled l ns)
 | [],l,r,_=>r
 | n :: ns,l,r,hn=>by
  refine nilled_rep ns (l.set n .nilS) ?_ (fun j hj=>hn j (List.mem_cons_of_mem _ hj))
  have h1:=hn n (List.mem_cons_self ..)
  have e:vs.set n (.slice none 0 0)=vs:=by
   apply List.ext_getElem?
   intro i
   rw[List.getElem?_set]
   split
   ·rename_i he;subst he
    obtain ⟨h2,-⟩:=List.getElem?_eq_some_iff.1 h1
    rw[if_pos h2,h1]
   ·rfl
  have:=r.set n (x:=.nilS) .nilS
  rwa[e] at this

theorem R.nilled {cx:Cx} {σ:AS} {a:Act} {w:World} (h:R cx σ a w) {t:Nat} {l:List AV} {ns:List Nat} (hl:look t σ.tm=some (.bld l ns)):R cx { σ with tm:=(t,.v (.agg (Pv.nilled l ns)) none) :: σ.tm } a w:=by
 obtain ⟨gh,r⟩:=h
 have hu:∀ {g e},AS.uses { σ with tm:=(t,.v (.agg (Pv.nilled l ns)) none) :: σ.tm } g e→σ.uses g e:=by
  rintro g e (⟨s,y,h⟩|h)
  ·simp only[look] at h
   split at h
   ·injection h with h;cases h
   ·exact .inl ⟨s,y,h⟩
  ·exact .inr h
 refine ⟨gh,{ frm:=r.frm,base:=r.base,limB:=r.limB,size:=r.size,ex:=r.ex.sub (fun s q hq=>?_) rfl rfl,gl:=r.gl,tmps:=fun s y hy=>?_,boxes:=r.boxes,inj:=r.inj,shs:=r.shs,apart:=r.apart,tbs:=r.tbs,own:=fun g e h=>r.own g e (hu h),alone:=fun g e g' e' h h'=>r.alone g e g' e' (hu h) (hu h') }⟩
 ·simp only[look] at hq
  split at hq
  ·cases hq
  ·exact hq
 ·simp only[look] at hy
  split at hy
  ·rename_i he;subst he
   injection hy with hy;subst hy
   have h1:=(r.tmps t _ hl).1
   obtain ⟨cs,hv,hr⟩:=Rep.agg_iff.1 h1.1
   refine ⟨⟨Rep.agg_iff.2 ⟨cs,hv,nilled_rep ns l hr fun j hj=>?_⟩,by simp⟩,fun k off hk=>by cases hk⟩
   have:=h1.2 j hj
   rw[hv] at this
   simpa[Value.cells] using this
  ·exact r.tmps s y hy

theorem R.recell {cx:Cx} {σ:AS} {a:Act} {w:World} (h:R cx σ a w) (k j:Nat) {x y:AV} {cells:List AV} (hk:look k σ.bx=some cells) (hj:cells[j]? = some x) (hxy:∀ (lim:Lim) (h:Array Obj) (v:Value),Rep lim h v x→Rep lim h v y):
  R cx { σ with bx:=(k,cells.set j y) :: σ.bx } a w:=by
 obtain ⟨gh,r⟩:=h
 have hlk:∀ k',(look k' ((k,cells.set j y) :: σ.bx)).isSome=(look k' σ.bx).isSome:=by
  intro k'
  simp only[look]
  split
  ·rename_i h;subst h;rw[hk];rfl
  ·rfl
 obtain ⟨hB,hlim,cs,ee,hcs,hrep⟩:=r.boxes k cells hk
 obtain ⟨v,hv,hrv⟩:=hrep.get hj
 have hset:cs.toList.set j v=cs.toList:=by
  apply List.ext_getElem?
  intro i
  rw[List.getElem?_set]
  split
  ·rename_i he;subst he
   obtain ⟨h2,-⟩:=List.getElem?_eq_some_iff.1 hv
   rw[if_pos h2,hv]
  ·rfl
 refine ⟨gh,{ frm:=r.frm,base:=r.base,limB:=r.limB,size:=r.size,ex:=r.ex.sub (fun _ _ h=>h) rfl rfl,gl:=r.gl,tmps:=fun t x hx=>⟨(r.tmps t x hx).1,fun k' o h=>by rw[hlk];exact (r.tmps t x hx).2 k' o h⟩,boxes:=fun k' c hc=>?_,inj:=fun k1 k2 h1 h2=>by rw[hlk] at h1 h2;exact r.inj k1 k2 h1 h2,shs:=r.shs,apart:=fun b k' h1 h2=>by rw[hlk] at h2;exact r.apart b k' h1 h2,tbs:=fun k' i g e h=>⟨by rw[hlk];exact (r.tbs k' i g e h).1,(r.tbs k' i g e h).2⟩,own:=fun g e h=>⟨(r.own g e h).1,fun b hb=>⟨fun k' h'=>by rw[hlk] at h';exact ((r.own g e h).2 b hb).1 k' h',((r.own g e h).2 b hb).2⟩⟩,alone:=r.alone }⟩
 simp only[look] at hc
 split at hc
 ·rename_i he;subst he
  injection hc with hc;subst hc
  have:=hrep.set j (hxy _ _ _ hrv)
  rw[hset] at this
  exact ⟨hB,hlim,cs,ee,hcs,this⟩
 ·exact r.boxes k' c hc
theorem Gives.weakX {P:Program} {σ:AS} (k j:Nat) {l:List (List AV)} {cells:List AV} (hk:look k σ.bx=some cells) (hj:cells[j]? = some (.slX l)):
  Gives P σ { σ with bx:=(k,cells.set j (.slice l)) :: σ.bx }:=fun _ _ _ _ r=>r.recell k j hk hj fun _ _ _ h=>by obtain ⟨_,_,h2⟩:=h.slX_inv;exact h2
theorem Gives.nilled {P:Program} {σ:AS} (t:Nat) {l:List AV} {ns:List Nat} (hl:look t σ.tm=some (.bld l ns)):Gives P σ { σ with tm:=(t,.v (.agg (Pv.nilled l ns)) none) :: σ.tm }:=fun _ _ _ _ r=>r.nilled hl
end Go.Pv
end

section
/- A drawn region by all its orders. Shared objects: calls of methods, objects that a function makes. -/
namespace Go.Pv
open Go

section
variable {P:Program} {gl:Gl} {ops:Array Oper} {Q:Exit→AS→Prop} {σ:AS}

def ANY (P:Program) (gl:Gl) (ops:Array Oper) (Q:Exit→AS→Prop) (fuel:Nat) (listed:Array Bool) (σ:AS):Prop:=
 ∀ (cx:Cx) (ro:Option Nat) (n:Nat) (a:Act) (w:World),cx.P=P→cx.gl=gl→(gl.rnd=false→ro=none)→R cx σ a w →
  wpAnyIn (Fw ro) n P .any ops (fun e a' w'=>∃ σ',Q e σ'∧R cx σ' a' w') fuel listed a w

theorem AT_any {id:Nat} (hm:P.follows .mixedOrders=true) (h:ANY P gl ops Q ops.size (Array.replicate ops.size false) σ):AT P gl (.region id ops true) σ Q:=by
 intro cx ro n a w hP hg hro r
 exact wpIn_region_any hm (h cx ro n a _ hP hg hro (r.drew (w.drawn+1)))

theorem ANY_done {listed:Array Bool} {fuel:Nat} (hr:Region.ready .any ops listed=[]) (h:Q .normal σ):ANY P gl ops Q fuel listed σ:=
 fun _ _ _ _ _ _ _ _ r=>wpAnyIn_done hr ⟨σ,h,r⟩ fuel

def AnyAll (P:Program) (gl:Gl) (ops:Array Oper) (Q:Exit→AS→Prop) (fuel:Nat) (listed:Array Bool) (σ:AS) (rs:List Nat):Prop:=
 ∀ i∈rs,∃ o,ops[i]? = some o∧nextV P gl ops o σ fun s=>ANY P gl ops Q fuel (listed.setIfInBounds i true) s

theorem AnyAll.nil {listed:Array Bool} {fuel:Nat}:AnyAll P gl ops Q fuel listed σ []:=fun _ h=>by cases h
theorem AnyAll.cons {listed:Array Bool} {fuel i:Nat} {rs:List Nat} {o:Oper} (ho:ops[i]? = some o) (h:∀ K:AS→Prop,(∀ s,ANY P gl ops Q fuel (listed.setIfInBounds i true) s→K s)→RV P gl ops [o] σ K) (hs:AnyAll P gl ops Q fuel listed σ rs):
  AnyAll P gl ops Q fuel listed σ (i :: rs):=fun j hj=>by
 rcases List.mem_cons.1 hj with rfl|hj
 ·exact ⟨o,ho,h _ fun _ h=>h⟩
 ·exact hs j hj

theorem ANY_ready {listed:Array Bool} {fuel:Nat} (rs:List Nat) (hr:Region.ready .any ops listed=rs) (hne:rs≠[]) (h:AnyAll P gl ops Q fuel listed σ rs):ANY P gl ops Q (fuel+1) listed σ:=by
 intro cx ro n a w hP hg hro r
 refine wpAnyIn_all hr hne fun i hi=>?_
 obtain ⟨o,ho,hn⟩:=h i hi
 subst hP;subst hg
 refine wpOpIn_mono (fun a' w' hh=>?_) (opIn_sound (ro:=ro) (n:=n) ho r hn)
 obtain ⟨σ',hk,r'⟩:=hh
 exact hk cx ro n a' w' rfl rfl hro r'

theorem ANY_take {listed:Array Bool} {fuel:Nat} (i:Nat) {o:Oper} {x:TV} (hy:gl.rnd=false) (hQ:∀ c s,¬ Q (.panic c) s) (ho:ops[i]? = some o) (hg:guardB ops o σ=some true) (hd:dstOk P o σ=true)
  (hv:(∃ y,o.op=.move y∧x=ev gl σ y)∨∃ t y f k off j,o.op=.fieldAddr t y f∧ev gl σ y=.lp k off∧foff P t f=some j∧x=.lp k (off+j))
  (hs:Region.noSelect ops=true) (hf:Region.free .any ops listed i=true) (hr:(Region.ready .any ops listed).contains i=true)
  (h:ANY P gl ops Q fuel (listed.setIfInBounds i true) (σ.put o.dst x)):ANY P gl ops Q (fuel+1) listed σ:=by
 intro cx ro n a w hP hgl hro r
 subst hP;subst hgl
 obtain rfl:=hro hy
 obtain ⟨gh,r⟩:=r
 have hw:Region.wanted o (yielded ops a.tmps)=true:=wanted_of r hg
 have hd':=dst_of hd
 rcases hv with ⟨y,hop,rfl⟩|⟨t,y,f,k,off,j,hop,hy,hj,rfl⟩
 ·refine wpAnyIn_take (v:=a.eval y) rfl ho hs hf hr (fun c a w hq=>?_) ⟨.inl ⟨hw,fun w=>by simp[execOp,hop]⟩,fun w=>by simp[Oper.about,hop]⟩ ?_
  ·obtain ⟨s,hq,-⟩:=hq;exact absurd hq (hQ c s)
  ·exact h cx none n _ w rfl rfl (fun _=>rfl) ⟨gh,r.put o.dst hd' (ev_nit _ _ _) (r.ev y) (fun k off h=>r.ev_lp y h) fun z g e h=>r.ev_uses y h⟩
 ·have hx:=r.ev y
  rw[hy] at hx
  refine wpAnyIn_take (v:=.pointer (some ⟨gh.bl k,off+j,none⟩)) rfl ho hs hf hr (fun c a w hq=>?_) ⟨.inl ⟨hw,fun w=>?_⟩,fun w=>by simp[Oper.about,hop]⟩ ?_
  ·obtain ⟨s,hq,-⟩:=hq;exact absurd hq (hQ c s)
  ·have he:execOp a.eval o=(do pure (.value (← Instr.fieldAt t (a.eval y) f))):=by simp[execOp,hop]
   rw[he,show a.eval y=.pointer (some ⟨gh.bl k,off,none⟩) from hx]
   simp[run_fieldAt hj w]
  ·exact h cx none n _ w rfl rfl (fun _=>rfl) ⟨gh,r.put o.dst hd' rfl rfl (fun k' o' h=>by injection h with e1 e2;subst e1;exact r.ev_lp y hy) (by simp)⟩

theorem AT_seq_any {id:Nat} {l:List Oper} {y:Code} (ts bs:List Nat) (J:AS→Prop) (hm:P.follows .mixedOrders=true)
  (h:∀ K:Exit→AS→Prop,(∀ s,lpOk (pick bs s.bx) (pick ts s.tm)=true→J (s.keep ts bs)→K .normal s)→(∀ c s,¬ K (.panic c) s)→ANY P gl l.toArray K l.length (Array.replicate l.length false) σ) (hy:∀ s,J s→AT P gl y s Q):AT P gl (.seq (.region id l.toArray true) y) σ Q:=by
 refine AT_seq ?_
 have:=AT_any (id:=id) (ops:=l.toArray) hm (by
  have:=h (fun e s=>match e with | .normal=>AT P gl y s Q|_=>False) (fun s hok hj=>AT_keep ts bs hok (hy _ hj)) (fun c s h=>h)
  simpa using this)
 exact AT_mono this fun e s hs=>by cases e<;>first|exact hs|exact hs.elim
end

section
variable {P:Program} {gl:Gl}

def ValidC (P:Program) (gl:Gl) (f:FuncId) (args:List AV) (b:Nat) (c:List AV) (r:AV) (c':List AV):Prop:=
 ValidH P gl f (.gp b 0 :: args) [(b,c)] fun r' sh'=>r'=r∧sh'=[(b,c')]

theorem validC_of {f:FuncId} {fn:Func} {cd:Code} {args:List AV} {b:Nat} {c c':List AV} {r:AV} (hint:List (Nat×Nat)) (hf:P.funcs[f]? = some fn) (hb:fn.body=some cd) (hok:fnOk P f=true)
  (h:AT P gl cd (entry fn (.gp b 0 :: args) [(b,c)] hint) (done P fn fun r' s=>r'=r∧look b s.sh=some c')) (hy:gl.y=none:=by rfl):ValidC P gl f args b c r c':=by
 refine validH_of hint hf hb hok (AT_mono h fun e s hs=>?_) hy
 have key:(∃ r',resOk P fn s r'∧r'=r∧look b s.sh=some c')→∃ r',resOk P fn s r'∧∃ sh',(∀ b' cl,look b' sh'=some cl→look b' s.sh=some cl)∧(∀ b',(look b' [(b,c)]).isSome=true→(look b' sh').isSome=true)∧r'=r∧sh'=[(b,c')]:=
  fun ⟨r',h1,h2,h3⟩=>⟨r',h1,[(b,c')],fun b' cl h=>(by
   simp only[look] at h
   split at h
   ·rename_i he;subst he;injection h with h;subst h;exact h3
   ·cases h),fun b' h=>(by
   simp only[look] at h ⊢
   split
   ·rfl
   ·rename_i hne;simp[hne] at h),h2,rfl⟩
 cases e with
 | normal=>exact key hs
 | ret=>exact key hs
 | exit id=>exact hs
 | goto l=>exact hs
 | panic ch=>exact hs
 | outgrown=>exact hs

theorem callV_C {f:FuncId} {args:List AV} {σ:AS} {d:Option Nat} {K:AS→Prop} {b:Nat} {c c':List AV} {r:AV} (hy:gl.y=none) (h:ValidC P gl f args b c r c') (hsh:σ.sh=[(b,c)]) (k:K ({ σ with sh:=[(b,c')] }.put d (.v r none))):callV P gl f (.gp b 0 :: args) σ d K:=
 .inl ⟨hy,[(b,c)],_,id,⟨fun sh' b' c' h=>by rw[look_append];rw[show look b' sh'=some c' from h];rfl,fun b' c' h=>by rw[hsh];exact h⟩,h,fun r' sh' hp=>by obtain ⟨rfl,rfl⟩:=hp;exact k⟩

def ValidN (P:Program) (gl:Gl) (f:FuncId) (args:List AV) (c:List AV):Prop:=
 ValidH P gl f args [] fun r sh'=>∃ b,r=.gp b 0∧sh'=[(b,c)]

theorem callV_N {f:FuncId} {args:List AV} {σ:AS} {d:Option Nat} {K:AS→Prop} {c:List AV} (hy:gl.y=none) (h:ValidN P gl f args c) (k:∀ b,K ({ σ with sh:=[(b,c)] }.put d (.v (.gp b 0) none))):callV P gl f args σ d K:=
 .inl ⟨hy,[],_,id,⟨fun sh' b' c' h=>by rw[look_append];rw[show look b' sh'=some c' from h];rfl,fun b' c' h=>by cases h⟩,h,fun r' sh' hp=>by obtain ⟨b,rfl,rfl⟩:=hp;exact k b⟩

def TV.esc (k b:Nat):TV→TV
 | .lp k' o=>if k'=k then .v (.gp b o) none else .lp k' o
 | x=>x
def AS.esc (σ:AS) (k b:Nat) (cells:List AV):AS:={ σ with tm:=σ.tm.map fun p=>(p.1,p.2.esc k b),bx:=σ.bx.filter fun p=>!(p.1==k),sh:=(b,cells) :: σ.sh }

theorem look_map_esc {k b t:Nat}:∀ (tm:List (Nat×TV)),look t (tm.map fun p=>(p.1,p.2.esc k b))=(look t tm).map (·.esc k b)
 | []=>rfl
 | (j,x) :: r=>by
  simp only[List.map_cons,look]
  split
  ·rfl
  ·exact look_map_esc r
theorem look_filter_ne {α:Type} {k k':Nat} (h:k'≠k):∀ (l:List (Nat×α)),look k' (l.filter fun p=>!(p.1==k))=look k' l
 | []=>rfl
 | (j,x) :: r=>by
  by_cases hj:j=k
  ·subst hj
   simp only[List.filter_cons,BEq.rfl,Bool.not_true,Bool.false_eq_true,if_false,look,if_neg (Ne.symm h)]
   exact look_filter_ne h r
  ·have hj':(j==k)=false:=by simpa using hj
   simp only[List.filter_cons,hj',Bool.not_false,if_true,look]
   split
   ·rfl
   ·exact look_filter_ne h r
theorem look_filter_eq {α:Type} {k:Nat}:∀ (l:List (Nat×α)),look k (l.filter fun p=>!(p.1==k))=none
 | []=>rfl
 | (j,x) :: r=>by
  by_cases hj:j=k
  ·subst hj
   simp only[List.filter_cons,BEq.rfl,Bool.not_true,Bool.false_eq_true,if_false]
   exact look_filter_eq r
  ·have hj':(j==k)=false:=by simpa using hj
   simp only[List.filter_cons,hj',Bool.not_false,if_true,look,if_neg hj]
   exact look_filter_eq r

theorem RR.esc {cx:Cx} {gh:Gh} {σ:AS} {a:Act} {w:World} (r:RR cx gh σ a w) {k:Nat} {cells:List AV} (hk:look k σ.bx=some cells) (htb:(σ.tb.all fun q=>!(q.1==k))=true) (hcl:noClP k σ.tm):
  RR cx gh (σ.esc k (gh.bl k) cells) a w:=by
 have hks:(look k σ.bx).isSome=true:=by simp[hk]
 have hne:∀ {k'},(look k' (σ.esc k (gh.bl k) cells).bx).isSome=true→k'≠k∧(look k' σ.bx).isSome=true:=by
  intro k' h
  by_cases he:k'=k
  ·subst he
   rw[show (σ.esc k' (gh.bl k') cells).bx=σ.bx.filter fun p=>!(p.1==k') from rfl,look_filter_eq] at h;cases h
  ·rw[show (σ.esc k (gh.bl k) cells).bx=σ.bx.filter fun p=>!(p.1==k) from rfl,look_filter_ne he] at h
   exact ⟨he,h⟩
 have hin:∀ {k'},k'≠k→look k' (σ.esc k (gh.bl k) cells).bx=look k' σ.bx:=fun he=>look_filter_ne he _
 have hu:∀ {g e},AS.uses (σ.esc k (gh.bl k) cells) g e→σ.uses g e:=by
  rintro g e (⟨t,x,h⟩|h)
  ·rw[show (σ.esc k (gh.bl k) cells).tm=σ.tm.map fun p=>(p.1,p.2.esc k (gh.bl k)) from rfl,look_map_esc] at h
   obtain ⟨y,hy,he⟩:=Option.map_eq_some_iff.1 h
   cases y with
   | lp k' o=>simp only[TV.esc] at he;split at he<;>simp at he
   | v z g'=>simp only[TV.esc] at he;rw[he] at hy;exact .inl ⟨t,x,hy⟩
   | un=>cases he
   | bld l ns=>cases he
   | it k9=>cases he
   | cl f ks=>cases he
  ·exact .inr h
 obtain ⟨hB,hbox⟩:=r.boxes k cells hk
 refine { frm:=r.frm,base:=r.base,limB:=r.limB,size:=r.size,ex:=r.ex.sub (fun t q hq=>?_) rfl rfl,gl:=r.gl,tmps:=fun t x hx=>?_,boxes:=fun k' c hc=>?_,inj:=fun k1 k2 h1 h2=>r.inj k1 k2 (hne h1).2 (hne h2).2,shs:=fun b c hb=>?_,apart:=fun b k' h1 h2=>?_,tbs:=fun k' j g e hq=>?_,own:=fun g e h=>?_,alone:=fun g e g' e' h h'=>r.alone g e g' e' (hu h) (hu h') }
 ·rw[show (σ.esc k (gh.bl k) cells).tm=σ.tm.map fun p=>(p.1,p.2.esc k (gh.bl k)) from rfl,look_map_esc] at hq
  obtain ⟨y,hy,he⟩:=Option.map_eq_some_iff.1 hq
  cases y with
  | lp k' o=>simp only[TV.esc] at he;split at he<;>cases he
  | it k9=>simp only[TV.esc] at he;rw[he] at hy;exact hy
  | v z g'=>cases he
  | un=>cases he
  | bld l ns=>cases he
  | cl f ks=>cases he
 ·rw[show (σ.esc k (gh.bl k) cells).tm=σ.tm.map fun p=>(p.1,p.2.esc k (gh.bl k)) from rfl,look_map_esc] at hx
  obtain ⟨y,hy,rfl⟩:=Option.map_eq_some_iff.1 hx
  have h1:=r.tmps t y hy
  cases y with
  | lp k' o=>
   simp only[TV.esc]
   by_cases he:k'=k
   ·subst he
    rw[if_pos rfl]
    have h2:a.tmps.getD t undef=.pointer (some ⟨gh.bl k',o,none⟩):=h1.1
    refine ⟨⟨?_,by simp⟩,fun k2 off h=>by cases h⟩
    rw[h2];exact .gp _ _
   ·rw[if_neg he]
    refine ⟨h1.1,fun k2 off h=>?_⟩
    injection h with e1 e2;subst e1
    rw[hin he];exact h1.2 k' o rfl
  | v z g'=>exact ⟨h1.1,fun k2 off h=>by cases h⟩
  | un=>exact ⟨h1.1,fun k2 off h=>by cases h⟩
  | bld l ns=>exact ⟨h1.1,fun k2 off h=>by cases h⟩
  | it k9=>exact ⟨h1.1,fun k2 off h=>by cases h⟩
  | cl f ks=>exact ⟨h1.1,fun k2 off h=>by cases h⟩
 ·have hn:=hne (k':=k') (by rw[hc];rfl)
  rw[hin hn.1] at hc
  exact r.boxes k' c hc
 ·rw[show (σ.esc k (gh.bl k) cells).sh=(gh.bl k,cells) :: σ.sh from rfl] at hb
  simp only[look] at hb
  split at hb
  ·rename_i he;subst he
   injection hb with hb;subst hb
   exact ⟨.inr hB,hbox⟩
  ·exact r.shs b c hb
 ·have hn:=hne h2
  rw[show (σ.esc k (gh.bl k) cells).sh=(gh.bl k,cells) :: σ.sh from rfl] at h1
  simp only[look] at h1
  split at h1
  ·rename_i he;subst he
   exact fun h=>hn.1 (r.inj k' k hn.2 hks h)
  ·exact r.apart b k' h1 hn.2
 ·have hq':(k',j,g,e)∈σ.tb:=hq
  have h1:=r.tbs k' j g e hq'
  have hkk:k'≠k:=by
   have:=List.all_eq_true.1 htb _ hq'
   simpa using this
  exact ⟨by rw[hin hkk];exact h1.1,h1.2⟩
 ·have h1:=r.own g e (hu h)
  refine ⟨h1.1,fun b hb=>⟨fun k' hk'=>(h1.2 b hb).1 k' (hne hk').2,?_⟩⟩
  rw[show (σ.esc k (gh.bl k) cells).sh=(gh.bl k,cells) :: σ.sh from rfl]
  simp only[look]
  rw[if_neg ((h1.2 b hb).1 k hks)]
  exact (h1.2 b hb).2

theorem AT_esc {σ:AS} {Q:Exit→AS→Prop} {c:Code} (k:Nat) {cells:List AV} (hk:look k σ.bx=some cells) (htb:(σ.tb.all fun q=>!(q.1==k))=true) (hcl:noClP k σ.tm) (h:∀ b,AT P gl c (σ.esc k b cells) Q):AT P gl c σ Q:=by
 intro cx ro n a w hP hg hro r
 obtain ⟨gh,r⟩:=r
 exact h (gh.bl k) cx ro n a w hP hg hro ⟨gh,r.esc hk htb hcl⟩
end
attribute [simp] TV.esc AS.esc

theorem validN_of {P:Program} {gl:Gl} {f:FuncId} {fn:Func} {cd:Code} {args:List AV} {c:List AV} (hint:List (Nat×Nat)) (hf:P.funcs[f]? = some fn) (hb:fn.body=some cd) (hok:fnOk P f=true)
  (h:AT P gl cd (entry fn args [] hint) (done P fn fun r' s=>∃ b,r'=.gp b 0∧look b s.sh=some c)) (hy:gl.y=none:=by rfl):ValidN P gl f args c:=by
 refine validH_of hint hf hb hok (AT_mono h fun e s hs=>?_) hy
 have key:(∃ r',resOk P fn s r'∧∃ b,r'=.gp b 0∧look b s.sh=some c)→∃ r',resOk P fn s r'∧∃ sh',(∀ b' cl,look b' sh'=some cl→look b' s.sh=some cl)∧(∀ b',(look b' ([]:List (Nat×List AV))).isSome=true→(look b' sh').isSome=true)∧∃ b,r'=.gp b 0∧sh'=[(b,c)]:=
  fun ⟨r',h1,b,h2,h3⟩=>⟨r',h1,[(b,c)],fun b' cl h=>(by
   simp only[look] at h
   split at h
   ·rename_i he;subst he;injection h with h;subst h;exact h3
   ·cases h),fun b' h=>(by cases h),b,h2,rfl⟩
 cases e with
 | normal=>exact key hs
 | ret=>exact key hs
 | exit id=>exact hs
 | goto l=>exact hs
 | panic ch=>exact hs
 | outgrown=>exact hs

end Go.Pv
end

section
/- append(out, x) whose new element is put in behind it: the last four operations of a region that draws its order. -/
namespace Go.Pv
open Go

section
variable {cx:Cx} {gh:Gh} {σ:AS} {a:Act} {w:World}

theorem RR.pushed (r:RR cx gh σ a w) (hgy:cx.gl.y=none) (g e:Nat) {l ys:List (List AV)} (huse:σ.uses g e) (hsv:Rep gh.lim w.heap (gh.gv g) (.slice l)) (hrowsl:Rows (esz cx.P e) l) (hrows:Rows (esz cx.P e) ys)
  {xs news:List Value} {v':Value} {w':World} (hnr:RepL gh.lim w.heap news ys.flatten) (hown:w.ownsRow cx.B e (esz cx.P e) (gh.gv g) l.length xs) (hown':w'.ownsRow cx.B e (esz cx.P e) v' (l.length+ys.length) (xs++news))
  (hf:Frm w.heap.size (fun b=>(gh.gv g).ownBlock=some b) w w') (hb:∀ b,v'.ownBlock=some b→(gh.gv g).ownBlock=some b∨w.heap.size≤b)
  (hk:∀ b o u,(gh.gv g).ownBlock=some b→o < l.length * esz cx.P e→cellAt w.heap b o=some u→cellAt w'.heap b o=some u) (d:Option Nat) (hd:∀ t,d=some t→t < σ.n∧t∉σ.fx):
  ∃ gh',RR cx gh' ((σ.purge g).put d (.v (.slice (l++ys)) (some (g,e)))) (a.put d v') w'∧gh'.gv g=v':=by
 obtain ⟨gh',r2,hg',hkeep,hlim',hap',hal'⟩:=r.append hgy g e huse v' (l.length+ys.length) (xs++news) hown' hf hb (fun n xs' hn=>by
  have hnl':n=l.length:=ownsRow_congr hn hown
  subst hnl'
  exact ⟨by omega,hk⟩)
 have hrep:Rep gh'.lim w'.heap v' (.slice (l++ys)):=by
  have hxs:RepL gh'.lim w'.heap xs l.flatten:=by
   by_cases hl0:l=[]
   ·subst hl0
    have:xs=[]:=List.eq_nil_of_length_eq_zero (by rw[hown.1];simp)
    subst this
    exact RepL.nil _ _
   ·have hsr:=hsv
    rcases hown.2 with ⟨h0,h1⟩|⟨g',cap',cur,h0,_,hg,_,_,hcs,htake⟩
    ·exact absurd (List.eq_nil_of_length_eq_zero h1) hl0
    ·rw[h0] at hsr
     obtain ⟨b,off,vs,hp,hvl,hvr,hvc⟩:=hsr.slice_cells (sz:=esz cx.P e) (fun y hy=>(hrowsl y hy).1) hl0
     simp only[Option.some.injEq,Addr.mk.injEq,and_true] at hp
     obtain ⟨rfl,rfl⟩:=hp
     have hvx:vs=xs:=by
      apply List.ext_getElem?
      intro j
      rcases Nat.lt_or_ge j vs.length with hj|hj
      ·have h1:=(hvc j vs[j] (by simp[hj])).2
       unfold cellAt at h1
       rw[hg,Nat.zero_add] at h1
       rw[←htake,List.getElem?_take,if_pos (by rw[hvl] at hj;exact hj)]
       simp only[] at h1
       rw[List.getElem?_eq_getElem hj]
       simpa using h1.symm
      ·rw[List.getElem?_eq_none hj,List.getElem?_eq_none (by rw[hown.1,← hvl];exact hj)]
     subst hvx
     exact hvr.mono hkeep
  have hall:RepL gh'.lim w'.heap (xs++news) (l++ys).flatten:=by
   rw[List.flatten_append]
   exact hxs.append (hnr.mono hkeep)
  rcases hown'.2 with ⟨h0,h1⟩|⟨g',cap',cur,h0,_,hg,hnc,_,hcs,htake⟩
  ·have hl0:l=[]:=List.eq_nil_of_length_eq_zero (by omega)
   have hy0:ys=[]:=List.eq_nil_of_length_eq_zero (by omega)
   subst hl0;subst hy0
   rw[h0]
   exact .slice0 _ _
  ·have hlimg:=hlim' g' (by rw[h0];rfl)
   rw[h0]
   have:=Rep.slice_mk (lim:=gh'.lim) (h:=w'.heap) (b:=g') (off:=0) (cap:=cap') (sz:=esz cx.P e) (l:=l++ys) (vs:=xs++news) (by simp;omega) (fun y hy=>by
    rcases List.mem_append.1 hy with hy|hy
    ·exact (hrowsl y hy).1
    ·exact (hrows y hy).1) hall (fun j u hu=>by
    have hj:j < (l.length+ys.length) * esz cx.P e:=by rw[←hown'.1];exact (List.getElem?_eq_some_iff.1 hu).1
    refine ⟨fun n hn=>?_,?_⟩
    ·rw[hlimg] at hn
     injection hn with hn
     rw[Nat.zero_add,← hn];exact hj
    ·unfold cellAt
     rw[hg,Nat.zero_add]
     simp only[]
     rw[←htake,List.getElem?_take,if_pos hj] at hu
     simpa using hu)
   rwa[List.length_append] at this
 have hu0:∀ e',¬ (σ.purge g).uses g e':=fun e' h=>(AS.uses_purge h).2 rfl
 have r3:=r2.putTag d (fun t ht=>hd t ht) g e (x:=.slice (l++ys)) (by rw[hg'];exact hrep) (by
  rw[hg']
  exact ⟨⟨l.length+ys.length,xs++news,hown',hlim'⟩,fun b hb=>hap' b hb,fun g2 e2 h2 _ b hb=>hal' g2 e2 h2 b hb⟩) (fun e' h=>absurd h (hu0 e'))
 rw[hg'] at r3
 exact ⟨gh',r3,hg'⟩
end

section
variable {P:Program} {ops:Array Oper} {Q:Exit→Act→World→Prop} {ro:Option Nat} {n:Nat}

end

structure PushOps (ops:Array Oper) (listed:Array Bool) (iA iI iS iB T e s y j x q d p:Nat):Prop where
 A:∃ o,ops[iA]? = some o∧o.guard=none∧o.dst=some d∧o.op=.call { callee:=.builtin .append,args:=#[.tmp s,.tmp y],argTypes:=#[T,T] }
 I:∃ o,ops[iI]? = some o∧o.guard=none∧o.dst=some p∧o.op=.indexAddr T (.tmp d) (.tmp j)
 S:∃ o,ops[iS]? = some o∧o.guard=none∧o.dst=none∧o.op=.store e (.tmp p) (.tmp x)
 B:∃ o,ops[iB]? = some o∧o.guard=none∧o.dst=none∧o.op=.store T (.tmp q) (.tmp d)
 r0:Region.ready .any ops listed=[iA]
 r1:Region.ready .any ops (listed.setIfInBounds iA true)=[iI,iB]
 r2:Region.ready .any ops ((listed.setIfInBounds iA true).setIfInBounds iI true)=[iS,iB]
 r3:Region.ready .any ops (((listed.setIfInBounds iA true).setIfInBounds iI true).setIfInBounds iS true)=[iB]
 r4:Region.ready .any ops ((((listed.setIfInBounds iA true).setIfInBounds iI true).setIfInBounds iS true).setIfInBounds iB true)=[]
 r5:Region.ready .any ops (((listed.setIfInBounds iA true).setIfInBounds iI true).setIfInBounds iB true)=[iS]
 r6:Region.ready .any ops ((((listed.setIfInBounds iA true).setIfInBounds iI true).setIfInBounds iB true).setIfInBounds iS true)=[]
 r7:Region.ready .any ops ((listed.setIfInBounds iA true).setIfInBounds iB true)=[iI]
 r8:Region.ready .any ops (((listed.setIfInBounds iA true).setIfInBounds iB true).setIfInBounds iI true)=[iS]
 r9:Region.ready .any ops ((((listed.setIfInBounds iA true).setIfInBounds iB true).setIfInBounds iI true).setIfInBounds iS true)=[]
 ne:d≠p∧j≠d∧x≠d∧q≠d∧x≠p∧q≠p

def pushed (σ:AS) (g e d p k:Nat) (l:List (List AV)) (x:List AV) (cells:List AV):AS:=
 { ((σ.purge g).put (some d) (.v (.slice (l++[x])) (some (g,e)))).put (some p) .un with bx:=(k,splice cells 0 [.slice (l++[x])]) :: σ.bx,tb:=tbOf k 0 (some (g,e))++clr (σ.purge g).tb k 0 1 }

attribute [simp] pushed

theorem ANY_one {P:Program} {gl:Gl} {ops:Array Oper} {Q:Exit→AS→Prop} {fuel:Nat} {listed:Array Bool} {σ:AS} (i:Nat) {o:Oper} (hr:Region.ready .any ops listed=[i]) (ho:ops[i]? = some o) (h:∀ K:AS→Prop,(∀ s,ANY P gl ops Q fuel (listed.setIfInBounds i true) s→K s)→RV P gl ops [o] σ K):
  ANY P gl ops Q (fuel+1) listed σ:=ANY_ready [i] hr (by simp) (AnyAll.cons ho h AnyAll.nil)
theorem AT_any_q {P:Program} {gl:Gl} {σ:AS} {Q:Exit→AS→Prop} {id:Nat} {l:List Oper} (ts bs:List Nat) (J:AS→Prop) (hm:P.follows .mixedOrders=true)
  (h:∀ K:Exit→AS→Prop,(∀ s,lpOk (pick bs s.bx) (pick ts s.tm)=true→J (s.keep ts bs)→K .normal s)→(∀ c s,¬ K (.panic c) s)→ANY P gl l.toArray K l.length (Array.replicate l.length false) σ) (hy:∀ s,J s→Q .normal s):AT P gl (.region id l.toArray true) σ Q:=by
 intro cx ro n a w hP hg hro r
 have h1:=AT_any (id:=id) (ops:=l.toArray) hm (by
  have:=h (fun e s=>match e with | .normal=>lpOk (pick bs s.bx) (pick ts s.tm)=true∧J (s.keep ts bs)|_=>False) (fun s hok hj=>⟨hok,hj⟩) (fun c s h=>h)
  simpa using this) cx ro n a w hP hg hro r
 refine wpIn_mono h1 fun e a' w' hh=>?_
 obtain ⟨s,hs,r'⟩:=hh
 cases e<;>first|exact hs.elim|skip
 obtain ⟨hok,hj⟩:=hs
 obtain ⟨gh,rr⟩:=r'
 exact ⟨_,hy _ hj,gh,rr.weak (AS.keep_le hok)⟩
end Go.Pv
end

section
/- A box that nobody will write any more is frozen: who holds its place may be handed out. -/
namespace Go.Pv
open Go

def TV.frz (k:Nat) (cells:List AV):TV→TV
 | .lp k' o=>if k'=k then .v (.ro (cells.drop o)) none else .lp k' o
 | x=>x
def AS.frz (σ:AS) (k:Nat) (cells:List AV):AS:={ σ with tm:=σ.tm.map fun p=>(p.1,p.2.frz k cells),bx:=σ.bx.filter fun p=>!(p.1==k) }

theorem look_map_frz {k t:Nat} {cells:List AV}:∀ (tm:List (Nat×TV)),look t (tm.map fun p=>(p.1,p.2.frz k cells))=(look t tm).map (·.frz k cells)
 | []=>rfl
 | (j,x) :: r=>by
  simp only[List.map_cons,look]
  split
  ·rfl
  ·exact look_map_frz r

theorem RR.frz {cx:Cx} {gh:Gh} {σ:AS} {a:Act} {w:World} (r:RR cx gh σ a w) (hgy:cx.gl.y=none) {k:Nat} {cells:List AV} (hk:look k σ.bx=some cells) (htb:(σ.tb.all fun q=>!(q.1==k))=true) (hcl:noClP k σ.tm):
  ∃ gh',RR cx gh' (σ.frz k cells) a w:=by
 obtain ⟨hB,hlk,cs,e,hcs,hrep⟩:=r.boxes k cells hk
 have hks:(look k σ.bx).isSome=true:=by simp[hk]
 let lim':Lim:=fun b=>if b=gh.bl k then none else gh.lim b
 have hl:∀ {b},b≠gh.bl k→lim' b=gh.lim b:=fun h=>if_neg h
 have hkeep:Keep gh.lim w.heap lim' w.heap:=by
  rintro b o hb ho
  refine ⟨hb,?_,rfl⟩
  intro n hn
  by_cases he:b=gh.bl k
  ·simp only[lim',if_pos he] at hn;cases hn
  ·rw[hl he] at hn;exact ho n hn
 have hbx:∀ k',look k' (σ.frz k cells).bx=if k'=k then none else look k' σ.bx:=fun k'=>by
  by_cases he:k'=k
  ·subst he;rw[if_pos rfl];exact look_filter_eq _
  ·rw[if_neg he];exact look_filter_ne he _
 have hne:∀ {k'},(look k' (σ.frz k cells).bx).isSome=true→k'≠k∧(look k' σ.bx).isSome=true:=by
  intro k' h
  rw[hbx] at h
  split at h
  ·cases h
  ·rename_i he;exact ⟨he,h⟩
 have hblk:∀ {k'},k'≠k→(look k' σ.bx).isSome=true→gh.bl k'≠gh.bl k:=fun he h hh=>he (r.inj _ _ h hks hh)
 have hu:∀ {g e},AS.uses (σ.frz k cells) g e→σ.uses g e:=by
  rintro g e (⟨t,x,h⟩|h)
  ·rw[show (σ.frz k cells).tm=σ.tm.map fun p=>(p.1,p.2.frz k cells) from rfl,look_map_frz] at h
   obtain ⟨y,hy,he⟩:=Option.map_eq_some_iff.1 h
   cases y with
   | lp k' o=>simp only[TV.frz] at he;split at he<;>simp at he
   | v z g'=>simp only[TV.frz] at he;rw[he] at hy;exact .inl ⟨t,x,hy⟩
   | un=>cases he
   | bld l ns=>cases he
   | it k9=>cases he
   | cl f ks=>cases he
  ·exact .inr h
 refine ⟨{ gh with lim:=lim' },{ frm:=r.frm,base:=r.base,limB:=fun b hb=>?_,size:=r.size,ex:=(r.ex.step hkeep (Oth.refl w) (.inl hgy)).sub (fun t q hq=>?_) rfl rfl,gl:=fun g c h=>(r.gl g c h).mono hkeep,tmps:=fun t x hx=>?_,boxes:=fun k' c hc=>?_,inj:=fun k1 k2 h1 h2=>r.inj k1 k2 (hne h1).2 (hne h2).2,shs:=fun b c hb=>?_,apart:=fun b k' h1 h2=>r.apart b k' h1 (hne h2).2,tbs:=fun k' j g e hq=>?_,own:=fun g e h=>?_,alone:=fun g e g' e' h h'=>r.alone g e g' e' (hu h) (hu h') }⟩
 ·exact (hl (by omega)).trans (r.limB b hb)
 ·rw[show (σ.frz k cells).tm=σ.tm.map fun p=>(p.1,p.2.frz k cells) from rfl,look_map_frz] at hq
  obtain ⟨y,hy,he⟩:=Option.map_eq_some_iff.1 hq
  cases y with
  | lp k' o=>simp only[TV.frz] at he;split at he<;>cases he
  | it k9=>simp only[TV.frz] at he;rw[he] at hy;exact hy
  | v z g'=>cases he
  | un=>cases he
  | bld l ns=>cases he
  | cl f ks=>cases he
 ·rw[show (σ.frz k cells).tm=σ.tm.map fun p=>(p.1,p.2.frz k cells) from rfl,look_map_frz] at hx
  obtain ⟨y,hy,rfl⟩:=Option.map_eq_some_iff.1 hx
  have h1:=r.tmps t y hy
  cases y with
  | lp k' o=>
   simp only[TV.frz]
   by_cases he:k'=k
   ·subst he
    rw[if_pos rfl]
    have h2:a.tmps.getD t undef=.pointer (some ⟨gh.bl k',o,none⟩):=h1.1
    refine ⟨⟨?_,by simp⟩,fun k2 off h=>by cases h⟩
    rw[h2]
    have hrep':=hrep.mono hkeep
    refine .ro _ _ _ (fun j=>cs.toList.getD (o+j) undef) (fun j hj=>⟨fun n hn=>?_,?_⟩) (fun j x hj=>?_)
    ·simp[lim'] at hn
    ·have hlt:o+j < cs.size:=by
      have h5:=hrep.1
      rw[Array.length_toList] at h5
      rw[List.length_drop] at hj
      omega
     unfold cellAt
     rw[hcs]
     simp[hlt]
    ·rw[List.getElem?_drop] at hj
     exact hrep'.2 (o+j) x hj
   ·rw[if_neg he]
    refine ⟨h1.1,fun k2 off h=>?_⟩
    injection h with e1 e2;subst e1
    rw[hbx,if_neg he];exact h1.2 k' o rfl
  | v z g'=>exact ⟨⟨h1.1.1.mono hkeep,h1.1.2⟩,fun k2 off h=>by cases h⟩
  | un=>exact ⟨h1.1,fun k2 off h=>by cases h⟩
  | bld l ns=>exact ⟨⟨h1.1.1.mono hkeep,h1.1.2⟩,fun k2 off h=>by cases h⟩
  | it k9=>exact ⟨h1.1,fun k2 off h=>by cases h⟩
  | cl f ks=>exact ⟨h1.1,fun k2 off h=>by cases h⟩
 ·have hn:=hne (k':=k') (by rw[hc];rfl)
  rw[hbx,if_neg hn.1] at hc
  obtain ⟨h1,h2,cs',e',h3,h4⟩:=r.boxes k' c hc
  exact ⟨h1,(hl (hblk hn.1 hn.2)).trans h2,cs',e',h3,h4.mono hkeep⟩
 ·obtain ⟨h1,h2,cs',e',h3,h4⟩:=r.shs b c hb
  have hbn:b≠gh.bl k:=fun he=>r.apart b k (by rw[show look b σ.sh=some c from hb];rfl) hks he.symm
  exact ⟨h1,(hl hbn).trans h2,cs',e',h3,h4.mono hkeep⟩
 ·have hq':(k',j,g,e)∈σ.tb:=hq
  have h1:=r.tbs k' j g e hq'
  have hkk:k'≠k:=by
   have:=List.all_eq_true.1 htb _ hq'
   simpa using this
  exact ⟨by rw[hbx,if_neg hkk];exact h1.1,h1.2⟩
 ·obtain ⟨⟨m,xs,h1,h2⟩,h3⟩:=r.own g e (hu h)
  refine ⟨⟨m,xs,h1,fun b hb=>(hl (fun he=>(h3 b hb).1 k hks he.symm)).trans (h2 b hb)⟩,fun b hb=>⟨fun k' hk'=>(h3 b hb).1 k' (hne hk').2,(h3 b hb).2⟩⟩

theorem AT_freeze {P:Program} {gl:Gl} {σ:AS} {Q:Exit→AS→Prop} {c:Code} (k:Nat) {cells:List AV} (hk:look k σ.bx=some cells) (htb:(σ.tb.all fun q=>!(q.1==k))=true) (hcl:noClP k σ.tm) (hy:gl.y=none) (h:AT P gl c (σ.frz k cells) Q):AT P gl c σ Q:=by
 intro cx ro n a w hP hg hro r
 obtain ⟨gh,r⟩:=r
 obtain ⟨gh',r'⟩:=r.frz (by rw[hg];exact hy) hk htb hcl
 exact h cx ro n a w hP hg hro ⟨gh',r'⟩
attribute [simp] TV.frz AS.frz
end Go.Pv
end

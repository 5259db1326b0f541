import Derived.Test.YtfgafcjebfjepaaGreatDoorPvPb
import Derived.Test.YtfgafcjebfjepaaGreatDoorPvOe
import Derived.Test.YtfgafcjebfjepaaGreatDoorPvEb
set_option linter.all false
section
/- Functions that read with an object that a frozen box leads to. -/
namespace Go.Pv
open Go

def ValidD (P:Program) (gl:Gl) (f:FuncId) (args:List AV) (b:Nat) (c:List AV) (r:AV) (c':List AV):Prop:=
 ValidH P gl f args [(b,c)] fun r' sh'=>r'=r∧sh'=[(b,c')]

theorem validD_of {P:Program} {gl:Gl} {f:FuncId} {fn:Func} {cd:Code} {args:List AV} {b:Nat} {c c':List AV} {r:AV} (hint:List (Nat×Nat)) (hf:P.funcs[f]? = some fn) (hb:fn.body=some cd) (hok:fnOk P f=true)
  (h:AT P gl cd (entry fn args [(b,c)] hint) (done P fn fun r' s=>r'=r∧look b s.sh=some c')) (hy:gl.y=none:=by rfl):ValidD P gl f args b c r c':=by
 refine validH_of hint hf hb hok (AT_mono h fun e s hs=>?_) hy
 have key:(∃ r',resOk P fn s r'∧r'=r∧look b s.sh=some c')→∃ r',resOk P fn s r'∧∃ sh',(∀ b' cl,look b' sh'=some cl→look b' s.sh=some cl)∧(∀ b',(look b' [(b,c)]).isSome=true→(look b' sh').isSome=true)∧r'=r∧sh'=[(b,c')]:=
  fun ⟨r',h1,h2,h3⟩=>⟨r',h1,[(b,c')],fun b' cl h=>(by
   simp only[look] at h
   split at h
   ·rename_i he;subst he;injection h with h;subst h;exact h3
   ·cases h),fun b' h=>(by
   simp only[look] at h ⊢
   split
   ·rfl
   ·rename_i hne;simp[hne] at h),h2,rfl⟩
 cases e with
 | normal=>exact key hs
 | ret=>exact key hs
 | exit id=>exact hs
 | goto l=>exact hs
 | panic ch=>exact hs
 | outgrown=>exact hs

section
variable {P:Program} {gl:Gl} {ops:Array Oper} {o:Oper} {rest:List Oper} {σ:AS} {K:AS→Prop}
theorem RVn_callD {f:FuncId} {args:List AV} {b:Nat} {c c':List AV} {r:AV} (h:ValidD P gl f args b c r c') (hsh:σ.sh=[(b,c)]) (k:RV P gl ops rest ({ σ with sh:=[(b,c')] }.put o.dst (.v r none)) K) (hy:gl.y=none:=by rfl):
  RVn P gl ops true (some true) (.call f args) o rest σ K:=by
 unfold RVn
 simp only[orV,true_and]
 exact .inl ⟨hy,[(b,c)],_,id,⟨fun sh' b' c' h=>by rw[look_append];rw[show look b' sh'=some c' from h];rfl,fun b' c' h=>by rw[hsh];exact h⟩,h,fun r' sh' hp=>by obtain ⟨rfl,rfl⟩:=hp;exact k⟩
end
end Go.Pv
end

section
/- Maps with known entries: a function that hands one back, and the range over one. -/
namespace Go.Pv
open Go

def SpecOp (P:Program) (gl:Gl) (ops:Array Oper) (o:Oper) (σ:AS) (S:AS→Prop):Prop:=
 ∀ (cx:Cx) (ro:Option Nat) (n:Nat) (Q:Exit→Act→World→Prop) (i:Nat) (a:Act) (w:World),cx.P=P→cx.gl=gl→ops[i]? = some o→R cx σ a w→wpOpIn (Fw ro) n cx.P ops Q i (fun a' w'=>∃ σ',S σ'∧R cx σ' a' w') a w
def RVx (P:Program) (gl:Gl) (ops:Array Oper):List Oper→AS→(AS→Prop)→Prop
 | [],σ,K=>K σ
 | o :: rest,σ,K=>nextV P gl ops o σ (fun σ'=>RVx P gl ops rest σ' K)∨(∃ S,SpecOp P gl ops o σ S∧∀ σ',S σ'→RVx P gl ops rest σ' K)∨RV P gl ops (o :: rest) σ K
theorem RVx_sound {cx:Cx} {ro:Option Nat} {n:Nat} {ops:Array Oper} {Q:Exit→Act→World→Prop} {K:AS→Prop} (hQ:∀ σ a w,K σ→R cx σ a w→Q .normal a w):
  ∀ (l:List Oper) (k:Nat) (σ:AS) (a:Act) (w:World),(∀ j,l[j]? = ops[k+j]?)→R cx σ a w→RVx cx.P cx.gl ops l σ K→wpOpsIn (Fw ro) n cx.P ops Q (List.range' k l.length) a w
 | [],k,σ,a,w,_,r,h=>hQ σ a w h r
 | o :: l,k,σ,a,w,hl,r,h=>by
  have h0:ops[k]? = some o:=by simpa using (hl 0).symm
  have hl':∀ j,l[j]? = ops[k+1+j]?:=fun j=>by have:=hl (j+1);simpa[Nat.add_assoc,Nat.add_comm 1 j] using this
  rcases h with h|⟨S,h1,h2⟩|h
  ·rw[List.length_cons,List.range'_succ,wpOpsIn_cons]
   refine wpOpIn_mono (fun a' w' hh=>?_) (opIn_sound (ro:=ro) (n:=n) (Q:=Q) h0 r h)
   obtain ⟨σ',hk,r'⟩:=hh
   exact RVx_sound hQ l (k+1) σ' a' w' hl' r' hk
  ·rw[List.length_cons,List.range'_succ,wpOpsIn_cons]
   refine wpOpIn_mono (fun a' w' hh=>?_) (h1 cx ro n Q k a w rfl rfl h0 r)
   obtain ⟨σ',hk,r'⟩:=hh
   exact RVx_sound hQ l (k+1) σ' a' w' hl' r' (h2 σ' hk)
  ·exact RV_sound hQ (o :: l) k σ a w hl r h
section
variable {P:Program} {gl:Gl} {σ:AS} {Q:Exit→AS→Prop}
theorem AT_regionX {id:Nat} {l:List Oper} (h:RVx P gl l.toArray l σ (Q .normal)):AT P gl (.region id l.toArray false) σ Q:=by
 intro cx ro n a w hP hg hro r
 subst hP;subst hg
 refine wpIn_region ?_
 have:=RVx_sound (ro:=ro) (n:=n) (K:=Q .normal) (Q:=fun e a' w'=>∃ σ',Q e σ'∧R cx σ' a' w') (fun s a w hk r=>⟨s,hk,r⟩) l.toArray.toList 0 σ a w (by simp) r h
 rw[List.range_eq_range']
 simpa using this
theorem AT_seq_regionX {id:Nat} {l:List Oper} {y:Code} (h:RVx P gl l.toArray l σ fun s=>AT P gl y s Q):AT P gl (.seq (.region id l.toArray false) y) σ Q:=
 AT_seq (AT_regionX h)
end

variable {cx:Cx} {gh:Gh} {σ:AS} {a:Act} {w:World} {o:Oper}
theorem RR.newit (r:RR cx gh σ a w) {d:Nat} (hd:d < σ.n∧d∉σ.fx) {v:Value} {q:ItK} (hq:itAt cx.B w.heap v q) (hne:∀ t q',look t σ.tm=some (.it q')→a.tmps.getD t undef≠v):RR cx gh { σ with tm:=(d,.it q) :: σ.tm } (a.put (some d) v) w:=by
 have r2:=r.put (some d) (fun t ht=>by injection ht with ht;subst ht;exact hd) (v:=v) (x:=.un) rfl trivial (by simp) (by simp)
 have hsz:(a.put (some d) v).tmps.getD d undef=v:=by
  have:=r.size
  simp[Act.put,hd.1,this]
 refine r2.rebind2 (.it q) (by simp) trivial (by simp) ⟨fun t q' h=>?_,fun t t' q1 q2 h1 h2 h3=>?_⟩
 ·simp only[look] at h
  split at h
  ·rename_i he
   subst he
   simp only[Option.some.injEq,TV.it.injEq] at h
   subst h
   rw[hsz];exact hq
  ·rename_i he
   rw[getD_put_ne a he]
   exact r.ex.its.at_ t q' h
 ·simp only[look] at h1 h2
  by_cases e1:d=t<;>by_cases e2:d=t'
  ·exact e1.symm.trans e2
  ·rw[if_neg e2] at h2
   rw[←e1,hsz,getD_put_ne a e2] at h3
   exact absurd h3.symm (hne _ _ h2)
  ·rw[if_neg e1] at h1
   rw[←e2,hsz,getD_put_ne a e1] at h3
   exact absurd h3 (hne _ _ h1)
  ·rw[if_neg e1] at h1
   rw[if_neg e2] at h2
   rw[getD_put_ne a e1,getD_put_ne a e2] at h3
   exact r.ex.its.inj t t' _ _ h1 h2 h3
theorem RR.grows (r:RR cx gh σ a w) (hy:cx.gl.y=none) {w':World} (hf:Frm w.heap.size (fun _=>False) w w'):RR cx gh σ a w':=by
 have hsame:∀ k,k < w.heap.size→w'.heap[k]? = w.heap[k]?:=fun k hk=>hf.block k hk id
 have lt:∀ {b:Nat} {o:Obj},w.heap[b]? = some o→b < w.heap.size:=fun h=>(Array.getElem?_eq_some_iff.1 h).1
 have hkeep:Keep gh.lim w.heap gh.lim w'.heap:=Keep.of_cells (fun k cs e g h=>hsame k (lt h)) _
 exact r.world gh.lim hkeep (hf.mono r.base (fun _ _ h=>h.elim)) (fun _ _=>rfl) (r.ex.step hkeep (Oth.of_frm hf) (.inl hy))
  (fun k hk=>hsame _ (r.lt_box hk)) (fun b hb=>hsame _ (r.lt_sh hb)) (fun g e hg b hb=>hsame _ (r.lt_own hg hb).1)

def ValidM (P:Program) (gl:Gl) (f:FuncId) (args:List AV) (es:List (List UInt8×Nat)):Prop:=
 fnOk P f=true∧∀ (lim:Lim) (w:World) (cargs:List Value),GlOk gl lim w.heap→RepL lim w.heap cargs args →
  Calls P f cargs.toArray w fun e w'=>∃ r,e=.returned (.map (some r))∧w.heap.size≤r∧w'.heap[r]? = some (.map (entries es) es.length)∧Frm w.heap.size (fun _=>False) w w'
theorem itAt.ne_map {B:Nat} {h:Array Obj} {v:Value} {k:ItK} (hk:itAt B h v k) {r:Nat} (hr:h.size≤r):v≠.map (some r):=by
 rintro rfl
 cases k with
 | str s p=>obtain ⟨r',h1,h2,h3⟩:=hk;cases h1
 | map es=>obtain ⟨r',h1,h2,h3⟩:=hk;injection h1 with h1;injection h1 with h1;have:=(Array.getElem?_eq_some_iff.1 h3).1;omega
 | walk es seen=>obtain ⟨r',h1,h2,m,h3,h4⟩:=hk;cases h1
theorem spec_callM {P:Program} {gl:Gl} {ops:Array Oper} {f:FuncId} {args:List AV} {d:Nat} {es:List (List UInt8×Nat)} (hd:dstOk P o σ=true) (hdd:o.dst=some d) (hg:guardB ops o σ=some true) (ho:opR P gl σ o=.call f args) (hv:ValidM P gl f args es) (hy:gl.y=none):
  SpecOp P gl ops o σ fun σ'=>σ'={ σ with tm:=(d,.it (.map es)) :: σ.tm }:=by
 intro cx ro n Q i a w hP hgl hi r
 subst hP;subst hgl
 obtain ⟨gh,r⟩:=r
 have hd':=dst_of hd
 have hdefer:∀ c,o.op≠.defer c:=fun c hc=>by simp[dstOk,hc] at hd
 have hw:=wanted_of r hg
 unfold wpOpIn
 simp only[hi]
 rw[hw]
 simp only[if_true]
 refine ⟨fun _ _=>trivial,?_⟩
 rw[Oper.semAt_eq _ _ _ hdefer]
 obtain ⟨c,fo,caps,l,g',hc,hfo,hl,hfv⟩:=opR_call.1 f args ho
 have hargs:=avsN_rep r c.args.toList l hl
 have hfr:=r.ev fo
 obtain ⟨fs,cs,hfo',hrep,hsame⟩:∃ fs cs:Array Value,a.eval fo=.func (.func f) fs cs∧RepL gh.lim w.heap (fs.toList++c.args.toList.map a.eval++cs.toList) args∧(fs.toList++c.args.toList.map a.eval++cs.toList).toArray=fs++c.args.map a.eval++cs:=by
  rcases hfv with ⟨hfv,rfl⟩|⟨hfv,rfl⟩
  ·rw[hfv] at hfr
   obtain ⟨cs,hfo',hcaps⟩:=Rep.func_iff.1 hfr.1
   exact ⟨#[],cs,hfo',by simpa using hargs.append hcaps,by apply Array.ext';simp⟩
  ·rw[hfv] at hfr
   obtain ⟨fs,hfo',hcaps⟩:=Rep.bfn_iff.1 hfr.1
   exact ⟨fs,#[],hfo',by simpa using hcaps.append hargs,by apply Array.ext';simp⟩
 obtain ⟨hfn,hval⟩:=hv
 have hrun:(execOp a.eval o).run cx.P w=.ok (.enter f (fs++c.args.map a.eval++cs)) w:=by
  have hfn':∃ fn,cx.P.funcs[f]? = some fn∧fn.body.isSome=true∧(fn.name== "runtime.NumGoroutine")=false:=by
   unfold fnOk at hfn
   split at hfn
   ·rename_i fn hq
    simp only[Bool.and_eq_true,Bool.not_eq_true'] at hfn
    exact ⟨fn,hq,hfn.1,hfn.2⟩
   ·cases hfn
  obtain ⟨fn,hq,hb,hnm⟩:=hfn'
  have hb':fn.body.isNone=false:=by simpa using hb
  have hnm':¬ fn.name= "runtime.NumGoroutine" :=by simpa using hnm
  simp only[execOp,hc,resolve,hfo,hfo',Deferred.ofValue,invoke,callFunc,Sem.run_bind,Sem.run_pure,Result.andThen_ok,run_program,hq,hnm',hb',Bool.false_eq_true,if_false,beq_iff_eq]
 rw[hrun]
 refine ⟨fun h=>(by cases h),callsIn_fw ?_⟩
 have hcalls:=hval gh.lim w _ (fun g c hg=>r.gl g c hg) hrep
 rw[hsame] at hcalls
 refine hcalls.mono fun e w'=>?_
 rintro ⟨b,rfl,hb,hm,hf⟩
 refine ⟨_,rfl,gh,?_⟩
 rw[hdd]
 have r2:=r.grows hy hf
 refine r2.newit (hd' d hdd) ⟨b,rfl,Nat.le_trans r.base hb,hm⟩ fun t q' h=>?_
 exact (r.ex.its.at_ t q' h).ne_map hb

theorem spec_value {P:Program} {gl:Gl} {ops:Array Oper} {S:AS→Prop} (hd:dstOk P o σ=true) (hg:guardB ops o σ=some true)
  (h:∀ (cx:Cx) (gh:Gh) (a:Act) (w:World),cx.P=P→cx.gl=gl→RR cx gh σ a w→∃ v w',(execOp a.eval o).run cx.P w=.ok (.value v) w'∧∃ σ',S σ'∧R cx σ' (a.put o.dst v) w'):SpecOp P gl ops o σ S:=by
 intro cx ro n Q i a w hP hgl hi r
 obtain ⟨gh,r⟩:=r
 have hdefer:∀ c,o.op≠.defer c:=fun c hc=>by simp[dstOk,hc] at hd
 have hw:=wanted_of r hg
 unfold wpOpIn
 simp only[hi]
 rw[hw]
 simp only[if_true]
 refine ⟨fun _ _=>trivial,?_⟩
 rw[Oper.semAt_eq _ _ _ hdefer]
 obtain ⟨v,w',h1,h2⟩:=h cx gh a w hP hgl r
 rw[h1]
 exact h2
theorem spec_range {P:Program} {gl:Gl} {ops:Array Oper} {ty kt et m d:Nat} {es:List (List UInt8×Nat)} (hd:dstOk P o σ=true) (hdd:o.dst=some d) (hg:guardB ops o σ=some true) (ho:o.op=.range ty (.tmp m)) (hu:P.underlying ty=some (.map kt et)) (hm:look m σ.tm=some (.it (.map es))) (hy:gl.y=none):
  SpecOp P gl ops o σ fun σ'=>σ'={ σ with tm:=(d,.it (.walk es [])) :: σ.tm }:=by
 refine spec_value hd hg fun cx gh a w hP hgl r=>?_
 subst hP;subst hgl
 obtain ⟨b,h1,h2,h3⟩:=r.ex.its.at_ m _ hm
 have hev:a.eval (.tmp m)=.map (some b):=h1
 have hrun:(execOp a.eval o).run cx.P w=.ok (.value (.pointer (some ⟨w.heap.size,0,none⟩))) (w.alloc (.mapIter (some b) es.length #[] es.length)):=by
  simp only[execOp,ho,hev,Sem.run_bind,run_range_map w ty kt et b (entries es) es.length hu h3,Result.andThen_ok,Sem.run_pure]
 have hlt:=(Array.getElem?_eq_some_iff.1 h3).1
 have r2:=(r.newrow (.mapIter (some b) es.length #[] es.length)).newit (dst_of hd d hdd) (v:=.pointer (some ⟨w.heap.size,0,none⟩)) (q:=.walk es []) ⟨w.heap.size,rfl,r.base,b,heap_alloc_new w _,(heap_alloc_old w _ hlt).trans h3⟩ fun t q' h=>(r.ex.its.at_ t q' h).ne_new
 exact ⟨_,_,hrun,_,rfl,_,by rw[hdd];exact r2⟩

theorem entries_born (es:List (List UInt8×Nat)):∀ x∈(entries es).toList,x.born < es.length:=by
 intro x hx
 simp only[entries,List.mem_mapIdx] at hx
 obtain ⟨i,h,rfl⟩:=hx
 exact h
theorem run_nextW {P:Program} (w:World) (ty:TypeId) {b m:Nat} {es:List (List UInt8×Nat)} {seen:List Nat} (hb:w.heap[b]? = some (.mapIter (some m) es.length seen.toArray es.length)) (hm:w.heap[m]? = some (.map (entries es) es.length)):
  ((∀ i,i < es.length→i∈seen)∧(Instr.next (.pointer (some ⟨b,0,none⟩)) false ty).run P w=.ok (.tuple #[.bool false]) w) ∨
  ∃ i x w1,es[i]? = some x∧i∉seen∧(w1=w∨w1=w.drew)∧(Instr.next (.pointer (some ⟨b,0,none⟩)) false ty).run P w=.ok (.tuple #[.bool true,.string ⟨x.1.toArray⟩,.func (.func x.2) #[] #[]]) (w1.putObj b (.mapIter (some m) es.length (seen++[i]).toArray es.length)):=by
 have hold:=entries_born es
 simp only[Instr.next,getObj,Sem.run_bind,Sem.run,hb,hm,Result.andThen,next_test_false seen.toArray (entries es) es.length es.length hold (Nat.le_refl _),Bool.false_eq_true,if_false]
 have hmem:∀ x∈(Array.filter (fun e=>!seen.toArray.contains e.born) (entries es)).toList,x.born < es.length:=fun x hx=>hold x (by simp at hx ⊢;exact hx.1)
 have hin:∀ x∈(Array.filter (fun e=>!seen.toArray.contains e.born) (entries es)).toList,∃ i y,es[i]? = some y∧i∉seen∧x=entryAt i y:=by
  intro x hx
  simp only[Array.toList_filter,List.mem_filter,entries,List.mem_mapIdx] at hx
  obtain ⟨⟨i,h,rfl⟩,h2⟩:=hx
  exact ⟨i,es[i],by simp[h],by simpa[entryAt] using h2,rfl⟩
 have hall:(Array.filter (fun e=>!seen.toArray.contains e.born) (entries es)).size=0→∀ i,i < es.length→i∈seen:=by
  intro h0 i hi
  have:Array.filter (fun e=>!seen.toArray.contains e.born) (entries es)=#[]:=Array.eq_empty_of_size_eq_zero h0
  rw[Array.filter_eq_empty_iff] at this
  have h1:=this (entryAt i es[i]) (by simp only[entries,List.mem_toArray,List.mem_mapIdx];exact ⟨i,hi,rfl⟩)
  simpa[entryAt] using h1
 generalize Array.filter (fun e=>!seen.toArray.contains e.born) (entries es)=L at hmem hin hall ⊢
 have e1:L.filter (fun x=>decide (x.born < es.length))=L:=Array.filter_eq_self.2 (fun x hx=>by simpa using hmem x (by simpa using hx))
 have e2:L.filter (fun x=>decide (x.born≥es.length))=#[]:=by
  rw[Array.filter_eq_empty_iff]
  intro x hx
  have:=hmem x (by simpa using hx)
  simp
  omega
 simp only[e1,e2,Array.append_empty]
 by_cases h0:L.size=0
 ·left
  have:L=#[]:=Array.eq_empty_of_size_eq_zero h0
  refine ⟨hall h0,?_⟩
  subst this
  simp[choose,Sem.run,Question.forced]
 ·right
  have hne:L.isEmpty=false:=by simp[Array.isEmpty,h0]
  simp only[hne,Bool.false_eq_true,if_false,Array.empty_append,Array.size_map]
  have hch:∃ (j:Nat) (w1:World),j < L.size∧(w1=w∨w1=w.drew)∧(choose (Question.mapNext L.size)).run P w=.ok j w1:=by
   by_cases hf:L.size≤1
   ·exact ⟨0,w,by omega,.inl rfl,by simp[choose,Sem.run,Question.forced,hf]⟩
   ·exact ⟨_,w.drew,Nat.mod_lt _ (by omega),.inr rfl,by
     simp only[choose,Sem.run,Question.forced,decide_eq_true_eq,hf,if_false,Question.cut]
     rfl⟩
  obtain ⟨j,w1,hj,hal,hrun⟩:=hch
  obtain ⟨i,y,h1,h2,h3⟩:=hin L[j] (by simp)
  have hb1:w1.heap[b]? = some (.mapIter (some m) es.length seen.toArray es.length):=by rcases hal with rfl|rfl<;>exact hb
  refine ⟨i,y,w1,h1,h2,hal,?_⟩
  simp only[hrun,Array.getElem?_map,Array.getElem?_eq_getElem hj,Option.map_some,Sem.run_bind,setObj,Sem.run,hb1,Result.andThen,h3]
  simp[entryAt,World.putObj]
theorem RR.drewn (r:RR cx gh σ a w) (hy:cx.gl.y=none) {w1:World} (h:w1=w∨w1=w.drew):RR cx gh σ a w1:=by
 rcases h with rfl|rfl
 ·exact r
 ·exact r.grows hy ⟨rfl,rfl,rfl,Nat.le_refl _,fun _ _ _=>rfl⟩
theorem spec_next {P:Program} {gl:Gl} {ops:Array Oper} {t:Nat} {es:List (List UInt8×Nat)} {seen:List Nat} (hd:dstOk P o σ=true) (hg:guardB ops o σ=some true) (ho:o.op=.next (.tmp t) false) (hm:look t σ.tm=some (.it (.walk es seen))) (hy:gl.y=none):
  SpecOp P gl ops o σ fun σ'=>((∀ i,i < es.length→i∈seen)∧σ'=σ.put o.dst (.v (.tup [.bool false]) none))∨∃ i x,es[i]? = some x∧i∉seen∧σ'=({ σ with tm:=(t,.it (.walk es (seen++[i]))) :: σ.tm }:AS).put o.dst (.v (.tup [.bool true,.str x.1,.func x.2 []]) none):=by
 refine spec_value hd hg fun cx gh a w hP hgl r=>?_
 subst hP;subst hgl
 obtain ⟨b,h1,h2,m,h3,h4⟩:=r.ex.its.at_ t _ hm
 have hev:a.eval (.tmp t)=.pointer (some ⟨b,0,none⟩):=h1
 have hd':=dst_of hd
 rcases run_nextW (P:=cx.P) w o.type h3 h4 with ⟨hs,hrun⟩|⟨i,x,w1,hx,hi,hal,hrun⟩
 ·refine ⟨_,_,?_,_,.inl ⟨hs,rfl⟩,gh,r.put_v o.dst hd' (Rep.tup_iff.2 ⟨_,rfl,.cons (.bool _) (RepL.nil _ _)⟩)⟩
  simp only[execOp,ho,hev,Sem.run_bind]
  first|rw[hrun];rfl|simp[hrun]
 ·have r1:=r.drewn hy hal
  have h3':w1.heap[b]? = some (.mapIter (some m) es.length seen.toArray es.length):=by rcases hal with rfl|rfl<;>exact h3
  have h4':w1.heap[m]? = some (.map (entries es) es.length):=by rcases hal with rfl|rfl<;>exact h4
  have hlt:=(Array.getElem?_eq_some_iff.1 h3').1
  have hmb:m≠b:=fun he=>by rw[he,h3'] at h4';cases h4'
  have r2:=r1.putit hy hm h1 h2 h3' (o':=.mapIter (some m) es.length (seen++[i]).toArray es.length) rfl rfl (by simp) (by simp) (.walk es (seen++[i])) ⟨b,h1,h2,m,World.putObj_heap_same hlt,(World.putObj_heap_other hmb).trans h4'⟩
  refine ⟨_,_,?_,_,.inr ⟨i,x,hx,hi,rfl⟩,gh,r2.put_v o.dst hd' (Rep.tup_iff.2 ⟨_,rfl,.cons (.bool _) (.cons (.str _) (.cons (Rep.func_iff.2 ⟨#[],rfl,RepL.nil _ _⟩) (RepL.nil _ _)))⟩)⟩
  simp only[execOp,ho,hev,Sem.run_bind]
  first|rw[hrun];rfl|simp[hrun]
theorem find_entry:∀ (es:List (List UInt8×Nat)) (k i:Nat) (x:List UInt8×Nat),es[i]? = some x→(es.mapIdx fun j y=>entryAt (k+j) y).find? (fun e=>e.born==k+i)=some (entryAt (k+i) x)
 | [],_,_,_,h=>by simp at h
 | y :: es,k,0,x,h=>by
  simp only[List.getElem?_cons_zero,Option.some.injEq] at h
  subst h
  simp[List.mapIdx_cons,entryAt]
 | y :: es,k,i+1,x,h=>by
  have h1:=find_entry es (k+1) i x (by simpa using h)
  have e:(fun (j:Nat) (y:List UInt8×Nat)=>entryAt (k+(j+1)) y)=fun j y=>entryAt (k+1+j) y:=by funext j y;congr 1;omega
  rw[List.mapIdx_cons,List.find?_cons_of_neg (by simp[entryAt]),e]
  rw[show k+(i+1)=k+1+i by omega]
  exact h1
theorem run_entryW {P:Program} (w:World) {b m:Nat} {es:List (List UInt8×Nat)} {seen:List Nat} {i:Nat} {x:List UInt8×Nat} (hb:w.heap[b]? = some (.mapIter (some m) es.length (seen++[i]).toArray es.length)) (hm:w.heap[m]? = some (.map (entries es) es.length)) (hx:es[i]? = some x):
  (Instr.entry (.pointer (some ⟨b,0,none⟩))).run P w=.ok (.tuple #[.string ⟨x.1.toArray⟩,.func (.func x.2) #[] #[]]) w:=by
 have h1:=find_entry es 0 i x hx
 have hf:(entries es).find? (fun e=>e.born==i)=some (entryAt i x):=by
  rw[←Array.find?_toList]
  simpa[entries] using h1
 have hbk:(seen++[i]).toArray.back? = some i:=by simp[Array.back?]
 simp only[Instr.entry,getObj,Sem.run_bind,Sem.run,hb,hm,Result.andThen,hbk,bne_self_eq_false,Bool.false_eq_true,if_false,hf]
 simp[entryAt]
theorem spec_entry {P:Program} {gl:Gl} {ops:Array Oper} {t:Nat} {es:List (List UInt8×Nat)} {seen:List Nat} {i:Nat} {x:List UInt8×Nat} (hd:dstOk P o σ=true) (hg:guardB ops o σ=some true) (ho:o.op=.entry (.tmp t)) (hm:look t σ.tm=some (.it (.walk es (seen++[i])))) (hx:es[i]? = some x):
  SpecOp P gl ops o σ fun σ'=>σ'=σ.put o.dst (.v (.tup [.str x.1,.func x.2 []]) none):=by
 refine spec_value hd hg fun cx gh a w hP hgl r=>?_
 subst hP;subst hgl
 obtain ⟨b,h1,h2,m,h3,h4⟩:=r.ex.its.at_ t _ hm
 have hev:a.eval (.tmp t)=.pointer (some ⟨b,0,none⟩):=h1
 have hrun:=run_entryW (P:=cx.P) w h3 h4 hx
 refine ⟨_,_,?_,_,rfl,gh,r.put_v o.dst (dst_of hd) (Rep.tup_iff.2 ⟨_,rfl,.cons (.str _) (.cons (Rep.func_iff.2 ⟨#[],rfl,RepL.nil _ _⟩) (RepL.nil _ _))⟩)⟩
 simp only[execOp,ho,hev,Sem.run_bind]
 first|rw[hrun];rfl|simp[hrun]
theorem RVx_of_RV {P:Program} {gl:Gl} {ops:Array Oper} {K:AS→Prop}:∀ (l:List Oper) (σ:AS),RV P gl ops l σ K→RVx P gl ops l σ K
 | [],_,h=>h
 | _ :: _,_,h=>.inr (.inr h)
theorem RVx_rest {P:Program} {gl:Gl} {ops:Array Oper} {K:AS→Prop} {l:List Oper} {σ:AS} (h:∀ Z:AS→Prop,(∀ s,K s→Z s)→RV P gl ops l σ Z):RVx P gl ops l σ K:=RVx_of_RV l σ (h K fun _ h=>h)
theorem RVx_spec {P:Program} {gl:Gl} {ops:Array Oper} {K:AS→Prop} {o:Oper} {l:List Oper} {σ:AS} {S:AS→Prop} (h:SpecOp P gl ops o σ S) (k:∀ σ',S σ'→RVx P gl ops l σ' K):RVx P gl ops (o :: l) σ K:=.inr (.inl ⟨S,h,k⟩)
end Go.Pv
end

section
/- Texts of declarations and programs. -/
namespace Go.Pv
open Go

def txF (f:Fm):Str:=f.name++[32]++txt f.ty
def fmsT (l:List Fm):Str:=if l.isEmpty then [] else [91]++Lib.join (l.map txF) [44,32]++[93]
def varsT (l:List Str):Str:=if l.isEmpty then [] else [91]++Lib.join l [44,32]++[93]
def sigT (s:Sg):Str:=s.name++fmsT s.fms++[40]++Lib.join (s.pms.map txF) [44,32]++[41,32]++txt s.res
def lineT (l:Str):Str:=[9]++l++[10]
def blockT (f:Str) (ls:List Str):Str:=f++[32,123,10]++(ls.map lineT).flatten++[125]
def wFn:Str:=[102,117,110,99,32,40]
def wTy:Str:=[116,121,112,101,32]
def wRet:Str:=[114,101,116,117,114,110,32]
def wHead:Str:=[112,97,99,107,97,103,101,32,109,97,105,110,59,10]
def wFm:Str:=[102,117,110,99,32,109,97,105,110,40,41]
def frontT (d:Dc):Str:=
 if d.kind=1 then wTy++d.name++fmsT d.fms++[32,115,116,114,117,99,116]
 else if d.kind=2 then wTy++d.name++fmsT d.fms++[32,105,110,116,101,114,102,97,99,101]
 else wFn++d.recv++[32]++d.name++varsT d.vars++[41,32]++sigT d.sig
def lnF (f:Fm):Str:=txF f++[59]
def lnG (s:Sg):Str:=sigT s++[59]
def linesT (d:Dc):List Str:=if d.kind=1∨d.kind=2 then d.flds.map lnF++d.sigs.map lnG else [wRet++txtE d.body]
def declT (d:Dc):Str:=blockT (frontT d) (linesT d)++[59,10]
def mainT (e:Exp):Str:=blockT wFm [[95,32,61,32]++txtE e]++[10]
def progT (p:Pg):Str:=wHead++Lib.join (p.decls.map declT) []++blockT wFm [[95,32,61,32]++txtE p.main]++[10]

def bodyLen (ls:List Str):Nat:=(ls.map lineT).flatten.length
@[simp] theorem blockT_len (f:Str) (ls:List Str):(blockT f ls).length=f.length+4+bodyLen ls:=by
 simp only[blockT,bodyLen,List.length_append,List.length_cons,List.length_nil];omega
theorem bodyLen_one (l:Str):bodyLen [l]=l.length+2:=by simp[bodyLen,lineT]
@[simp] theorem rowsS_map {α:Type} (f:α→Str) (l:List α):Rows 1 (l.map (encS∘f)):=fun r hr=>by
 obtain ⟨x,-,rfl⟩:=List.mem_map.1 hr
 exact ⟨rfl,rfl⟩
@[simp] theorem rowsS_take {α:Type} (f:α→Str) (l:List α) (k:Nat):Rows 1 (List.take k (l.map (encS∘f))):=fun r hr=>by
 obtain ⟨x,-,rfl⟩:=List.mem_map.1 (List.mem_of_mem_take hr)
 exact ⟨rfl,rfl⟩

theorem join_empty (l:List Str):Lib.join l []=l.flatten:=by
 cases l with
 | nil=>rfl
 | cons x r=>rw[Lib.join_cons,Lib.joinTail,List.flatten_cons];simp

end Go.Pv
end

section
/- Texts as the reference builds them, item by item. -/
namespace Go.Pv
open Go

def jK (l:List Str) (k:Nat):Str:=Lib.join (l.take k) [44,32]
def bK (l:List Str) (k:Nat):Str:=if k=0 then [] else 91 :: jK l k
end Go.Pv
end

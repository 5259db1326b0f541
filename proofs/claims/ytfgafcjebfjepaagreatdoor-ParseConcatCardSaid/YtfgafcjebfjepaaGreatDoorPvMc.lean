import Derived.Test.YtfgafcjebfjepaaGreatDoorPvLa
import Derived.Test.YtfgafcjebfjepaaGreatDoorPvPb
import Derived.Test.YtfgafcjebfjepaaGreatDoorPvW
set_option linter.all false
section
/- Listed variables that hold a type's handle; lists of tokens as arguments. -/
namespace Go.Pv
open Go Go.ChangeShapes Go.WideShapes Go.RowKit

theorem laidMetH_split {P:Program} {l:List (String×DataW Unit)} {w:World} (h:laidMetH P l w):laidMet P (l.filter fun x=>x.2.handleName?.isNone) w∧handlesMet P (l.filter fun x=>x.2.handleName?.isSome) w:=by
 unfold laidMetH at h
 split at h
 ·rename_i hf
  rw[hf]
  refine ⟨?_,fun x hx=>by cases hx⟩
  have e:(l.filter fun x=>x.2.handleName?.isNone)=l:=by
   rw[List.filter_eq_self]
   intro x hx
   cases hn:x.2.handleName? with
   | none=>rfl
   | some s=>
    have:x∈l.filter fun x=>x.2.handleName?.isSome:=List.mem_filter.2 ⟨hx,by rw[hn];rfl⟩
    rw[hf] at this;cases this
  rw[e];exact h
 ·rename_i hf
  rw[hf];exact h
theorem glAt_handle {P:Program} {n:String} {w:World} {g rt ty sz gs:Nat} {nm:List UInt8} {d:DataW Unit} (hg:P.globalNamed n=some g) (hd:d.handleName? = some nm) (hdf:d.funcsIn? = none)
  (hrt:(P.cutTypes.find? (·.1== "internal/reflectlite.rtype")).map (·.2)=some rt) (hsz:P.types.size=sz) (hone:((List.range sz).filter fun t=>P.rowNamed t nm)=[ty]) (hh:typeHandle P ty=.pointer (some ⟨gs,ty,none⟩))
  {l:List (String×DataW Unit)} (hl:handlesMet P l w) (hm:(n,d)∈l):GlAt allL w.heap g [.iface rt (.agg [.gp gs ty])]:=by
 have h:=hl _ hm
 simp only[hdf] at h
 obtain ⟨name,u,ty',e1,e2,e3,e4,e5⟩:=h
 obtain rfl:=Option.some.inj (hd.symm.trans e1)
 obtain rfl:=Option.some.inj (hrt.symm.trans e2)
 have hmem:ty'∈(List.range sz).filter fun t=>P.rowNamed t nm:=List.mem_filter.2 ⟨List.mem_range.2 (by rw[←hsz];exact e3),e4⟩
 rw[hone] at hmem
 obtain rfl:=List.mem_singleton.1 hmem
 rw[hh] at e5
 have hcell:∀ i,cellAt w.heap g i=(#[Value.iface rt (.agg #[.pointer (some ⟨gs,ty',none⟩)])]:Array Value)[i]?:=fun i=>by
  have:=World.var?_cell hg e5 i
  rwa[cell?_eq] at this
 refine ⟨Rep.ro_iff.2 ⟨g,0,[.iface rt (.agg #[.pointer (some ⟨gs,ty',none⟩)])],rfl,.cons (.iface _ _ _ (Rep.agg_iff.2 ⟨_,rfl,.cons (.gp _ _) (.nil _ _)⟩)) (.nil _ _),fun j u hu=>⟨allL_ok _ _,?_⟩⟩,fun _=>⟨allL_ok _ _,?_⟩⟩
 ·rw[Nat.zero_add,hcell];simpa using hu
 ·rw[hcell];rfl

end Go.Pv
end

section
/- Expressions as plain data, as values, and what the functions on them compute. -/
namespace Go.Pv
open Go

inductive Exp where
 | mk (kind:Int) (name:Str) (ty:Ty) (ta:List Ty) (kids:List Exp) (pos:Int)

@[simp] def Exp.kind:Exp→Int | .mk k _ _ _ _ _=>k
@[simp] def Exp.name:Exp→Str | .mk _ n _ _ _ _=>n
@[simp] def Exp.ty:Exp→Ty | .mk _ _ t _ _ _=>t
@[simp] def Exp.ta:Exp→List Ty | .mk _ _ _ a _ _=>a
@[simp] def Exp.kids:Exp→List Exp | .mk _ _ _ _ l _=>l
@[simp] def Exp.pos:Exp→Int | .mk _ _ _ _ _ p=>p

mutual
def encE:Exp→List AV
 | .mk k n t a l p=>[.int .i64 k,.str n,.str t.name,.slice (t.args.map encTy),.int .i64 t.pos,.slice (a.map encTy),.slice (encEs l),.int .i64 p]
def encEs:List Exp→List (List AV)
 | []=>[]
 | e :: r=>encE e :: encEs r
end
theorem encEs_map (l:List Exp):encEs l=l.map encE:=by
 induction l with
 | nil=>rfl
 | cons t r ih=>simp[encEs,ih]
theorem encE_mk (k:Int) (n:Str) (t:Ty) (a:List Ty) (l:List Exp) (p:Int):encE (.mk k n t a l p)=[.int .i64 k,.str n,.str t.name,.slice (t.args.map encTy),.int .i64 t.pos,.slice (a.map encTy),.slice (l.map encE),.int .i64 p]:=by rw[encE,encEs_map]
theorem encE_def (e:Exp):encE e=[.int .i64 e.kind,.str e.name,.str e.ty.name,.slice (e.ty.args.map encTy),.int .i64 e.ty.pos,.slice (e.ta.map encTy),.slice (e.kids.map encE),.int .i64 e.pos]:=by
 cases e;rw[encE_mk];rfl
theorem encE_app (e:Exp):encE e=[.int .i64 e.kind,.str e.name]++encTy e.ty++[.slice (e.ta.map encTy),.slice (e.kids.map encE),.int .i64 e.pos]:=by
 rw[encE_def,encTy_def];rfl
@[simp] theorem encE_len (e:Exp):(encE e).length=8:=by rw[encE_def];rfl
@[simp] theorem encE_one (e:Exp):(encE e).all AV.one=true:=by rw[encE_def];rfl
@[simp] theorem encE_0 (e:Exp):(encE e)[0]? = some (.int .i64 e.kind):=by rw[encE_def];rfl
@[simp] theorem encE_1 (e:Exp):(encE e)[1]? = some (.str e.name):=by rw[encE_def];rfl
@[simp] theorem encE_2 (e:Exp):(encE e)[2]? = some (.str e.ty.name):=by rw[encE_def];rfl
@[simp] theorem encE_3 (e:Exp):(encE e)[3]? = some (.slice (e.ty.args.map encTy)):=by rw[encE_def];rfl
@[simp] theorem encE_4 (e:Exp):(encE e)[4]? = some (.int .i64 e.ty.pos):=by rw[encE_def];rfl
@[simp] theorem encE_5 (e:Exp):(encE e)[5]? = some (.slice (e.ta.map encTy)):=by rw[encE_def];rfl
@[simp] theorem encE_6 (e:Exp):(encE e)[6]? = some (.slice (e.kids.map encE)):=by rw[encE_def];rfl
@[simp] theorem encE_7 (e:Exp):(encE e)[7]? = some (.int .i64 e.pos):=by rw[encE_def];rfl
section
variable (e:Exp)
@[simp] theorem encE_g0 (h:0 < (encE e).length):(encE e)[0]=.int .i64 e.kind:=by have:=encE_0 e;rw[List.getElem?_eq_getElem h] at this;injection this
@[simp] theorem encE_g1 (h:1 < (encE e).length):(encE e)[1]=.str e.name:=by have:=encE_1 e;rw[List.getElem?_eq_getElem h] at this;injection this
@[simp] theorem encE_g2 (h:2 < (encE e).length):(encE e)[2]=.str e.ty.name:=by have:=encE_2 e;rw[List.getElem?_eq_getElem h] at this;injection this
@[simp] theorem encE_g3 (h:3 < (encE e).length):(encE e)[3]=.slice (e.ty.args.map encTy):=by have:=encE_3 e;rw[List.getElem?_eq_getElem h] at this;injection this
@[simp] theorem encE_g4 (h:4 < (encE e).length):(encE e)[4]=.int .i64 e.ty.pos:=by have:=encE_4 e;rw[List.getElem?_eq_getElem h] at this;injection this
@[simp] theorem encE_g5 (h:5 < (encE e).length):(encE e)[5]=.slice (e.ta.map encTy):=by have:=encE_5 e;rw[List.getElem?_eq_getElem h] at this;injection this
@[simp] theorem encE_g6 (h:6 < (encE e).length):(encE e)[6]=.slice (e.kids.map encE):=by have:=encE_6 e;rw[List.getElem?_eq_getElem h] at this;injection this
@[simp] theorem encE_g7 (h:7 < (encE e).length):(encE e)[7]=.int .i64 e.pos:=by have:=encE_7 e;rw[List.getElem?_eq_getElem h] at this;injection this
@[simp] theorem encE_take:(encE e).take 8=encE e:=by rw[encE_def];rfl
@[simp] theorem encE_drop:(encE e).drop 8=[]:=by rw[encE_def];rfl
@[simp] theorem encE_type:((encE e).drop 2).take 3=encTy e.ty:=by rw[encE_app,encTy_def];rfl
end
@[simp] theorem encEs_rows (l:List Exp):Rows 8 (l.map encE):=Rows_map 8 encE (fun t=>⟨encE_len t,encE_one t⟩) l
@[simp] theorem encEs_rows_take (l:List Exp) (k:Nat):Rows 8 (List.take k (l.map encE)):=Rows_take (encEs_rows l) k
@[simp] theorem encE_rows_comp {α:Type} (f:α→Exp) (l:List α):Rows 8 (l.map (encE∘f)):=Rows_map 8 _ (fun t=>⟨encE_len (f t),encE_one (f t)⟩) l
@[simp] theorem encE_rows_ctake {α:Type} (f:α→Exp) (l:List α) (k:Nat):Rows 8 (List.take k (l.map (encE∘f))):=Rows_take (encE_rows_comp f l) k

theorem Exp.ind {p:Exp→Prop} (h:∀ k n t a l q,(∀ e∈l,p e)→p (.mk k n t a l q)):∀ e,p e:=by
 intro e
 exact Exp.rec (motive_1:=p) (motive_2:=fun l=>∀ e∈l,p e) (fun k n t a l q ih=>h k n t a l q ih) (fun e he=>by cases he)
  (fun e r he hr x hx=>by
   rcases List.mem_cons.1 hx with rfl|hx
   ·exact he
   ·exact hr x hx) e

def ty0:Ty:=.mk [] [] 0
def ex0:Exp:=.mk 0 [] ty0 [] [] 0
mutual
def wtE:Exp→Nat | .mk _ n t a l _=>n.length+1+wt t+wts a+wtEs l
def wtEs:List Exp→Nat | []=>0|e :: r=>wtE e+wtEs r
end
theorem wtE_mk (k:Int) (n:Str) (t:Ty) (a:List Ty) (l:List Exp) (p:Int):wtE (.mk k n t a l p)=n.length+1+wt t+wts a+wtEs l:=by rw[wtE]
theorem wtEs_mem {l:List Exp} {e:Exp} (h:e∈l):wtE e≤wtEs l:=by
 induction l with
 | nil=>cases h
 | cons x l ih=>
  simp only[wtEs]
  rcases List.mem_cons.1 h with rfl|h
  ·omega
  ·have:=ih h;omega
theorem wtE_pos (e:Exp):0 < wtE e:=by cases e;rw[wtE_mk];omega
theorem wtEs_len (l:List Exp):l.length≤wtEs l:=by
 induction l with
 | nil=>simp[wtEs]
 | cons x l ih=>have:=wtE_pos x;simp only[wtEs,List.length_cons];omega
def sameTs:List Ty→List Ty→Bool
 | [],[]=>true
 | t :: r,u :: s=>cmpT t u==0&&sameTs r s
 | _,_=>false
mutual
def sameE:Exp→Exp→Bool | .mk k n t a l _,f=>k==f.kind&&n==f.name&&cmpT t f.ty==0&&sameTs a f.ta&&sameEs l f.kids
def sameEs:List Exp→List Exp→Bool
 | [],[]=>true
 | e :: r,f :: s=>sameE e f&&sameEs r s
 | _,_=>false
end
mutual
def eqE:Exp→Exp→Bool | .mk k n t a l p,f=>p==f.pos&&k==f.kind&&n==f.name&&eqT t f.ty&&eqTs a f.ta&&eqEs l f.kids
def eqEs:List Exp→List Exp→Bool
 | [],[]=>true
 | e :: r,f :: s=>eqE e f&&eqEs r s
 | _,_=>false
end
theorem sameTs_cons (t u:Ty) (r s:List Ty):sameTs (t :: r) (u :: s)=(cmpT t u==0&&sameTs r s):=rfl
theorem sameEs_cons (t u:Exp) (r s:List Exp):sameEs (t :: r) (u :: s)=(sameE t u&&sameEs r s):=by simp[sameEs]
theorem sameTs_len:∀ {a b:List Ty},a.length≠b.length→sameTs a b=false
 | [],[],h=>absurd rfl h
 | [],_ :: _,_=>rfl
 | _ :: _,[],_=>rfl
 | x :: a,y :: b,h=>by rw[sameTs_cons,sameTs_len (a:=a) (b:=b) (fun he=>h (by simp[he])),Bool.and_false]
theorem sameEs_len:∀ {a b:List Exp},a.length≠b.length→sameEs a b=false
 | [],[],h=>absurd rfl h
 | [],_ :: _,_=>by simp[sameEs]
 | _ :: _,[],_=>by simp[sameEs]
 | x :: a,y :: b,h=>by rw[sameEs_cons,sameEs_len (a:=a) (b:=b) (fun he=>h (by simp[he])),Bool.and_false]
theorem cmpT_refl (t:Ty):cmpT t t=0:=by have:=cmpT_anti t t;omega
theorem sameTs_refl:∀ a:List Ty,sameTs a a=true
 | []=>rfl
 | x :: a=>by rw[sameTs_cons,cmpT_refl,sameTs_refl a];rfl
theorem sameE_refl:∀ e:Exp,sameE e e=true:=by
 intro e
 induction e using Exp.ind with
 | h k n t a l q ih=>
  have hl:sameEs l l=true:=by
   clear t a
   induction l with
   | nil=>simp[sameEs]
   | cons x l ih2=>rw[sameEs_cons,ih x (by simp),ih2 (fun e he=>ih e (by simp[he]))];rfl
  simp[sameE,cmpT_refl,sameTs_refl,hl]
def typedE (k:Int):Bool:=k==3 || k==5
mutual
def rightE:Exp→Bool | .mk k n t a l _=>rightEs l&&(a.isEmpty || (k==2&&a.all rightT)) &&
 (if typedE k then rightT t&&n.isEmpty else t.name.isEmpty&&t.args.isEmpty&&isName n) &&
 (if k==1 then l.isEmpty else if k==2 then !l.isEmpty else if k==3 then true else if k==4 || k==5 then l.length==1 else false)
def rightEs:List Exp→Bool | []=>true|e :: r=>rightE e&&rightEs r
end
theorem rightEs_all (l:List Exp):rightEs l=l.all rightE:=by
 induction l with
 | nil=>simp[rightEs]
 | cons x l ih=>simp[rightEs,ih]
mutual
def depE:Exp→Nat | .mk k _ t a l _=>max (max (if typedE k then dep t else 0) (deps a)) (depEs l)+1
def depEs:List Exp→Nat | []=>0|e :: r=>max (depE e) (depEs r)
end
mutual
def valE:Exp→Bool | .mk k _ _ _ l _=>k==3&&valEs l
def valEs:List Exp→Bool | []=>true|e :: r=>valE e&&valEs r
end
mutual
def lstE:Exp→List Exp | .mk k n t a l p=>.mk k n t a l p :: lstEs l
def lstEs:List Exp→List Exp | []=>[]|e :: r=>lstE e++lstEs r
end
def shapeE:Exp→Bool | .mk k n t a l _=>(a.isEmpty || (k==2&&a.all rightT)) &&
 (if typedE k then rightT t&&n.isEmpty else t.name.isEmpty&&t.args.isEmpty&&isName n) &&
 (if k==1 then l.isEmpty else if k==2 then !l.isEmpty else if k==3 then true else if k==4 || k==5 then l.length==1 else false)
mutual
def txtE:Exp→Str
 | .mk k n t a l _=>
  if k=3 then txt t++[123]++Lib.join (txtEs l) [44,32]++[125]
  else match txtEs l with
   | []=>n
   | x :: r=>if k=2 then x++[46]++n++txt (.mk [] a 0)++[40]++Lib.join r [44,32]++[41]
    else if k=4 then x++[46]++n
    else if k=5 then x++[46,40]++txt t++[41]
    else n
def txtEs:List Exp→List Str
 | []=>[]
 | e :: r=>txtE e :: txtEs r
end
theorem txtEs_map (l:List Exp):txtEs l=l.map txtE:=by
 induction l with
 | nil=>rfl
 | cons t r ih=>simp[txtEs,ih]

mutual
def subE (ns:List Str) (as:List Ty):Exp→Exp | .mk k n t a l p=>.mk k n (sub ns as t) (subs ns as a) (subEs ns as l) p
def subEs (ns:List Str) (as:List Ty):List Exp→List Exp | []=>[]|e :: r=>subE ns as e :: subEs ns as r
end
mutual
def repE (vs:List Str) (xs:List Exp):Exp→Exp
 | .mk k n t a l p=>if k=1∧0≤idxF vs n 0∧idxF vs n 0 < xs.length then xs.getD (idxF vs n 0).toNat ex0 else .mk k n t a (repEs vs xs l) p
def repEs (vs:List Str) (xs:List Exp):List Exp→List Exp
 | []=>[]
 | e :: r=>repE vs xs e :: repEs vs xs r
end
mutual
def cntE:Exp→Nat→Nat | .mk _ n t a l _,j=>cntEs l (cnts a (cnt t (j+n.length / 50)))
def cntEs:List Exp→Nat→Nat | [],j=>j|e :: r,j=>if j≤2000 then cntEs r (cntE e j) else j
end
mutual
def fitE:Exp→Prop | .mk _ n t a l _=>n.length≤140737488355328∧fit t∧(a.length≤140737488355328∧fits a)∧l.length≤140737488355328∧fitEs l
def fitEs:List Exp→Prop | []=>True|e :: r=>fitE e∧fitEs r
end
def txtEK (s:Str) (l:List Exp) (k:Nat):Str:=s++Lib.join (txtEs (l.take k)) [44,32]
mutual
def mapE (F:Exp→Exp):Exp→Exp
 | .mk k n t a l p=>F (.mk k n t a (mapEs F l) p)
def mapEs (F:Exp→Exp):List Exp→List Exp
 | []=>[]
 | e :: r=>mapE F e :: mapEs F r
end
def subF (ns:List Str) (as:List Ty):Exp→Exp
 | .mk k n t a l p=>.mk k n (sub ns as t) (subs ns as a) l p
def repF (vs:List Str) (xs:List Exp):Exp→Exp
 | .mk k n t a l p=>if k=1∧0≤idxF vs n 0∧idxF vs n 0 < xs.length then xs.getD (idxF vs n 0).toNat ex0 else .mk k n t a l p
section
variable (e:Exp)
end
end Go.Pv
end

section
/- Expressions handed out one by one; which one comes first. -/
namespace Go.Pv
open Go

def idxQ {α:Type} (q:α→Bool):List α→Nat→Int
 | [],_=>-1
 | x :: r,k=>if q x then k else idxQ q r (k+1)
open Classical in
/-- The body goes on at the expressions of which p is true. -/
noncomputable def goE (p:Exp→Bool) (_:List AV) (x:AV):Bool:=if ∃ e,x=.agg (encE e)∧p e=true then true else false
abbrev avE (e:Exp):AV:=.agg (encE e)
section
variable (kd:Int) (n:Str) (t:Ty) (ta:List Ty) (l:List Exp) (p:Int)
end
def bareK:Exp→Exp | .mk k n t a l p=>.mk k n t a (List.replicate l.length ex0) p
def okT (k:Int) (a:List Ty):Bool:=a.isEmpty || (k==2&&a.all rightT)
def bodyE (k:Int) (n:Str) (t:Ty):Bool:=if typedE k then rightT t&&n.isEmpty else t.name.isEmpty&&t.args.isEmpty&&isName n
def kidsE (k:Int) (l:List Exp):Bool:=if k==1 then l.isEmpty else if k==2 then !l.isEmpty else if k==3 then true else if k==4 || k==5 then l.length==1 else false
theorem rightE_ok (k:Int) (n:Str) (t:Ty) (a:List Ty) (l:List Exp) (p:Int):rightE (.mk k n t a l p)=(rightEs l&&okT k a&&bodyE k n t&&kidsE k l):=by rw[rightE];rfl
end Go.Pv
end

section
/- The sizes of expressions that a law keeps. -/
namespace Go.Pv
open Go

mutual
def esum:Exp→Nat | .mk _ n t a l _=>n.length / 50+csum t+csums a+esums l
def esums:List Exp→Nat | []=>0|e :: r=>esum e+esums r
end
end Go.Pv
end

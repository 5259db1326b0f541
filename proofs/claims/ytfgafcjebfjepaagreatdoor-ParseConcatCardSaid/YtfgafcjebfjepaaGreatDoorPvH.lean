import Derived.Test.YtfgafcjebfjepaaGreatDoorPvD
set_option linter.all false
section
/- The operations, over values without memory. -/
namespace Go.Pv
open Go

def aggO (P:Program) (t:Nat):Option Bool:=
 (P.underlying t).map fun d=>match d with | .struct _ | .array _ _=>true|_=>false
def elemT (P:Program) (t:Nat):Option Nat:=
 match P.underlying t with
 | some (.slice e)=>if (P.info? e).isSome then some e else none
 | _=>none
def Rows (sz:Nat) (l:List (List AV)):Prop:=∀ r∈l,r.length=sz∧r.all AV.one=true
def foff (P:Program) (t f:Nat):Option Nat:=
 match P.underlying t with
 | some (.struct fs)=>(fs[f]?).bind fun x=>if esz P x.type=0 then none else some x.offset
 | _=>none
def ftyp (P:Program) (t f:Nat):Nat:=
 match P.underlying t with
 | some (.struct fs)=>((fs[f]?).map (·.type)).getD 0
 | _=>0
def ikind (P:Program) (t:Nat):Option IntKind:=
 match P.underlying t with
 | some (.int k)=>some k
 | _=>none
def ebytes (P:Program) (e:Nat):Nat:=((P.info? e).map (·.bytes)).getD 0

def cvA (v:Value):AV:=match cv v with | .v x _=>x|_=>.tup []
def azero (P:Program) (t:Nat):Option (List AV):=
 ((P.info? t).bind (·.zero)).bind fun z=>if z.cells.toList.all (fun v=>match cv v with | .v _ _=>true|_=>false)&&z.cells.size==esz P t then some (z.cells.toList.map cvA) else none
def nilPos (P:Program) (t:Nat):List Nat:=
 match (P.info? t).bind (·.zero) with
 | some z=>(List.range z.cells.size).filter fun j=>match z.cells[j]? with|some (.slice none 0 0)=>true|_=>false
 | none=>[]

inductive OR where
 | stuck
 | val (c:Prop) (x:TV)
 | eff (c:Prop) (σ:AS)
 | call (f:FuncId) (args:List AV)
 | callB (f : FuncId) (args : List AV) (ks : List Nat)      -- a function with boxes
 | yld (l:Nat) (x:AV)

def TV.av:TV→Option AV
 | .v x _=>some x
 | .bld l _=>some (.agg l)
 | _=>none

theorem av_rep {gh:Gh} {h:Array Obj} {v:Value} {x:TV} {y:AV} (r:TRep gh h v x) (e:x.av=some y):Rep gh.lim h v y:=by
 cases x with
 | un=>cases e
 | v z g=>injection e with e;subst e;exact r.1
 | bld l ns=>injection e with e;subst e;exact r.1
 | lp k o=>cases e
 | it k9=>cases e
 | cl f ks=>cases e

def inR (k:IntKind) (n:Int):Prop:=k.wrap n=n

def strOp (op:BinOp) (a b:List UInt8):OR:=
 match op with
 | .add=>.val (a.length+b.length≤9223372036854775807) (.v (.str (a++b)) none)
 | .eql=>.val True (.v (.bool (a==b)) none)
 | .neq=>.val True (.v (.bool (!(a==b))) none)
 | .lss=>.val True (.v (.bool (Op.bytesLess a b)) none)
 | .gtr=>.val True (.v (.bool (!(Op.bytesLess a b || a==b))) none)
 | _=>.stuck

def intOp (op:BinOp) (k:IntKind) (a b:Int):OR:=
 match op with
 | .add=>.val (inR k (a+b)) (.v (.int k (a+b)) none)
 | .sub=>.val (inR k (a - b)) (.v (.int k (a - b)) none)
 | .mul=>.val (inR k (a * b)) (.v (.int k (a * b)) none)
 | .quo=>.val (b≠0∧inR k (a.tdiv b)) (.v (.int k (a.tdiv b)) none)
 | .rem=>.val (b≠0) (.v (.int k (a.tmod b)) none)
 | .eql=>.val True (.v (.bool (a==b)) none)
 | .neq=>.val True (.v (.bool (a != b)) none)
 | .lss=>.val True (.v (.bool (decide (a < b))) none)
 | .leq=>.val True (.v (.bool (decide (a≤b))) none)
 | .gtr=>.val True (.v (.bool (decide (b < a))) none)
 | .geq=>.val True (.v (.bool (decide (b≤a))) none)
 | _=>.stuck

def binR (op:BinOp):Option AV→Option AV→OR
 | some (.int k a),some (.int k' b)=>if k=k' then intOp op k a b else .stuck
 | some (.str a),some (.str b)=>strOp op a b
 | _,_=>.stuck

def boolT (P:Program) (t:Nat):Bool:=P.underlying t matches some .bool
def funcT (P:Program) (t:Nat):Bool:=P.underlying t matches some (.func _ _ _)
def ptrT (P:Program) (t:Nat):Bool:=P.underlying t matches some (.pointer _)
def ifaceT (P:Program) (t:Nat):Bool:=P.underlying t matches some (.interface _)
def isC:Operand→Bool | .const _=>true|_=>false
def strB (P:Program) (t:Nat):Bool:=P.underlying t matches some .string
def flatFs (P:Program):List Field→Nat→Option (List Nat)
 | [],_=>some []
 | f :: r,i=>if f.name != "_" &&f.offset==i&&(boolT P f.type || strB P f.type || (ikind P f.type).isSome) then (flatFs P r (i+1)).map (f.type :: ·) else none
def flatS (P:Program) (t:Nat):Option (List Nat):=
 match P.underlying t with
 | some (.struct fs)=>if P.stoodInHeld t || P.eqGuardType P.depth t then none else flatFs P fs.toList 0
 | _=>none
def eqK (P:Program) (t:Nat):AV→AV→Option Bool
 | .bool a,.bool b=>if boolT P t then some (a==b) else none
 | .int k a,.int k' b=>if k=k'∧(ikind P t).isSome=true then some (a==b) else none
 | .str a,.str b=>if strB P t then some (a==b) else none
 | _,_=>none
def eqCells (P:Program):List Nat→List AV→List AV→Option Bool
 | [],[],[]=>some true
 | t :: ts,x :: xs,y :: ys=>match eqK P t x y,eqCells P ts xs ys with
  | some b,some c=>some (b&&c)
  | _,_=>none
 | _,_,_=>none
def eqV (P:Program) (t:Nat) (k:Bool):AV→AV→Option Bool
 | .bool a,.bool b=>if boolT P t then some (a==b) else none
 | .nilFunc,.nilFunc=>if funcT P t then some true else none
 | .func _ _,.nilFunc=>if funcT P t then some false else none
 | .yld _,.nilFunc=>if funcT P t then some false else none
 | .nilIface,.nilIface=>if ifaceT P t&&k then some true else none
 | .iface _ _,.nilIface=>if ifaceT P t then some false else none
 | .nilIface,.iface _ _=>if ifaceT P t then some false else none
 | .agg a,.agg b=>(flatS P t).bind fun ts=>eqCells P ts a b
 | .gp _ _,.nilPtr=>if ptrT P t then some false else none
 | _,_=>none
def eqR (P:Program) (op:BinOp) (t:Nat) (k:Bool):Option AV→Option AV→OR
 | some x,some y=>
  match eqV P t k x y,op with
  | some b,.eql=>.val True (.v (.bool b) none)
  | some b,.neq=>.val True (.v (.bool (!b)) none)
  | _,_=>.stuck
 | _,_=>.stuck
def isNilS:Operand→Bool | .const (.slice none 0 0)=>true|_=>false
def nilSR (P:Program) (op:BinOp) (t:Nat) (k:Bool):Option AV→OR
 | some (.slice l)=>if k=true∧(elemT P t).isSome=true then
   match op,l with
   | .eql,[]=>.val True (.v .anyB none)
   | .neq,[]=>.val True (.v .anyB none)
   | .eql,_ :: _=>.val True (.v (.bool false) none)
   | .neq,_ :: _=>.val True (.v (.bool true) none)
   | _,_=>.stuck
  else .stuck
 | some .nilS=>if k=true∧(elemT P t).isSome=true then
   match op with
   | .eql=>.val True (.v (.bool true) none)
   | .neq=>.val True (.v (.bool false) none)
   | _=>.stuck
  else .stuck
 | _=>.stuck
def arrT (P:Program) (t:Nat):Option (Nat×Nat):=
 match P.underlying t with
 | some (.array n e)=>if (P.info? e).isSome then some (n,e) else none
 | _=>none

def pickR:Option AV→Option AV→Option AV→OR
 | some (.bool c),some x,some y=>.val True (.v (if c then x else y) none)
 | _,_,_=>.stuck

def unR (op:UnOp):Option AV→OR
 | some (.bool b)=>match op with | .not=>.val True (.v (.bool (!b)) none)|_=>.stuck
 | some (.int k n)=>match op with | .neg=>.val (inR k (0 - n)) (.v (.int k (0 - n)) none)|_=>.stuck
 | _=>.stuck

def flat:AV→List AV
 | .agg l=>l
 | x=>[x]

def avs (e:Operand→TV):List Operand→Option (List AV)
 | []=>some []
 | x :: r=>match (e x).av,avs e r with
  | some y,some l=>some (y :: l)
  | _,_=>none

def fillA (P:Program) (t:Nat) (e:Operand→TV):List (Nat×Operand)→List AV→Option (List AV×Prop)
 | [],cells=>some (cells,True)
 | (i,x) :: r,cells=>
  match foff P t i,(e x).av with
  | some o,some y=>(fillA P t e r (splice cells o (flat y))).map fun p=>(p.1,((flat y).length=esz P (ftyp P t i)∧o+(flat y).length≤cells.length)∧p.2)
  | _,_=>none

def nilsLeft (P:Program) (t:Nat):List (Nat×Operand)→List Nat→List Nat
 | [],ns=>ns
 | (i,_) :: r,ns=>nilsLeft P t r (ns.filter fun j=>match foff P t i with|some o=>!(decide (o≤j)&&decide (j < o+esz P (ftyp P t i)))|none=>false)

def loadR (P:Program) (t:Nat) (cells:List AV):OR:=
 match aggO P t with
 | some true=>.val (esz P t≤cells.length) (.v (.agg (cells.take (esz P t))) none)
 | some false=>match cells[0]? with
  | some x=>.val True (.v x none)
  | none=>.stuck
 | none=>.stuck

def sub16 (l:List (List AV)) (lo hi:Int):List (List AV):=(l.take hi.toNat).drop lo.toNat

def sliceR (P:Program) (t:Nat) (x:Option AV) (lo hi:Option (Option AV)):OR:=
 match x with
 | some (.str s)=>
  if (P.underlying t matches some .string) then
   match lo,hi with
   | none,none=>.val True (.v (.str s) none)
   | none,some (some (.int _ h))=>.val (0≤h∧h≤s.length) (.v (.str (s.take h.toNat)) none)
   | some (some (.int _ l)),none=>.val (0≤l∧l≤s.length) (.v (.str (s.drop l.toNat)) none)
   | some (some (.int _ l)),some (some (.int _ h))=>.val (0≤l∧l≤h∧h≤s.length) (.v (.str ((s.take h.toNat).drop l.toNat)) none)
   | _,_=>.stuck
  else .stuck
 | some (.slice s)=>
  match elemT P t with
  | some e=>
   match lo,hi with
   | none,none=>.val (Rows (esz P e) s) (.v (.slice s) none)
   | none,some (some (.int _ h))=>.val ((0≤h∧h≤s.length)∧Rows (esz P e) s) (.v (.slice (s.take h.toNat)) none)
   | some (some (.int _ l)),none=>.val ((0≤l∧l≤s.length)∧Rows (esz P e) s) (.v (.slice (s.drop l.toNat)) none)
   | some (some (.int _ l)),some (some (.int _ h))=>.val ((0≤l∧l≤h∧h≤s.length)∧Rows (esz P e) s) (.v (.slice ((s.take h.toNat).drop l.toNat)) none)
   | _,_=>.stuck
  | none=>.stuck
 | some (.ro l)=>
  match arrT P t,lo,hi with
  | some (n,e),none,none=>if esz P e=1 then .val (n≤l.length) (.v (.slice ((l.take n).map fun x=>[x])) none) else .stuck
  | _,_,_=>.stuck
 | _=>.stuck

def lenR (P:Program) (t:Nat):Option AV→OR
 | some (.str s)=>if (P.underlying t matches some .string) then .val True (.v (.int .i64 s.length) none) else .stuck
 | some (.slice l)=>if (elemT P t).isSome then .val True (.v (.int .i64 l.length) none) else .stuck
 | _=>.stuck

def mxR (isMax:Bool):Option AV→Option AV→OR
 | some (.int k x),some (.int _ y)=>.val True (.v (.int k (if isMax then (if y > x then y else x) else (if y < x then y else x))) none)
 | _,_=>.stuck

def AS.usesB (σ:AS) (g:Nat):Bool:=
 σ.tm.any (fun p=>match p.2 with | .v _ (some q)=>q.1==g|_=>false) || σ.tb.any (fun q=>q.2.2.1==g)

theorem AS.not_uses {σ:AS} {g:Nat} (h:σ.usesB g=false) (e:Nat):¬ σ.uses g e:=by
 simp only[AS.usesB,Bool.or_eq_false_iff,List.any_eq_false] at h
 rintro (⟨t,x,hx⟩|⟨k,j,hx⟩)
 ·have mem:∀ (l:List (Nat×TV)),look t l=some (.v x (some (g,e)))→(t,TV.v x (some (g,e)))∈l:=by
   intro l
   induction l with
   | nil=>intro h;cases h
   | cons p r ih=>
    intro h
    obtain ⟨j,y⟩:=p
    simp only[look] at h
    split at h
    ·rename_i he;subst he;injection h with h;subst h;exact List.mem_cons_self ..
    ·exact List.mem_cons_of_mem _ (ih h)
  have:=h.1 _ (mem σ.tm hx)
  simp at this
 ·have:=h.2 _ hx
  simp at this

def gid (k j:Nat):Nat:=100000+1000 * k+j

def AS.openB (σ:AS) (k:Nat) (hint:List (Nat×Nat)):List Nat→AS
 | []=>σ
 | j :: r=>match look (gid k j) hint with
  | some e=>if σ.usesB (gid k j) then AS.openB σ k hint r else AS.openB { σ with tb:=(k,j,gid k j,e) :: σ.tb } k hint r
  | none=>AS.openB σ k hint r

end Go.Pv
end

section
/- The operations over values without memory are right. -/
namespace Go.Pv
open Go

theorem rep_int {lim:Lim} {h:Array Obj} {v:Value} {k:IntKind} {n:Int} (r:Rep lim h v (.int k n)):v=.int k n:=by cases r;rfl
theorem rep_bool {lim:Lim} {h:Array Obj} {v:Value} {b:Bool} (r:Rep lim h v (.bool b)):v=.bool b:=by cases r;rfl
theorem rep_yld {lim:Lim} {h:Array Obj} {v:Value} {l:Nat} (r:Rep lim h v (.yld l)):v=.func (.yield l) #[] #[]:=by cases r;rfl
theorem rep_str {lim:Lim} {h:Array Obj} {v:Value} {l:List UInt8} (r:Rep lim h v (.str l)):v=.string ⟨l.toArray⟩:=by cases r;rfl

theorem trep_int (gh:Gh) (h:Array Obj) (k:IntKind) (n:Int):TRep gh h (.int k n) (.v (.int k n) none):=⟨.int k n,by simp⟩
theorem trep_bool (gh:Gh) (h:Array Obj) (b:Bool):TRep gh h (.bool b) (.v (.bool b) none):=⟨.bool b,by simp⟩
theorem trep_str (gh:Gh) (h:Array Obj) (l:List UInt8):TRep gh h (.string ⟨l.toArray⟩) (.v (.str l) none):=⟨.str l,by simp⟩
theorem trep_v {gh:Gh} {h:Array Obj} {v:Value} {x:AV} (r:Rep gh.lim h v x):TRep gh h v (.v x none):=⟨r,by simp⟩

theorem ba_append (a b:List UInt8):(⟨a.toArray⟩:ByteArray)++⟨b.toArray⟩=⟨(a++b).toArray⟩:=by
 apply ByteArray.ext
 rw[ByteArray.data_append]
 simp
theorem ba_size (l:List UInt8):(⟨l.toArray⟩:ByteArray).size=l.length:=by simp[ByteArray.size]

def Yl (P:Program) (gh:Gh) (w:World) (s:Sem Value) (x:TV):Prop:=∃ v,s.run P w=.ok v w∧TRep gh w.heap v x

theorem intOp_sound {P:Program} {gh:Gh} {w:World} {op:BinOp} {k:IntKind} {a b:Int} {t:TypeId} {xo yo:Operand} {c:Prop} {z:TV}
  (h:intOp op k a b=.val c z) (hc:c):Yl P gh w (do eqGuard op t xo yo (.int k a) (.int k b);binOp op t (.int k a) (.int k b)) z:=by
 rw[eqGuard_at_int]
 cases op<;>simp only[intOp,OR.val.injEq,reduceCtorEq] at h<;>obtain ⟨h1,rfl⟩:=h<;>subst h1
 ·exact ⟨.int k (a+b),by simp[binOp,Op.intArith,show k.wrap (a+b)=a+b from hc],trep_int _ _ _ _⟩
 ·exact ⟨.int k (a - b),by simp[binOp,Op.intArith,show k.wrap (a - b)=a - b from hc],trep_int _ _ _ _⟩
 ·exact ⟨.int k (a * b),by simp[binOp,Op.intArith,show k.wrap (a * b)=a * b from hc],trep_int _ _ _ _⟩
 ·exact ⟨.int k (a.tdiv b),by simp[binOp,Op.intDiv,hc.1,show k.wrap (a.tdiv b)=a.tdiv b from hc.2],trep_int _ _ _ _⟩
 ·exact ⟨.int k (a.tmod b),by simp[binOp,Op.intDiv,hc],trep_int _ _ _ _⟩
 all_goals exact ⟨.bool _,by simp[binOp,Op.intCmp],trep_bool _ _ _⟩

theorem strOp_sound {P:Program} {gh:Gh} {w:World} {op:BinOp} {a b:List UInt8} {t:TypeId} {xo yo:Operand} {c:Prop} {z:TV}
  (h:strOp op a b=.val c z) (hc:c):Yl P gh w (do eqGuard op t xo yo (.string ⟨a.toArray⟩) (.string ⟨b.toArray⟩);binOp op t (.string ⟨a.toArray⟩) (.string ⟨b.toArray⟩)) z:=by
 rw[eqGuard_at_string]
 cases op<;>simp only[strOp,OR.val.injEq,reduceCtorEq] at h<;>obtain ⟨h1,rfl⟩:=h<;>subst h1
 case add=>
  refine ⟨_,?_,trep_str _ _ _⟩
  have h2:¬ (9223372036854775807:Int) < (((⟨a.toArray⟩:ByteArray).size+(⟨b.toArray⟩:ByteArray).size:Nat):Int):=by rw[ba_size,ba_size];omega
  simp only[binOp,Op.stringOp,Sem.run_bind,Sem.run_pure,Result.andThen_ok,IntKind.max_i64,gt_iff_lt,h2,if_false,ba_append]
 all_goals exact ⟨.bool _,by simp[binOp,Op.stringOp,ByteArray.toList_mk],trep_bool _ _ _⟩

theorem binR_sound {P:Program} {gh:Gh} {w:World} {op:BinOp} {x y:Option AV} {vx vy:Value} {t:TypeId} {xo yo:Operand} {c:Prop} {z:TV}
  (hx:∀ a,x=some a→Rep gh.lim w.heap vx a) (hy:∀ a,y=some a→Rep gh.lim w.heap vy a) (h:binR op x y=.val c z) (hc:c):
  Yl P gh w (do eqGuard op t xo yo vx vy;binOp op t vx vy) z:=by
 unfold binR at h
 split at h
 ·rename_i k a k' b
  split at h
  ·rename_i hk;subst hk
   obtain rfl:=rep_int (hx _ rfl)
   obtain rfl:=rep_int (hy _ rfl)
   exact intOp_sound h hc
  ·cases h
 ·obtain rfl:=rep_str (hx _ rfl)
  obtain rfl:=rep_str (hy _ rfl)
  exact strOp_sound h hc
 ·cases h

theorem run_eqB {P:Program} {op:BinOp} {t:TypeId} {u v:Value} {b:Bool} {w:World} (hs:(binOp .eql t u v=do pure (.bool (← Op.equal t u v)))∧(binOp .neq t u v=do pure (.bool (!(← Op.equal t u v)))))
  (h:(Op.equal t u v).run P w=.ok b w) (ho:op=.eql∨op=.neq):(binOp op t u v).run P w=.ok (.bool (if op=.eql then b else !b)) w:=by
 rcases ho with rfl|rfl
 ·rw[hs.1];simp[h]
 ·rw[hs.2];simp[h]

theorem boolT_spec {P:Program} {t:TypeId} (h:boolT P t=true):P.underlying t=some .bool:=by unfold boolT at h;split at h<;>first|assumption|cases h
theorem funcT_spec {P:Program} {t:TypeId} (h:funcT P t=true):∃ a b c,P.underlying t=some (.func a b c):=by unfold funcT at h;split at h<;>first|exact ⟨_,_,_,by assumption⟩|cases h
theorem ifaceT_spec {P:Program} {t:TypeId} (h:ifaceT P t=true):∃ a,P.underlying t=some (.interface a):=by unfold ifaceT at h;split at h<;>first|exact ⟨_,by assumption⟩|cases h

theorem ptrT_spec {P:Program} {t:TypeId} (h:ptrT P t=true):∃ a,P.underlying t=some (.pointer a):=by unfold ptrT at h;split at h<;>first|exact ⟨_,by assumption⟩|cases h

theorem depth_succ:∃ d,Op.maxDepth=d+1:=⟨_,rfl⟩

theorem strB_spec {P:Program} {t:TypeId} (h:strB P t=true):P.underlying t=some .string:=by unfold strB at h;split at h<;>first|assumption|cases h
theorem ikind_some {P:Program} {t:TypeId} (h:(ikind P t).isSome=true):∃ k,P.underlying t=some (.int k):=by
 unfold ikind at h
 split at h
 ·exact ⟨_,by assumption⟩
 ·cases h
theorem run_part_one {P:Program} {t:TypeId} {cs:Array Value} {i:Nat} {v:Value} {w:World} (h:P.underlying t=some .bool∨P.underlying t=some .string∨∃ k,P.underlying t=some (.int k)) (hv:cs[i]? = some v):(part t cs i).run P w=.ok v w:=by
 rcases h with h|h|⟨k,h⟩<;>simp[part,isAgg,run_underlying h,hv]
theorem eqK_sound {P:Program} {lim:Lim} {w:World} {x y:AV} {vx vy:Value} {t:TypeId} {b:Bool} {d:Nat}
  (hx:Rep lim w.heap vx x) (hy:Rep lim w.heap vy y) (h:eqK P t x y=some b):(Op.equalIn (d+1) t vx vy).run P w=.ok b w:=by
 unfold eqK at h
 split at h
 ·obtain rfl:=rep_bool hx
  obtain rfl:=rep_bool hy
  split at h
  ·rename_i hu
   obtain rfl:=Option.some.inj h
   exact run_equalIn_bool w d t _ _ (boolT_spec hu)
  ·cases h
 ·obtain rfl:=rep_int hx
  obtain rfl:=rep_int hy
  split at h
  ·rename_i hu
   obtain ⟨rfl,hu⟩:=hu
   obtain ⟨k',hu⟩:=ikind_some hu
   obtain rfl:=Option.some.inj h
   exact run_equalIn_int w d t _ k' _ _ hu
  ·cases h
 ·obtain rfl:=rep_str hx
  obtain rfl:=rep_str hy
  split at h
  ·rename_i hu
   obtain rfl:=Option.some.inj h
   rw[run_equalIn_string w d t _ _ (strB_spec hu)]
   simp[ByteArray.toList_mk]
  ·cases h
 ·cases h
theorem eqFields_sound {P:Program} {lim:Lim} {w:World} {xs ys:Array Value} {d:Nat}:∀ (fs:List Field) (i:Nat) (ts:List Nat) (la lb:List AV) (b:Bool),flatFs P fs i=some ts→RepL lim w.heap (xs.toList.drop i) la→RepL lim w.heap (ys.toList.drop i) lb →
  eqCells P ts la lb=some b→(Op.eqFields (d+1) xs ys fs).run P w=.ok b w
 | [],i,ts,la,lb,b,hf,ha,hb,h=>by
  simp only[flatFs,Option.some.injEq] at hf
  subst hf
  cases la with
  | nil=>
   cases lb with
   | nil=>simp only[eqCells,Option.some.injEq] at h;subst h;rfl
   | cons y ys=>simp[eqCells] at h
  | cons x xs=>simp[eqCells] at h
 | f :: fs,i,ts,la,lb,b,hf,ha,hb,h=>by
  simp only[flatFs] at hf
  split at hf
  ·rename_i hc
   simp only[Bool.and_eq_true,bne_iff_ne,ne_eq,beq_iff_eq,Bool.or_eq_true] at hc
   obtain ⟨⟨h1,h2⟩,h3⟩:=hc
   obtain ⟨ts',hts,rfl⟩:=Option.map_eq_some_iff.1 hf
   cases la with
   | nil=>simp[eqCells] at h
   | cons x xs'=>
    cases lb with
    | nil=>simp[eqCells] at h
    | cons y ys'=>
    simp only[eqCells] at h
    split at h
    ·rename_i c1 c2 e1 e2
     injection h with h;subst h
     have hun:P.underlying f.type=some .bool∨P.underlying f.type=some .string∨∃ k,P.underlying f.type=some (.int k):=by
      rcases h3 with (h3|h3)|h3
      ·exact .inl (boolT_spec h3)
      ·exact .inr (.inl (strB_spec h3))
      ·exact .inr (.inr (ikind_some h3))
     obtain ⟨va,hva,hra⟩:=ha.get (j:=0) rfl
     obtain ⟨vb,hvb,hrb⟩:=hb.get (j:=0) rfl
     rw[List.getElem?_drop] at hva hvb
     have ih:=eqFields_sound (d:=d) fs (i+1) ts' xs' ys' c2 hts (by
      have:=ha.drop 1
      rwa[List.drop_drop] at this) (by
      have:=hb.drop 1
      rwa[List.drop_drop] at this) e2
     have hpa:=run_part_one (P:=P) (w:=w) hun (cs:=xs) (i:=f.offset) (v:=va) (by rw[h2];simpa using hva)
     have hpb:=run_part_one (P:=P) (w:=w) hun (cs:=ys) (i:=f.offset) (v:=vb) (by rw[h2];simpa using hvb)
     have he:=eqK_sound (d:=d) hra hrb e1
     rw[Op.eqFields,if_pos h1]
     simp only[Sem.run_bind,hpa,hpb,he,Result.andThen_ok]
     cases c1
     ·simp
     ·simpa using ih
    ·cases h
  ·cases hf

theorem eqV_sound {P:Program} {gh:Gh} {w:World} {op:BinOp} {x y:AV} {vx vy:Value} {t:TypeId} {xo yo:Operand} {b:Bool}
  (hx:Rep gh.lim w.heap vx x) (hy:Rep gh.lim w.heap vy y) (h:eqV P t (isC xo || isC yo) x y=some b) (ho:op=.eql∨op=.neq):
  (do eqGuard op t xo yo vx vy;binOp op t vx vy).run P w=.ok (.bool (if op=.eql then b else !b)) w:=by
 obtain ⟨d,hd⟩:=depth_succ
 have key:∀ (u v:Value) (b:Bool),((binOp .eql t u v=do pure (.bool (← Op.equal t u v)))∧(binOp .neq t u v=do pure (.bool (!(← Op.equal t u v)))))→(Op.equal t u v).run P w=.ok b w →
   (eqGuard op t xo yo u v).run P w=.ok () w→(do eqGuard op t xo yo u v;binOp op t u v).run P w=.ok (.bool (if op=.eql then b else !b)) w:=by
  intro u v b h1 h2 h3
  simp only[Sem.run_bind,h3,Result.andThen_ok]
  exact run_eqB h1 h2 ho
 unfold eqV at h
 split at h
 ·obtain rfl:=rep_bool hx
  obtain rfl:=rep_bool hy
  split at h
  ·rename_i hu
   obtain rfl:=Option.some.inj h
   refine key _ _ _ ⟨rfl,rfl⟩ ?_ (by rw[eqGuard_at_bool];rfl)
   unfold Op.equal;rw[hd];unfold Op.equalIn;simp[run_underlying (boolT_spec hu)]
  ·cases h
 ·split at h
  ·rename_i hu
   obtain ⟨a1,a2,a3,hu⟩:=funcT_spec hu
   obtain rfl:=Option.some.inj h
   cases hx;cases hy
   refine key _ _ _ ⟨rfl,rfl⟩ ?_ (by rcases ho with rfl|rfl<;>rfl)
   unfold Op.equal;rw[hd];unfold Op.equalIn;simp[run_underlying hu]
  ·cases h
 ·split at h
  ·rename_i hu
   obtain ⟨a1,a2,a3,hu⟩:=funcT_spec hu
   obtain rfl:=Option.some.inj h
   cases hx;cases hy
   refine key _ _ _ ⟨rfl,rfl⟩ ?_ (by rcases ho with rfl|rfl<;>rfl)
   unfold Op.equal;rw[hd];unfold Op.equalIn;simp[run_underlying hu]
  ·cases h
 ·split at h
  ·rename_i hu
   obtain ⟨a1,a2,a3,hu⟩:=funcT_spec hu
   obtain rfl:=Option.some.inj h
   cases hx;cases hy
   refine key _ _ _ ⟨rfl,rfl⟩ ?_ (by rcases ho with rfl|rfl<;>rfl)
   unfold Op.equal;rw[hd];unfold Op.equalIn;simp[run_underlying hu]
  ·cases h
 ·split at h
  ·rename_i hu
   rw[Bool.and_eq_true] at hu
   obtain ⟨hu,hk⟩:=hu
   obtain ⟨a1,hu⟩:=ifaceT_spec hu
   obtain rfl:=Option.some.inj h
   cases hx;cases hy
   refine key _ _ _ ⟨rfl,rfl⟩ ?_ ?_
   ·unfold Op.equal;rw[hd];unfold Op.equalIn;simp[run_underlying hu]
   ·clear key h
    rcases ho with rfl|rfl<;>cases xo<;>cases yo<;>first|rfl|(simp[isC] at hk)
  ·cases h
 ·split at h
  ·rename_i hu
   obtain ⟨a1,hu⟩:=ifaceT_spec hu
   obtain rfl:=Option.some.inj h
   cases hx;cases hy
   refine key _ _ _ ⟨rfl,rfl⟩ ?_ (by rcases ho with rfl|rfl<;>rfl)
   unfold Op.equal;rw[hd];unfold Op.equalIn;simp[run_underlying hu]
  ·cases h
 ·split at h
  ·rename_i hu
   obtain ⟨a1,hu⟩:=ifaceT_spec hu
   obtain rfl:=Option.some.inj h
   cases hx;cases hy
   refine key _ _ _ ⟨rfl,rfl⟩ ?_ (by rcases ho with rfl|rfl<;>rfl)
   unfold Op.equal;rw[hd];unfold Op.equalIn;simp[run_underlying hu]
  ·cases h
 ·obtain ⟨ts,h1,h2⟩:=Option.bind_eq_some_iff.1 h
  obtain ⟨xs,rfl,hxs⟩:=Rep.agg_iff.1 hx
  obtain ⟨ys,rfl,hys⟩:=Rep.agg_iff.1 hy
  unfold flatS at h1
  split at h1
  ·rename_i fs hu
   split at h1
   ·cases h1
   ·rename_i hg
    simp only[Bool.or_eq_true,not_or,Bool.not_eq_true] at hg
    have hfo:P.fieldsOf t=fs:=by unfold Program.fieldsOf;rw[hu]
    have hrun:(Op.equal t (.agg xs) (.agg ys)).run P w=.ok b w:=by
     unfold Op.equal
     rw[show Op.maxDepth=9998+1+1 from rfl,run_equalIn_agg w _ t xs ys (by rw[hfo];exact hu) hg.1,hfo]
     exact eqFields_sound fs.toList 0 ts _ _ b h1 (by simpa using hxs) (by simpa using hys) h2
    refine key _ _ _ ⟨rfl,rfl⟩ hrun (run_eqGuard_agg w op t xo yo xs ys hg.2)
  ·cases h1
 ·split at h
  ·rename_i hu
   obtain ⟨a1,hu⟩:=ptrT_spec hu
   obtain rfl:=Option.some.inj h
   cases hx;cases hy
   refine key _ _ _ ⟨rfl,rfl⟩ ?_ (by rcases ho with rfl|rfl<;>rfl)
   unfold Op.equal;rw[hd];unfold Op.equalIn;simp[run_underlying hu]
  ·cases h
 ·cases h

theorem eqR_sound {P:Program} {gh:Gh} {w:World} {op:BinOp} {x y:Option AV} {vx vy:Value} {t:TypeId} {xo yo:Operand} {c:Prop} {z:TV}
  (hx:∀ a,x=some a→Rep gh.lim w.heap vx a) (hy:∀ a,y=some a→Rep gh.lim w.heap vy a) (h:eqR P op t (isC xo || isC yo) x y=.val c z) (hc:c):
  Yl P gh w (do eqGuard op t xo yo vx vy;binOp op t vx vy) z:=by
 unfold eqR at h
 split at h
 ·split at h
  ·rename_i hb
   simp only[OR.val.injEq] at h
   obtain ⟨h1,rfl⟩:=h
   exact ⟨.bool _,eqV_sound (op:=.eql) (hx _ rfl) (hy _ rfl) hb (.inl rfl),trep_bool _ _ _⟩
  ·rename_i hb
   simp only[OR.val.injEq] at h
   obtain ⟨h1,rfl⟩:=h
   exact ⟨.bool _,eqV_sound (op:=.neq) (hx _ rfl) (hy _ rfl) hb (.inr rfl),trep_bool _ _ _⟩
  ·cases h
 ·cases h

theorem elemT_spec {P:Program} {t e:Nat} (h:elemT P t=some e):P.underlying t=some (.slice e)∧(P.info? e).isSome=true:=by
 unfold elemT at h
 split at h
 ·rename_i e' hu
  split at h
  ·rename_i hi;injection h with h;subst h;exact ⟨hu,hi⟩
  ·cases h
 ·cases h

theorem isNilS_spec {y:Operand} (h:isNilS y=true):y=.const (.slice none 0 0):=by
 unfold isNilS at h
 split at h
 ·rfl
 ·cases h
theorem nilSR_sound {P:Program} {gh:Gh} {w:World} {op:BinOp} {x:Option AV} {vx:Value} {t:TypeId} {xo yo:Operand} {c:Prop} {z:TV}
  (hx:∀ a,x=some a→Rep gh.lim w.heap vx a) (h:nilSR P op t (isNilS yo) x=.val c z) (_:c):
  Yl P gh w (do eqGuard op t xo yo vx (.slice none 0 0);binOp op t vx (.slice none 0 0)) z:=by
 have eqs:∀ (a:Option Addr) (n cp:Nat) (e:Nat),P.underlying t=some (.slice e)→(Op.equal t (.slice a n cp) (.slice none 0 0)).run P w=.ok a.isNone w:=fun a n cp e hu=>by
  obtain ⟨d,hd⟩:=depth_succ
  unfold Op.equal;rw[hd];unfold Op.equalIn;cases a<;>simp[run_underlying hu]
 have key:∀ (op:BinOp) (a:Option Addr) (n cp:Nat) (e:Nat),P.underlying t=some (.slice e)→(op=.eql∨op=.neq) →
   (do eqGuard op t xo yo (.slice a n cp) (.slice none 0 0);binOp op t (.slice a n cp) (.slice none 0 0)).run P w=.ok (.bool (if op=.eql then a.isNone else !a.isNone)) w:=fun op a n cp e hu ho=>by
  have h3:(eqGuard op t xo yo (.slice a n cp) (.slice none 0 0)).run P w=.ok () w:=by rcases ho with rfl|rfl<;>rfl
  simp only[Sem.run_bind,h3,Result.andThen_ok]
  exact run_eqB ⟨rfl,rfl⟩ (eqs a n cp e hu) ho
 unfold nilSR at h
 split at h
 ·rename_i l
  split at h
  ·rename_i hk
   obtain ⟨e,he⟩:=Option.isSome_iff_exists.1 hk.2
   obtain ⟨hu,-⟩:=elemT_spec he
   have hr:=hx _ rfl
   obtain ⟨p,cap,hv,-⟩:=hr.slice_form
   subst hv
   have kk:=fun (op:BinOp)=>key op p l.length cap e hu
   have hc:∀ r q,l=r :: q→p.isNone=false:=fun r q hl=>by
    subst hl
    obtain ⟨b,off,hp,-⟩:=hr.row (i:=0) (x:=r) rfl
    subst hp;rfl
   split at h
   ·cases h;exact ⟨_,kk .eql (.inl rfl),.anyB _,by simp⟩
   ·cases h;exact ⟨_,kk .neq (.inr rfl),.anyB _,by simp⟩
   ·cases h
    have:=kk .eql (.inl rfl)
    rw[hc _ _ rfl] at this
    exact ⟨_,this,trep_bool _ _ _⟩
   ·cases h
    have:=kk .neq (.inr rfl)
    rw[hc _ _ rfl] at this
    exact ⟨_,this,trep_bool _ _ _⟩
   ·cases h
  ·cases h
 ·split at h
  ·rename_i hk
   obtain ⟨e,he⟩:=Option.isSome_iff_exists.1 hk.2
   obtain ⟨hu,-⟩:=elemT_spec he
   have hr:=hx _ rfl
   cases hr
   split at h
   ·cases h;exact ⟨_,key .eql none 0 0 e hu (.inl rfl),trep_bool _ _ _⟩
   ·cases h;exact ⟨_,key .neq none 0 0 e hu (.inr rfl),trep_bool _ _ _⟩
   ·cases h
  ·cases h
 ·cases h

theorem unR_sound {P:Program} {gh:Gh} {w:World} {op:UnOp} {x:Option AV} {vx:Value} {c:Prop} {z:TV}
  (hx:∀ a,x=some a→Rep gh.lim w.heap vx a) (h:unR op x=.val c z) (hc:c):Yl P gh w (Op.unary op vx) z:=by
 unfold unR at h
 split at h
 ·obtain rfl:=rep_bool (hx _ rfl)
  split at h
  ·simp only[OR.val.injEq] at h
   obtain ⟨h1,rfl⟩:=h
   exact ⟨.bool _,by simp[Op.unary],trep_bool _ _ _⟩
  ·cases h
 ·obtain rfl:=rep_int (hx _ rfl)
  split at h
  ·simp only[OR.val.injEq] at h
   obtain ⟨h1,rfl⟩:=h
   subst h1
   exact ⟨.int _ _,by simp only[Op.unary,Op.intArith,Sem.run_pure];rw[show IntKind.wrap _ _=_ from hc],trep_int _ _ _ _⟩
  ·cases h
 ·cases h

theorem pickR_sound {gh:Gh} {w:World} {x y z:Option AV} {vx vy vz:Value} {c:Prop} {u:TV} {P:Program}
  (hx:∀ a,x=some a→Rep gh.lim w.heap vx a) (hy:∀ a,y=some a→Rep gh.lim w.heap vy a) (hz:∀ a,z=some a→Rep gh.lim w.heap vz a)
  (h:pickR x y z=.val c u) (_:c):Yl P gh w (do pure (if ← asBool vx then vy else vz)) u:=by
 unfold pickR at h
 split at h
 ·rename_i b p q
  obtain rfl:=rep_bool (hx _ rfl)
  simp only[OR.val.injEq] at h
  obtain ⟨h1,rfl⟩:=h
  refine ⟨if b then vy else vz,by simp[asBool],trep_v ?_⟩
  cases b
  ·exact hz _ rfl
  ·exact hy _ rfl
 ·cases h

theorem lenR_sound {P:Program} {gh:Gh} {w:World} {x:Option AV} {vx:Value} {t ty:TypeId} {c:Prop} {z:TV} {ts:Array TypeId}
  (hx:∀ a,x=some a→Rep gh.lim w.heap vx a) (h:lenR P t x=.val c z) (_:c) (ht:ts[0]? = some t):Yl P gh w (Builtin.len_ ts ty #[vx]) z:=by
 unfold lenR at h
 split at h
 ·obtain rfl:=rep_str (hx _ rfl)
  split at h
  ·rename_i hu
   simp only at h
   obtain ⟨h1,rfl⟩:=h
   have hu':P.underlying t=some .string:=by
    revert hu
    cases P.underlying t with
    | none=>intro h;cases h
    | some d=>cases d<;>intro h<;>first|rfl|cases h
   exact ⟨.int .i64 _,by simp[Builtin.len_,ht,run_underlying hu',goInt,ba_size],trep_int _ _ _ _⟩
  ·cases h
 ·obtain ⟨p,cap,rfl,-⟩:=(hx _ rfl).slice_form
  split at h
  ·rename_i l he
   simp only[OR.val.injEq] at h
   obtain ⟨h1,rfl⟩:=h
   obtain ⟨e,he⟩:=Option.isSome_iff_exists.1 he
   have hu:=(elemT_spec he).1
   exact ⟨.int .i64 _,by simp[Builtin.len_,ht,run_underlying hu,goInt],trep_int _ _ _ _⟩
  ·cases h
 ·cases h

theorem mxR_sound {P:Program} {gh:Gh} {w:World} {x y:Option AV} {vx vy:Value} {ty:TypeId} {c:Prop} {z:TV} {ts:Array TypeId}
  (hx:∀ a,x=some a→Rep gh.lim w.heap vx a) (hy:∀ a,y=some a→Rep gh.lim w.heap vy a):
  (mxR true x y=.val c z→c→Yl P gh w (Builtin.max_ ts ty #[vx,vy]) z)∧(mxR false x y=.val c z→c→Yl P gh w (Builtin.min_ ts ty #[vx,vy]) z):=by
 constructor
 ·intro h hc
  unfold mxR at h
  split at h
  ·obtain rfl:=rep_int (hx _ rfl)
   obtain rfl:=rep_int (hy _ rfl)
   simp only[OR.val.injEq] at h
   obtain ⟨h1,rfl⟩:=h
   exact ⟨.int _ _,by simp[Builtin.max_,Builtin.max2],trep_int _ _ _ _⟩
  ·cases h
 ·intro h hc
  unfold mxR at h
  split at h
  ·obtain rfl:=rep_int (hx _ rfl)
   obtain rfl:=rep_int (hy _ rfl)
   simp only[OR.val.injEq] at h
   obtain ⟨h1,rfl⟩:=h
   exact ⟨.int _ _,by simp[Builtin.min_,Builtin.min2],trep_int _ _ _ _⟩
  ·cases h

theorem run_isAgg {P:Program} {t:TypeId} {b:Bool} (h:aggO P t=some b) (w:World):(isAgg t).run P w=.ok b w:=by
 unfold aggO at h
 cases hd:P.underlying t with
 | none=>rw[hd] at h;cases h
 | some d=>
  rw[hd] at h
  unfold isAgg
  cases d<;>simp_all[run_underlying hd]

theorem aggO_some {P:Program} {t:TypeId} {b:Bool} (h:aggO P t=some b):(P.underlying t).isSome=true:=by
 unfold aggO at h
 cases hd:P.underlying t with
 | none=>rw[hd] at h;cases h
 | some d=>rfl

theorem run_sizeOf {P:Program} {t:TypeId} (h:(P.info? t).isSome=true) (w:World):(sizeOf t).run P w=.ok (esz P t) w:=by
 obtain ⟨i,hi⟩:=Option.isSome_iff_exists.1 h
 simp[sizeOf,typeInfo,esz,hi]

theorem info_of_underlying {P:Program} {t:TypeId} (h:(P.underlying t).isSome=true):(P.info? t).isSome=true:=by
 unfold Program.underlying at h
 cases hi:P.info? t with
 | none=>rw[hi] at h;cases h
 | some i=>rfl

theorem loadR_sound {P:Program} {gh:Gh} {w:World} {t:TypeId} {cells:List AV} {c:Prop} {z:TV} (b off:Nat) (vs:List Value)
  (hr:RepL gh.lim w.heap vs cells) (hv:∀ j u,vs[j]? = some u→cellAt w.heap b (off+j)=some u) (h:loadR P t cells=.val c z) (hc:c):Yl P gh w (loadVar t ⟨b,off,none⟩) z:=by
 unfold loadR at h
 unfold loadVar
 have hcell:∀ j u,vs[j]? = some u→w.cell? (Addr.add ⟨b,off,none⟩ j)=some u:=fun j u hu=>by
  rw[Addr.add_lit,cell?_eq];exact hv j u hu
 split at h
 ·rename_i hagg
  simp only[OR.val.injEq] at h
  obtain ⟨h1,rfl⟩:=h
  subst h1
  have hl:(vs.take (esz P t)).length=esz P t:=by rw[List.length_take,hr.1];omega
  refine ⟨.agg (vs.take (esz P t)).toArray,?_,trep_v (Rep.agg_iff.2 ⟨_,rfl,by simpa using hr.take _⟩)⟩
  have:=run_loadCells_list (P:=P) w ⟨b,off,none⟩ (vs.take (esz P t)) (fun j u hu=>hcell j u (by
   rw[List.getElem?_take] at hu
   split at hu
   ·exact hu
   ·cases hu))
  rw[hl] at this
  simp[run_isAgg hagg,run_sizeOf (info_of_underlying (aggO_some hagg)),this]
 ·rename_i hagg
  split at h
  ·rename_i x hx0
   simp only[OR.val.injEq] at h
   obtain ⟨h1,rfl⟩:=h
   obtain ⟨v,hv0,hrv⟩:=hr.get hx0
   have h0:=hcell 0 v hv0
   rw[Addr.add_zero'] at h0
   refine ⟨v,?_,trep_v hrv⟩
   simp[run_isAgg hagg,h0]
  ·cases h
 ·cases h

theorem foff_spec {P:Program} {t f o:Nat} (h:foff P t f=some o):∃ fs x,P.underlying t=some (.struct fs)∧fs[f]? = some x∧esz P x.type≠0∧x.offset=o∧ftyp P t f=x.type:=by
 unfold foff at h
 split at h
 ·rename_i fs hu
  cases hx:fs[f]? with
  | none=>rw[hx] at h;cases h
  | some x=>
   rw[hx] at h
   simp only[Option.bind_some] at h
   split at h
   ·cases h
   ·rename_i hne
    injection h with h
    exact ⟨fs,x,hu,hx,hne,h,by simp[ftyp,hu,hx]⟩
 ·cases h

theorem run_fieldAt {P:Program} {t f o b off:Nat} (h:foff P t f=some o) (w:World):(Instr.fieldAt t (.pointer (some ⟨b,off,none⟩)) f).run P w=.ok (.pointer (some ⟨b,off+o,none⟩)) w:=by
 obtain ⟨fs,x,hu,hx,hne,ho,-⟩:=foff_spec h
 have hi:(P.info? x.type).isSome=true:=by
  cases hq:P.info? x.type with
  | none=>exact absurd (by simp[esz,hq]) hne
  | some i=>rfl
 unfold Instr.fieldAt
 simp[run_underlying hu,hx,Instr.sureAddr,fieldPlace,run_sizeOf hi,hne,Addr.add_lit,ho]

theorem run_indexAt {P:Program} {t e:Nat} (he:elemT P t=some e) {b off n cap:Nat} {k:IntKind} {i:Int} (h0:0≤i) (h1:i < n) (w:World):
  (Instr.indexAt t (.slice (some ⟨b,off,none⟩) n cap) (.int k i)).run P w=.ok (.pointer (some ⟨b,off+i.toNat * esz P e,none⟩)) w:=by
 obtain ⟨hu,hi⟩:=elemT_spec he
 unfold Instr.indexAt
 simp[asIntOf,run_underlying hu,h0,h1,run_sizeOf hi,Addr.add_lit]

theorem extract_str (l:List UInt8) (lo hi:Nat) (h:lo≤hi) (h2:hi≤l.length):(⟨l.toArray⟩:ByteArray).extract lo hi=⟨((l.take hi).drop lo).toArray⟩:=by
 apply ByteArray.ext
 rw[ByteArray.data_extract]
 simp[List.extract_eq_take_drop,List.drop_take]

end Go.Pv
end

section
/- More operations: slice expressions, struct values, function values. -/
namespace Go.Pv
open Go

theorem slice_res {lim:Lim} {h:Array Obj} {p:Option Addr} {n cap lo hi sz:Nat} {s:List (List AV)} (r:Rep lim h (.slice p n cap) (.slice s)) (h1:lo≤hi) (h2:hi≤s.length) (hs:∀ x∈s,x.length=sz):
  Rep lim h (.slice (if cap=lo then p else p.map (·.add (lo * sz))) (hi - lo) (cap - lo)) (.slice ((s.take hi).drop lo)):=by
 obtain ⟨hn,hcap⟩:=r.slice_len
 rcases Nat.lt_or_ge lo hi with hlt|hge
 ·have hne:cap≠lo:=by omega
  cases r with
  | slice0=>simp at h2;omega
  | slice b off cap sz' s vs hcap' hrow hc hr=>
   rw[if_neg hne]
   simp only[Option.map_some,Addr.add_lit]
   exact Rep.slice_sub (.slice b off cap sz' s vs hcap' hrow hc hr) lo hi _ sz h1 h2 (by omega) hs
 ·have e:(s.take hi).drop lo=[]:=by
   apply List.eq_nil_of_length_eq_zero
   simp;omega
  rw[e,show hi - lo=0 by omega]
  exact .slice0 _ _

theorem arrT_spec {P:Program} {t n e:Nat} (h:arrT P t=some (n,e)):P.underlying t=some (.array n e)∧(P.info? e).isSome=true:=by
 unfold arrT at h
 split at h
 ·split at h
  ·injection h with h;injection h with h1 h2;subst h1;subst h2;exact ⟨by assumption,by assumption⟩
  ·cases h
 ·cases h

theorem sliceR_sound {P:Program} {gh:Gh} {w:World} {t:TypeId} {x:Option AV} {lo hi:Option (Option AV)} {vx:Value} {vlo vhi:Option Value} {c:Prop} {z:TV}
  (hx:∀ a,x=some a→Rep gh.lim w.heap vx a) (hlo:∀ a,lo=some a→∃ v,vlo=some v∧∀ y,a=some y→Rep gh.lim w.heap v y) (hlo':lo=none→vlo=none)
  (hhi:∀ a,hi=some a→∃ v,vhi=some v∧∀ y,a=some y→Rep gh.lim w.heap v y) (hhi':hi=none→vhi=none)
  (h:sliceR P t x lo hi=.val c z) (hc:c):Yl P gh w (Instr.sliceAt t vx vlo vhi none) z:=by
 unfold sliceR at h
 split at h
 ·-- a string
  obtain rfl:=rep_str (hx _ rfl)
  rename_i s
  split at h
  ·rename_i hu
   simp only[if_true] at h
   have key:∀ (l hh:Nat),l≤hh→hh≤s.length→(Instr.slice t (.string ⟨s.toArray⟩) vlo vhi none).run P w=.ok (.string ((⟨s.toArray⟩:ByteArray).extract l hh)) w →
     Yl P gh w (Instr.sliceAt t (.string ⟨s.toArray⟩) vlo vhi none) (.v (.str ((s.take hh).drop l)) none):=by
    intro l hh h1 h2 hrun
    refine ⟨.string ⟨((s.take hh).drop l).toArray⟩,?_,trep_str _ _ _⟩
    unfold Instr.sliceAt
    simp only[Sem.run_bind,run_underlying hu,Result.andThen_ok]
    rw[hrun,extract_str s l hh h1 h2]
   split at h
   ·obtain rfl:=hlo' rfl
    obtain rfl:=hhi' rfl
    simp only[OR.val.injEq] at h
    obtain ⟨h1,rfl⟩:=h
    have:=key 0 s.length (by omega) (by omega) (by rw[extract_str s 0 s.length (by omega) (by omega)];simp[Instr.slice,run_underlying hu,Instr.sliceBounds])
    simpa using this
   ·rename_i k hh
    obtain rfl:=hlo' rfl
    obtain ⟨v,rfl,hv⟩:=hhi _ rfl
    obtain rfl:=rep_int (hv _ rfl)
    simp only[OR.val.injEq] at h
    obtain ⟨h1,rfl⟩:=h
    subst h1
    have:=key 0 hh.toNat (by omega) (by omega) (by simp[Instr.slice,run_underlying hu,Instr.sliceBounds,Instr.sliceBound,asIntOf,ba_size,hc.1,hc.2])
    simpa using this
   ·rename_i k l
    obtain rfl:=hhi' rfl
    obtain ⟨v,rfl,hv⟩:=hlo _ rfl
    obtain rfl:=rep_int (hv _ rfl)
    simp only[OR.val.injEq] at h
    obtain ⟨h1,rfl⟩:=h
    subst h1
    have:=key l.toNat s.length (by omega) (by omega) (by simp[Instr.slice,run_underlying hu,Instr.sliceBounds,Instr.sliceBound,asIntOf,ba_size,hc.1,hc.2])
    simpa using this
   ·rename_i k l k' hh
    obtain ⟨v,rfl,hv⟩:=hlo _ rfl
    obtain rfl:=rep_int (hv _ rfl)
    obtain ⟨v',rfl,hv'⟩:=hhi _ rfl
    obtain rfl:=rep_int (hv' _ rfl)
    simp only[OR.val.injEq] at h
    obtain ⟨h1,rfl⟩:=h
    subst h1
    have g1:0≤hh:=by omega
    have g2:max hh 0=hh:=by omega
    have g3:l≤(hh.toNat:Int):=by omega
    exact key l.toNat hh.toNat (by omega) (by omega) (by simp[Instr.slice,run_underlying hu,Instr.sliceBounds,Instr.sliceBound,asIntOf,ba_size,hc.1,hc.2,g1,g2])
   ·cases h
  ·simp at h
 ·-- a slice
  rename_i s
  obtain ⟨p,cap,rfl,hcap⟩:=(hx _ rfl).slice_form
  have hxr:=hx _ rfl
  split at h
  ·rename_i e he
   obtain ⟨hu,hi⟩:=elemT_spec he
   have key:∀ (l hh:Nat),l≤hh→hh≤s.length→Rows (esz P e) s→(Instr.slice t (.slice p s.length cap) vlo vhi none).run P w=.ok (.slice (if cap=l then p else p.map (·.add (l * esz P e))) (hh - l) (cap - l)) w →
     Yl P gh w (Instr.sliceAt t (.slice p s.length cap) vlo vhi none) (.v (.slice ((s.take hh).drop l)) none):=by
    intro l hh h1 h2 h3 hrun
    refine ⟨_,?_,trep_v (slice_res hxr h1 h2 (fun r hr=>(h3 r hr).1))⟩
    unfold Instr.sliceAt
    simp only[Sem.run_bind,run_underlying hu,Result.andThen_ok]
    exact hrun
   split at h
   ·obtain rfl:=hlo' rfl
    obtain rfl:=hhi' rfl
    simp only[OR.val.injEq] at h
    obtain ⟨h1,rfl⟩:=h
    subst h1
    have:=key 0 s.length (by omega) (by omega) hc (by simp[Instr.slice,run_underlying hu,Instr.sliceBounds,run_sizeOf hi])
    simpa using this
   ·rename_i k hh
    obtain rfl:=hlo' rfl
    obtain ⟨v,rfl,hv⟩:=hhi _ rfl
    obtain rfl:=rep_int (hv _ rfl)
    simp only[OR.val.injEq] at h
    obtain ⟨h1,rfl⟩:=h
    subst h1
    have g1:hh≤(cap:Int):=by omega
    have:=key 0 hh.toNat (by omega) (by omega) hc.2 (by simp[Instr.slice,run_underlying hu,Instr.sliceBounds,Instr.sliceBound,asIntOf,run_sizeOf hi,hc.1.1,g1])
    simpa using this
   ·rename_i k l
    obtain rfl:=hhi' rfl
    obtain ⟨v,rfl,hv⟩:=hlo _ rfl
    obtain rfl:=rep_int (hv _ rfl)
    simp only[OR.val.injEq] at h
    obtain ⟨h1,rfl⟩:=h
    subst h1
    have:=key l.toNat s.length (by omega) (by omega) hc.2 (by simp[Instr.slice,run_underlying hu,Instr.sliceBounds,Instr.sliceBound,asIntOf,run_sizeOf hi,hc.1.1,hc.1.2])
    simpa using this
   ·rename_i k l k' hh
    obtain ⟨v,rfl,hv⟩:=hlo _ rfl
    obtain rfl:=rep_int (hv _ rfl)
    obtain ⟨v',rfl,hv'⟩:=hhi _ rfl
    obtain rfl:=rep_int (hv' _ rfl)
    simp only[OR.val.injEq] at h
    obtain ⟨h1,rfl⟩:=h
    subst h1
    have g1:0≤hh:=by omega
    have g2:max hh 0=hh:=by omega
    have g3:hh≤(cap:Int):=by omega
    exact key l.toNat hh.toNat (by omega) (by omega) hc.2 (by simp[Instr.slice,run_underlying hu,Instr.sliceBounds,Instr.sliceBound,asIntOf,run_sizeOf hi,hc.1.1,hc.1.2.1,g1,g2,g3])
   ·cases h
  ·cases h
 ·-- an array, through a pointer
  rename_i l
  split at h
  ·rename_i n e ha
   split at h
   ·rename_i h1
    simp only[OR.val.injEq] at h
    obtain ⟨rfl,rfl⟩:=h
    obtain rfl:=hlo' rfl
    obtain rfl:=hhi' rfl
    obtain ⟨b,off,vs,rfl,hr,hcell⟩:=Rep.ro_iff.1 (hx _ rfl)
    obtain ⟨hu,hi⟩:=arrT_spec ha
    refine ⟨.slice (some ⟨b,off,none⟩) n n,?_,trep_v ?_⟩
    ·unfold Instr.sliceAt
     simp[run_underlying hu,Instr.sureAddr,Instr.sliceBounds,run_sizeOf hi,Addr.add]
    ·have hlen:((l.take n).map fun x=>[x]).length=n:=by simp;omega
     have:=Rep.slice (lim:=gh.lim) (h:=w.heap) b off n 1 ((l.take n).map fun x=>[x]) (fun j=>vs.getD j undef) (by omega) (fun i r hr=>by
      simp only[List.getElem?_map] at hr
      cases hq:(l.take n)[i]? with
      | none=>rw[hq] at hr;cases hr
      | some y=>rw[hq] at hr;simp at hr;subst hr;rfl) (fun j hj=>by
       have hj':j < vs.length:=by rw[hr.1];omega
       have:=hcell j vs[j] (by simp[hj'])
       simpa[List.getD,hj'] using this) (fun i j r x h2 h3=>by
       simp only[List.getElem?_map] at h2
       cases hq:(l.take n)[i]? with
       | none=>rw[hq] at h2;cases h2
       | some y=>
        rw[hq] at h2;simp at h2;subst h2
        cases j with
        | succ j=>simp at h3
        | zero=>
         simp at h3;subst h3
         rw[List.getElem?_take] at hq
         split at hq
         ·have:=hr.2 i y hq
          simpa using this
         ·cases hq)
     rwa[hlen] at this
   ·cases h
  ·cases h
 ·cases h

theorem flat_rep {lim:Lim} {h:Array Obj} {v:Value} {y:AV} (r:Rep lim h v y):v.cells.size=(flat y).length→RepL lim h v.cells.toList (flat y):=by
 intro _
 cases y with
 | agg l=>
  obtain ⟨cs,rfl,hr⟩:=Rep.agg_iff.1 r
  exact hr
 | _=>
  have hone:v.cells=#[v]:=by cases r<;>rfl
  rw[hone]
  exact RepL.cons r (RepL.nil _ _)

theorem flat_len {lim:Lim} {h:Array Obj} {v:Value} {y:AV} (r:Rep lim h v y):v.cells.size=(flat y).length:=by
 cases y with
 | agg l=>
  obtain ⟨cs,rfl,hr⟩:=Rep.agg_iff.1 r
  simpa[Value.cells,flat] using hr.1
 | _=>
  have hone:v.cells=#[v]:=by cases r<;>rfl
  rw[hone]
  rfl

theorem flatRep {lim:Lim} {h:Array Obj} {v:Value} {y:AV} (r:Rep lim h v y):RepL lim h v.cells.toList (flat y):=flat_rep r (flat_len r)

theorem fill_part (cells:Array Value) (vs:Array Value) (off:Nat) (h:off+vs.size≤cells.size):
  vs.zipIdx.foldl (fun cs (c,j)=>cs.setIfInBounds (off+j) c) cells=(cells.toList.take off++vs.toList++cells.toList.drop (off+vs.size)).toArray:=by
 have key:∀ (l:List Value) (k:Nat) (cells:Array Value),off+k+l.length≤cells.size →
   (l.zipIdx k).foldl (fun (cs:Array Value) (p:Value×Nat)=>cs.setIfInBounds (off+p.2) p.1) cells=(cells.toList.take (off+k)++l++cells.toList.drop (off+k+l.length)).toArray:=by
  intro l
  induction l with
  | nil=>intro k cells _;simp
  | cons v l ih=>
   intro k cells hk
   simp only[List.length_cons] at hk
   rw[List.zipIdx_cons,List.foldl_cons,ih (k+1) _ (by simp;omega)]
   have hlt:off+k < cells.toList.length:=by simp;omega
   apply Array.ext'
   simp only[Array.toList_setIfInBounds,List.append_assoc,List.length_cons]
   rw[show off+(k+1)=off+k+1 by omega,List.take_succ_eq_append_getElem (by simpa using hlt)]
   rw[List.drop_set_of_lt (by omega)]
   simp[List.take_set_of_le,show off+k+1+l.length=off+k+(l.length+1) by omega]
 have:=key vs.toList 0 cells (by simpa using h)
 rw[←Array.foldl_toList,Array.toList_zipIdx]
 simpa using this


theorem fill_sound {P:Program} {gh:Gh} {h:Array Obj} {t:Nat} {ρ:Operand→Value} {e:Operand→TV} (he:∀ x,TRep gh h (ρ x) (e x)) (pl:Nat→Option (Nat×Nat))
  (hpl:∀ i o,foff P t i=some o→pl i=some (o,esz P (ftyp P t i))):
  ∀ (parts:List (Nat×Operand)) (cells cells':List AV) (c:Prop) (cs:Array Value) (ns:List Nat),fillA P t e parts cells=some (cells',c)→c→RepL gh.lim h cs.toList cells →
   (∀ j∈ns,cs[j]? = some (.slice none 0 0)) →
   ∃ cs',Instr.fill pl cs (parts.map fun p=>(p.1,ρ p.2))=some cs'∧RepL gh.lim h cs'.toList cells'∧∀ j∈nilsLeft P t parts ns,cs'[j]? = some (.slice none 0 0):=by
 intro parts
 induction parts with
 | nil=>
  intro cells cells' c cs ns h1 h2 h3 h4
  simp only[fillA,Option.some.injEq,Prod.mk.injEq] at h1
  obtain ⟨rfl,rfl⟩:=h1
  exact ⟨cs,rfl,h3,h4⟩
 | cons p parts ih=>
  obtain ⟨i,x⟩:=p
  intro cells cells' c cs ns h1 h2 h3 h4
  simp only[fillA] at h1
  split at h1
  ·rename_i o y ho hy
   have hv:=av_rep (he x) hy
   have hfl:=flat_len hv
   cases hr:fillA P t e parts (splice cells o (flat y)) with
   | none=>rw[hr] at h1;simp at h1
   | some q=>
    rw[hr] at h1
    simp only[Option.map_some,Option.some.injEq,Prod.mk.injEq] at h1
    obtain ⟨h5,h6⟩:=h1
    rw[←h6] at h2
    obtain ⟨⟨hsz,hfit⟩,hq⟩:=h2
    have hcsz:cs.size=cells.length:=by simpa using h3.1
    have hfill:(ρ x).cells.zipIdx.foldl (fun cs (c,j)=>cs.setIfInBounds (o+j) c) cs=(cs.toList.take o++(ρ x).cells.toList++cs.toList.drop (o+(ρ x).cells.size)).toArray:=
     fill_part cs (ρ x).cells o (by omega)
    have hrep:RepL gh.lim h (cs.toList.take o++(ρ x).cells.toList++cs.toList.drop (o+(ρ x).cells.size)).toArray.toList (splice cells o (flat y)):=by
     unfold splice
     rw[←hfl]
     exact ((h3.take o).append (flatRep hv)).append (h3.drop _)
    obtain ⟨cs',g1,g2,g3⟩:=ih (splice cells o (flat y)) q.1 q.2 _ (ns.filter fun j=>match foff P t i with|some o=>!(decide (o≤j)&&decide (j < o+esz P (ftyp P t i)))|none=>false) hr hq hrep (fun j hj=>by
     obtain ⟨hj1,hj2⟩:=List.mem_filter.1 hj
     rw[ho] at hj2
     simp only[Bool.not_eq_true',Bool.and_eq_false_iff,decide_eq_false_iff_not] at hj2
     have h7:=h4 j hj1
     have hjlt:j < cs.size:=(Array.getElem?_eq_some_iff.1 h7).1
     have htl:(cs.toList.take o).length=o:=by simp;omega
     have hvl:(ρ x).cells.toList.length=esz P (ftyp P t i):=by rw[Array.length_toList,hfl,hsz]
     rw[List.getElem?_toArray]
     rcases Nat.lt_or_ge j o with hlt|hge
     ·rw[List.append_assoc,List.getElem?_append_left (by omega),List.getElem?_take,if_pos hlt]
      simpa using h7
     ·have hge2:o+esz P (ftyp P t i)≤j:=by omega
      rw[List.getElem?_append_right (by rw[List.length_append,htl,hvl];omega),List.getElem?_drop,List.length_append,htl,hvl]
      have hvl':(ρ x).cells.size=esz P (ftyp P t i):=by rw[hfl,hsz]
      rw[hvl',show o+esz P (ftyp P t i)+(j - (o+esz P (ftyp P t i)))=j by omega]
      simpa using h7)
    refine ⟨cs',?_,h5▸g2,g3⟩
    simp only[List.map_cons,Instr.fill,hpl i o ho]
    rw[if_neg (by rw[hfl,hsz];simp;omega),hfill]
    exact g1
  ·cases h1

theorem azero_spec {P:Program} {t:Nat} {cells:List AV} (h:azero P t=some cells) (gh:Gh) (hp:Array Obj):∃ i z,P.info? t=some i∧i.zero=some z∧z.cells.size=i.size∧RepL gh.lim hp z.cells.toList cells∧∀ j∈nilPos P t,z.cells[j]? = some (.slice none 0 0):=by
 unfold azero at h
 cases hi:P.info? t with
 | none=>rw[hi] at h;simp at h
 | some i=>
  cases hz:i.zero with
  | none=>rw[hi] at h;simp[hz] at h
  | some z=>
   simp only[hi,Option.bind_some,hz] at h
   split at h
   ·rename_i hc
    simp only[Bool.and_eq_true,List.all_eq_true,beq_iff_eq] at hc
    injection h with h
    subst h
    refine ⟨i,z,rfl,hz,by rw[hc.2];simp[esz,hi],⟨by simp,fun j x hx=>?_⟩,fun j hj=>?_⟩
    ·simp only[List.getElem?_map] at hx
     cases hv:z.cells.toList[j]? with
     | none=>rw[hv] at hx;cases hx
     | some v=>
      rw[hv] at hx
      simp only[Option.map_some,Option.some.injEq] at hx
      have hmem:=hc.1 v (List.mem_of_getElem? hv)
      have hrep:=cv_rep gh hp v
      rw[List.getD_eq_getElem?_getD,hv]
      subst hx
      unfold cvA
      split at hmem
      ·rename_i y g hcv
       rw[hcv] at hrep
       exact hrep.1
      ·cases hmem
    ·simp only[nilPos,hi,Option.bind_some,hz] at hj
     obtain ⟨_,h2⟩:=List.mem_filter.1 hj
     revert h2
     cases z.cells[j]? with
     | none=>intro h2;cases h2
     | some v=>
      intro h2
      split at h2
      ·rename_i h3;injection h3 with h3;rw[h3]
      ·cases h2
   ·cases h

def knownF (P:Program) (t:Nat):Bool:=
 match P.underlying t with
 | some (.struct fs)=>fs.toList.all fun f=>(P.info? f.type).isSome
 | _=>false

theorem places_of {P:Program} {t:Nat} {fs:Array Field} (hu:P.underlying t=some (.struct fs)) (hk:knownF P t=true):
  ∃ places,fs.toList.mapM (fun f=>(P.info? f.type).map fun i=>(f.offset,i.size))=some places∧∀ i o,foff P t i=some o→places.toArray[i]? = some (o,esz P (ftyp P t i)):=by
 simp only[knownF,hu] at hk
 have key:∀ (l:List Field),(l.all fun f=>(P.info? f.type).isSome)=true→l.mapM (fun f=>(P.info? f.type).map fun i=>(f.offset,i.size))=some (l.map fun f=>(f.offset,esz P f.type)):=by
  intro l
  induction l with
  | nil=>intro _;rfl
  | cons f l ih=>
   intro h
   simp only[List.all_cons,Bool.and_eq_true] at h
   obtain ⟨i,hi⟩:=Option.isSome_iff_exists.1 h.1
   simp[List.mapM_cons,hi,ih h.2,esz]
 refine ⟨_,key _ hk,fun i o ho=>?_⟩
 obtain ⟨fs',x,hu',hx,hne,hox,hft⟩:=foff_spec ho
 rw[hu] at hu'
 injection hu' with hu'
 injection hu' with hu'
 subst hu'
 simp[hx,hox,hft]

end Go.Pv
end

section
/- One operation: what it does to the abstract state (opR), and that it does so. -/
namespace Go.Pv
open Go

def row (l:List (List AV)) (i:Nat):List AV:=(l[i]?).getD []

def tagAt (tb:List (Nat×Nat×Nat×Nat)) (k j:Nat):Option (Nat×Nat):=
 match tb with
 | []=>none
 | q :: r=>if q.1=k∧q.2.1=j then some q.2.2 else tagAt r k j

def retag (g:Option (Nat×Nat)):OR→OR
 | .val c (.v x none)=>.val c (.v x g)
 | r=>r

def isNil:Value→Bool
 | .slice none 0 0=>true
 | _=>false

def assignR (gl:Gl) (σ:AS) (d:Option Nat) (x:Operand):OR:=
 match x with
 | .const v=>
  if isNil v then
   match d with
   | some d=>
    match look d σ.hint with
    | some el=>if σ.usesB d then .val True (.v (.slice []) none) else .eff True (σ.put (some d) (.v (.slice []) (some (d,el))))
    | none=>.val True (.v (.slice []) none)
   | none=>.val True (.v (.slice []) none)
  else .val True (cv v)
 | x=>.val True (ev gl σ x)

def fieldAddrR (o:Option Nat):TV→OR
 | .lp k off=>match o with|some i=>.val True (.lp k (off+i))|none=>.stuck
 | .v (.ro l) _=>match o with|some i=>.val True (.v (.ro (l.drop i)) none)|none=>.stuck
 | .v (.gp b off) _=>match o with|some i=>.val True (.v (.gp b (off+i)) none)|none=>.stuck
 | _=>.stuck

def indexAddrR (P:Program) (t:Nat):Option AV→Option AV→OR
 | some (.slice l),some (.int _ n)=>
  match elemT P t with
  | some e=>.val ((0≤n∧n < l.length)∧(row l n.toNat).length=esz P e) (.v (.ro (row l n.toNat)) none)
  | none=>.stuck
 | _,_=>.stuck

def loadOpR (P:Program) (σ:AS) (t:Nat):TV→OR
 | .v (.ro l) _=>loadR P t l
 | .lp k off=>match look k σ.bx with
  | some cells=>match aggO P t with
   | some true=>loadR P t (cells.drop off)
   | some false=>retag (tagAt σ.tb k off) (loadR P t (cells.drop off))
   | none=>.stuck
  | none=>.stuck
 | .v (.gp b off) _=>match look b σ.sh with
  | some cells=>loadR P t (cells.drop off)
  | none=>.stuck
 | _=>.stuck

def indexR (P:Program) (t:Nat):Option AV→Option AV→OR
 | some (.str l),some (.int _ n)=>if (P.underlying t matches some .string) then .val (0≤n∧n < l.length) (.v (.int .u8 (((l[n.toNat]?).getD 0).toNat:Int)) none) else .stuck
 | _,_=>.stuck

def nilCheckR:TV→OR
 | .lp k off=>.val True (.lp k off)
 | .v (.ro l) g=>.val True (.v (.ro l) g)
 | .v (.gp b o) g=>.val True (.v (.gp b o) g)
 | _=>.stuck

def strT (P:Program) (t:Nat):Bool:=P.underlying t matches some .string
def bytesT (P:Program) (t:Nat):Bool:=
 match P.underlying t with
 | some (.slice e)=>(P.underlying e matches some (.int .u8))
 | _=>false
def rowNums:List (List AV)→Option (List Int)
 | []=>some []
 | [.int .u8 n] :: r=>(rowNums r).map (n :: ·)
 | _=>none
theorem rowNums_spec:∀ {rows:List (List AV)} {l:List Int},rowNums rows=some l→rows=l.map fun n=>[.int .u8 n]
 | [],l,h=>by simp only[rowNums,Option.some.injEq] at h;subst h;rfl
 | r :: rows,l,h=>by
  unfold rowNums at h
  split at h
  ·cases h
   rename_i he
   cases he
  ·rename_i n r' he
   cases he
   cases hq:rowNums rows with
   | none=>rw[hq] at h;cases h
   | some m=>rw[hq] at h;simp only[Option.map_some,Option.some.injEq] at h;subst h;rw[rowNums_spec hq];rfl
  ·cases h

def convertR (P:Program) (src dst:Nat):Option AV→OR
 | some (.int _ n)=>match P.underlying src,ikind P dst with
  | some _,some k=>.val True (.v (.int k (k.wrap n)) none)
  | _,_=>.stuck
 | some (.slice rows)=>if bytesT P src&&strT P dst then
   match rowNums rows with
   | some l=>.val True (.v (.str (l.map fun n=>UInt8.ofNat n.toNat)) none)
   | none=>.stuck
  else .stuck
 | some (.str s)=>if strT P dst&&(P.underlying src).isSome then .val True (.v (.str s) none) else .stuck
 | _=>.stuck

def buildR (P:Program) (t:Nat) (e:Operand→TV) (parts:List (Nat×Operand)):OR:=
 if knownF P t then
  match azero P t with
  | some z=>match fillA P t e parts z with
   | some q=>.val q.2 (.bld q.1 (nilsLeft P t parts (nilPos P t)))
   | none=>.stuck
  | none=>.stuck
 else .stuck

def makeFuncR (fn:Fn) (first:Option (List AV)) (caps:Option (List AV)):OR:=
 match fn,first,caps with
 | .func f,some [],some l=>.val True (.v (.func f l) none)
 | .func f,some (x :: r),some []=>.val True (.v (.bfn f (x :: r)) none)
 | _,_,_=>.stuck

def lps (e:Operand→TV):List Operand→Option (List Nat)
 | []=>some []
 | x :: r=>match e x,lps e r with
  | .lp k 0,some l=>some (k :: l)
  | _,_=>none
def makeClR (fn:Fn) (first:Array Operand) (caps:Option (List Nat)):OR:=
 match fn,caps with
 | .func f,some l=>if first.size=0 then .val True (.cl f l) else .stuck
 | _,_=>.stuck

def makeIfaceR (P:Program) (t:Nat):Option AV→OR
 | some x=>if P.concrete t then .val True (.v (.iface t x) none) else .stuck
 | none=>.stuck

def extractR (i:Nat):Option AV→OR
 | some (.tup l)=>match l[i]? with
  | some x=>.val True (.v x none)
  | none=>.stuck
 | _=>.stuck

def noCl (k:Nat):List (Nat×TV)→Bool
 | []=>true
 | (_,.cl _ ks) :: r=>!ks.contains k&&noCl k r
 | (_,.un) :: r|(_,.v _ _) :: r|(_,.bld _ _) :: r|(_,.it _) :: r|(_,.lp _ _) :: r=>noCl k r
theorem noCl_spec {k:Nat}:∀ {tm:List (Nat×TV)},noCl k tm=true→∀ t f ks,look t tm=some (.cl f ks)→k∉ks
 | [],_,t,f,ks,h=>by cases h
 | (j,x) :: r,hl,t,f,ks,h=>by
  simp only[look] at h
  cases x<;>simp only[noCl,Bool.and_eq_true] at hl
  case cl f' ks'=>
   split at h
   ·injection h with h;injection h with h1 h2;subst h2
    intro hk
    have:=hl.1
    simp[hk] at this
   ·exact noCl_spec hl.2 t f ks h
  all_goals
   split at h
   ·injection h with h;cases h
   ·exact noCl_spec hl t f ks h

def noClP (k:Nat) (tm:List (Nat×TV)):Prop:=∀ t f ks,look t tm=some (.cl f ks)→k∉ks
theorem noClP_of {k:Nat} {tm:List (Nat×TV)} (h:noCl k tm=true):noClP k tm:=noCl_spec h

def boxR (σ:AS) (d:Option Nat):TV→OR
 | .bld l ns=>match d with
  | some k=>match look k σ.bx with
   | none=>.eff (noClP k σ.tm∧l.all AV.one=true) (AS.openB ({ σ with bx:=(k,l) :: σ.bx }.put (some k) (.lp k 0)) k σ.hint ns)
   | some _=>.stuck
  | none=>.stuck
 | .v x _=>match d with
  | some k=>match look k σ.bx with
   | none=>.eff (noClP k σ.tm∧(flat x).all AV.one=true) ({ σ with bx:=(k,flat x) :: σ.bx }.put (some k) (.lp k 0))
   | some _=>.stuck
  | none=>.stuck
 | _=>.stuck

def allocR (P:Program) (σ:AS) (d:Option Nat) (t:Nat):OR:=
 match azero P t,d with
 | some z,some k=>match look k σ.bx with
  | none=>.eff (noClP k σ.tm) (AS.openB ({ σ with bx:=(k,z) :: σ.bx }.put (some k) (.lp k 0)) k σ.hint (nilPos P t))
  | some _=>.stuck
 | _,_=>.stuck

def tagOf:TV→Option (Nat×Nat)
 | .v _ g=>g
 | _=>none
def nsOf:TV→List Nat
 | .bld _ ns=>ns
 | _=>[]

def storeR (P:Program) (σ:AS) (t:Nat) (a x:TV):OR:=
 match x.av with
 | none=>.stuck
 | some y=>
  match a with
  | .lp k off=>match look k σ.bx with
   | some cells=>.eff ((flat y).length=esz P t∧off+(flat y).length≤cells.length∧(flat y).all AV.one=true)
     (AS.openB { σ with bx:=(k,splice cells off (flat y)) :: σ.bx,tb:=tbOf k off (tagOf x)++clr σ.tb k off (esz P t) } k σ.hint ((nsOf x).map (off+·)))
   | none=>.stuck
  | .v (.gp b off) _=>match look b σ.sh with
   | some cells=>.eff ((flat y).length=esz P t∧off+(flat y).length≤cells.length∧(flat y).all AV.one=true) { σ with sh:=(b,splice cells off (flat y)) :: σ.sh }
   | none=>.stuck
  | _=>.stuck

def rowsOf (e:Operand→TV):Nat→List (Nat×Operand)→Option (List (List AV))
 | _,[]=>some []
 | i,(j,x) :: r=>if i=j then
   match (e x).av,rowsOf e (i+1) r with
   | some y,some l=>some (flat y :: l)
   | _,_=>none
  else none

def buildSliceR (P:Program) (σ:AS) (d:Option Nat) (t len:Nat) (rows:Option (List (List AV))):OR:=
 match elemT P t,rows with
 | some e,some l=>if len * esz P e≤16777216∧l.length=len∧(azero P e).isSome=true∧esz P e≠0 then
   match d with
   | some k=>match look k σ.hint with
    | some el=>if σ.usesB k=false∧el=e then .eff (Rows (esz P e) l) (σ.put (some k) (.v (.slice l) (some (k,e)))) else .val (Rows (esz P e) l) (.v (.slice l) none)
    | none=>match look (300000+k) σ.hint with
     | some _=>.val (Rows (esz P e) l) (.v (.slX l) none)
     | none=>.val (Rows (esz P e) l) (.v (.slice l) none)
   | none=>.stuck
  else .stuck
 | _,_=>.stuck

def appOk (P:Program) (e:Nat):Bool:=
 match P.info? e with
 | some i=>match i.zero with
  | some z=>z.cells.size==i.size&&i.bytes != 0
  | none=>false
 | none=>false

def appendR (P:Program) (σ:AS) (d:Option Nat) (t:Nat) (s:TV) (x:Option AV):OR:=
 match s,x,elemT P t with
 | .v (.slice l) (some (g,el)),some (.slice ys),some e=>
  if el=e∧appOk P e=true then
   .eff ((Rows (esz P e) l∧Rows (esz P e) ys)∧(l.length+ys.length) * ebytes P e≤140737488355328) ((σ.purge g).put d (.v (.slice (l++ys)) (some (g,e))))
  else .stuck
 | .v (.slX l) _,some (.slice ys),some e=>
  if appOk P e=true∧esz P e≠0 then
   .eff ((l≠[]∧Rows (esz P e) l∧Rows (esz P e) ys)∧(l.length+ys.length) * ebytes P e≤140737488355328) (σ.put d (.v (.slice (l++ys)) none))
  else .stuck
 | _,_,_=>.stuck

def evN (gl:Gl) (σ:AS) (x:Operand):TV:=
 match x with
 | .const (.slice none 0 0)=>if (look 400000 σ.hint).isSome then .v .nilS none else ev gl σ x
 | _=>ev gl σ x
theorem evN_nohint {gl:Gl} {σ:AS} (h:σ.hint=[]) (x:Operand):evN gl σ x=ev gl σ x:=by
 unfold evN
 split
 ·rw[h];rfl
 ·rfl

def callR (P:Program) (gl:Gl) (σ:AS) (d:Option Nat) (c:Call):OR:=
 match c.callee with
 | .value f=>match ev gl σ f,avs (evN gl σ) c.args.toList with
  | .v (.func g caps) _,some l=>.call g (l++caps)
  | .v (.yld l) _,some [x]=>.yld l x
  | .cl g ks,some l=>.callB g l ks
  | .v (.bfn g fs) _,some l=>.call g (fs++l)
  | _,_=>.stuck
 | .builtin b=>
  match b,c.args.toList,c.argTypes.toList with
  | .len,[x],[t]=>lenR P t (ev gl σ x).av
  | .max,[x,y],_=>mxR true (ev gl σ x).av (ev gl σ y).av
  | .min,[x,y],_=>mxR false (ev gl σ x).av (ev gl σ y).av
  | .append,[s,x],[t,t']=>if t=t' then appendR P σ d t (ev gl σ s) (ev gl σ x).av else .stuck
  | _,_,_=>.stuck
 | .invoke _ _=>.stuck

def orR:OR→OR→OR
 | .stuck,r=>r
 | r,_=>r

def froz (σ:AS) (d:Option Nat):Bool:=
 match d with
 | some k=>(look (200000+k) σ.hint).isSome
 | none=>false

def frozR:TV→OR
 | .v y _=>.val True (.v (.ro (flat y)) none)
 | _=>.stuck

def rangeR (P:Program) (σ:AS) (d:Option Nat) (t:Nat) (x:Option AV):OR:=
 match P.underlying t,d,x with
 | some .string,some k,some (.str s)=>.eff True { σ with tm:=(k,.it (.str s 0)) :: σ.tm }
 | _,_,_=>.stuck

def dec (s:List UInt8) (p:Nat):Nat×Nat:=Utf8.decode ⟨s.toArray⟩ p

def nextR (σ:AS) (d:Option Nat) (x:Operand) (str:Bool):OR:=
 match x,str with
 | .tmp t,true=>match look t σ.tm with
  | some (.it (.str s p))=>if p < s.length
   then .eff (¬ t∈σ.fx) ({ σ with tm:=(t,.it (.str s (p+(dec s p).2))) :: σ.tm }.put d (.v (.tup [.bool true,.int .i64 p,.int .i32 (dec s p).1]) none))
   else .eff True (σ.put d (.v (.tup [.bool false]) none))
  | _=>.stuck
 | _,_=>.stuck

def fieldR (P:Program) (t i:Nat):Option AV→OR
 | some (.agg l)=>match foff P t i with
  | some off=>loadR P (ftyp P t i) (l.drop off)
  | none=>.stuck
 | _=>.stuck

def opR (P:Program) (gl:Gl) (σ:AS) (o:Oper):OR:=
 match o.op with
 | .move x=>.val True (ev gl σ x)
 | .assign x=>assignR gl σ o.dst x
 | .pick c a b=>pickR (ev gl σ c).av (ev gl σ a).av (ev gl σ b).av
 | .binOp op t x y _=>orR (binR op (ev gl σ x).av (ev gl σ y).av) (orR (eqR P op t (isC x || isC y) (ev gl σ x).av (ev gl σ y).av) (nilSR P op t (isNilS y) (ev gl σ x).av))
 | .unOp op _ x=>unR op (ev gl σ x).av
 | .fieldAddr t x f=>fieldAddrR (foff P t f) (ev gl σ x)
 | .indexAddr t x i=>indexAddrR P t (ev gl σ x).av (ev gl σ i).av
 | .load t x=>loadOpR P σ t (ev gl σ x)
 | .index t x i=>indexR P t (ev gl σ x).av (ev gl σ i).av
 | .slice t x lo hi none=>sliceR P t (ev gl σ x).av (lo.map fun y=>(ev gl σ y).av) (hi.map fun y=>(ev gl σ y).av)
 | .nilCheck x=>nilCheckR (ev gl σ x)
 | .convert src dst x=>convertR P src dst (ev gl σ x).av
 | .build t parts=>buildR P t (ev gl σ) parts.toList
 | .makeFunc fn first caps=>orR (makeFuncR fn (avs (ev gl σ) first.toList) (avs (ev gl σ) caps.toList)) (makeClR fn first (lps (ev gl σ) caps.toList))
 | .makeInterface t x=>makeIfaceR P t (ev gl σ x).av
 | .extract x i=>extractR i (ev gl σ x).av
 | .box _ x=>if froz σ o.dst then frozR (ev gl σ x) else boxR σ o.dst (ev gl σ x)
 | .alloc t=>allocR P σ o.dst t
 | .store t a x=>storeR P σ t (ev gl σ a) (ev gl σ x)
 | .buildSlice t len parts=>buildSliceR P σ o.dst t len (rowsOf (ev gl σ) 0 parts.toList)
 | .call c=>callR P gl σ o.dst c
 | .range t x=>rangeR P σ o.dst t (ev gl σ x).av
 | .next x str=>nextR σ o.dst x str
 | .field t x i=>fieldR P t i (ev gl σ x).av
 | _=>.stuck

def ValOk (cx:Cx) (σ:AS) (a:Act) (w:World) (o:Oper) (x:TV):Prop:=
 ∃ v w' gh',(execOp a.eval o).run cx.P w=.ok (.value v) w'∧RR cx gh' σ a w'∧TRep gh' w'.heap v x∧(∀ k off,x=.lp k off→(look k σ.bx).isSome=true)∧∀ y g e,x=.v y (some (g,e))→σ.uses g e

def EffOk (cx:Cx) (a:Act) (w:World) (o:Oper) (σ':AS):Prop:=
 (∃ v w',(execOp a.eval o).run cx.P w=.ok (.value v) w'∧R cx σ' (a.put o.dst v) w') ∨
 (∃ w',(execOp a.eval o).run cx.P w=.ok .skip w'∧R cx σ' (a.put o.dst undef) w')

theorem ValOk.of_yl {cx:Cx} {gh:Gh} {σ:AS} {a:Act} {w:World} {o:Oper} {x:TV} {s:Sem Value} (r:RR cx gh σ a w) (he:execOp a.eval o=(do pure (.value (← s)))) (h:Yl cx.P gh w s x)
  (h1:∀ k off,x=.lp k off→(look k σ.bx).isSome=true) (h2:∀ y g e,x=.v y (some (g,e))→σ.uses g e):ValOk cx σ a w o x:=by
 obtain ⟨v,hv,hr⟩:=h
 exact ⟨v,w,gh,by rw[he];simp[hv],r,hr,h1,h2⟩

def TV.plain:TV→Prop
 | .v _ none | .un | .bld _ _ | .cl _ _=>True
 | _=>False

theorem TV.plain_lp {x:TV} (h:x.plain) (k off:Nat):x≠.lp k off:=fun e=>by subst e;exact h
theorem TV.plain_v {x:TV} (h:x.plain) (y:AV) (p:Nat×Nat):x≠.v y (some p):=fun e=>by subst e;exact h

theorem ValOk.of_plain {cx:Cx} {gh:Gh} {σ:AS} {a:Act} {w:World} {o:Oper} {x:TV} {s:Sem Value} (r:RR cx gh σ a w) (he:execOp a.eval o=(do pure (.value (← s)))) (h:Yl cx.P gh w s x) (hp:TV.plain x):ValOk cx σ a w o x:=
 .of_yl r he h (fun k off e=>absurd e (TV.plain_lp hp k off)) (fun y g e h=>absurd h (TV.plain_v hp y (g,e)))

end Go.Pv
end

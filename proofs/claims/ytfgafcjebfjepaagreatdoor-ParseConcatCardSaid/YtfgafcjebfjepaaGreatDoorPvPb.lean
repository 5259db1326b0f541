import Derived.Test.YtfgafcjebfjepaaGreatDoorPvLa
import Derived.Below
import Derived.Lib.Bytealg
import Derived.Lib.Join
import Derived.Lib.LastIndexByte
import Derived.Test.YtfgafcjebfjepaaGreatDoorPvOe
set_option linter.all false
section
/- Tokens: their cells; which are alike. -/
namespace Go.Pv
open Go

abbrev Tk:=Int×List UInt8×Int
def encK (x:Tk):List AV:=[.int .i64 x.1,.str x.2.1,.int .i64 x.2.2]
theorem encK_cells (x:Tk):(encK x).length=3∧(encK x).all AV.one=true:=⟨rfl,rfl⟩
def kq (x y:Tk):Bool:=x.1==y.1&&x.2.1==y.2.1
def alk:List Tk→List Tk→Bool
 | [],[]=>true
 | x :: a,y :: b=>kq x y&&alk a b
 | _,_=>false

theorem valid_two {P:Program} {gl:Gl} {f:FuncId} {x y r:AV} {vx vy v:Value} (hok:fnOk P f=true) (hx:∀ lim h u,Rep lim h u x→u=vx) (hy:∀ lim h u,Rep lim h u y→u=vy) (hr:∀ lim h,Rep lim h v r)
  (h:∀ w,Calls P f #[vx,vy] w fun e w'=>e=.returned v∧w'=w):Valid P gl f [x,y] r:=by
 refine valid_calls hok fun lim w cargs hargs=>?_
 obtain ⟨u,u',rfl⟩:∃ u u',cargs=[u,u']:=by
  have:=hargs.1
  match cargs,this with
  | [v,u],_=>exact ⟨v,u,rfl⟩
 obtain rfl:=hx _ _ _ hargs.head
 obtain rfl:=hy _ _ _ hargs.tail.head
 refine (h w).mono fun e w'=>?_
 rintro ⟨rfl,rfl⟩
 exact ⟨_,rfl,RowKit.Below.refl _ _,fun lim' _=>hr lim' _⟩

def wc (c:UInt8):Bool:=decide (1≤clsI c.toNat)&&decide (clsI c.toNat≤3)
def wordN:List UInt8→Nat
 | []=>0
 | c :: s=>if wc c then 1+wordN s else 0
theorem wordN_cons (c:UInt8) (s:List UInt8):wordN (c :: s)=if wc c then 1+wordN s else 0:=rfl
theorem wordN_le:∀ s:List UInt8,wordN s≤s.length
 | []=>Nat.le_refl _
 | c :: s=>by
  rw[wordN_cons]
  have:=wordN_le s
  split<;>simp<;>omega

theorem indexByte_lt:∀ (l:List UInt8) (c:UInt8),Lib.indexByte l c < l.length∨l=[]
 | [],_=>.inr rfl
 | b :: l,c=>by
  left
  unfold Lib.indexByte
  rcases indexByte_lt l c with h|rfl
  ·split
   ·simp
   ·split<;>simp<;>omega
  ·split<;>simp[Lib.indexByte]
theorem indexByte_pos (c:UInt8) (r:List UInt8) (h:Lib.hasPrefix (c :: r) [47,47]=true):Lib.indexByte (c :: r) 10≠0:=by
 have hc:c=47:=by
  simp only[Lib.hasPrefix,List.isPrefixOf,Bool.and_eq_true,beq_iff_eq] at h
  exact h.1.symm
 subst hc
 have:=Lib.indexByte_ge r 10
 unfold Lib.indexByte
 rw[if_neg (by decide)]
 split<;>rename_i h1
 ·decide
 ·simp at h1;omega

def signs:List UInt8:=[40,41,91,93,123,125,46,44,59,61,95]
def lxA:Nat→List Tk→Nat→List UInt8→Option (List Tk)×Nat
 | 0,_,k,_=>(none,k)
 | _+1,out,k,[]=>(some (out++[(3,[],(k:Int))]),0)
 | n+1,out,k,c :: r=>
  if clsI c.toNat=4 then lxA n out (k+1) r
  else if Lib.hasPrefix (c :: r) [47,47]=true then
   if Lib.indexByte (c :: r) 10 < 0 then (some (out++[(3,[],((k+(r.length+1):Nat):Int))]),0)
   else lxA n out (k+(Lib.indexByte (c :: r) 10).toNat) ((c :: r).drop (Lib.indexByte (c :: r) 10).toNat)
  else if clsI c.toNat=1 then lxA n (out++[(1,(c :: r).take (wordN (c :: r)),(k:Int))]) (k+wordN (c :: r)) ((c :: r).drop (wordN (c :: r)))
  else if 0≤Lib.indexByte signs c then lxA n (out++[(2,[c],(k:Int))]) (k+1) r
  else (none,k)
def lexT (s:List UInt8):Option (List Tk)×Nat:=if s.length≤65536 then lxA (s.length+1) [] 0 s else (none,65536)
def lexV (ft:Nat) (x:Option (List Tk)×Nat):AV:=match x.1 with
 | some l=>.tup [.slice (l.map encK),.nilIface]
 | none=>.tup [.slice [],.iface ft (.agg [.int .i64 1,.int .i64 x.2])]

section
variable {n k:Nat} {out:List Tk} {s:List UInt8}
theorem lxA_sp (h:k < s.length) (h1:clsI s[k].toNat=4):lxA (n+1) out k (s.drop k)=lxA n out (k+1) (s.drop (k+1)):=by
 rw[List.drop_eq_getElem_cons h,lxA,if_pos h1]
theorem lxA_com0 (h:k < s.length) (h1:¬ clsI s[k].toNat=4) (h2:Lib.hasPrefix (s.drop k) [47,47]=true) (h3:Lib.indexByte (s.drop k) 10 < 0):lxA (n+1) out k (s.drop k)=(some (out++[(3,[],(s.length:Int))]),0):=by
 have hl:(s.drop (k+1)).length=s.length - (k+1):=List.length_drop
 rw[List.drop_eq_getElem_cons h] at h2 h3 ⊢
 rw[lxA,if_neg h1,if_pos h2,if_pos h3,hl,show k+(s.length - (k+1)+1)=s.length by omega]
theorem lxA_com (h:k < s.length) (h1:¬ clsI s[k].toNat=4) (h2:Lib.hasPrefix (s.drop k) [47,47]=true) (h3:0≤Lib.indexByte (s.drop k) 10):lxA (n+1) out k (s.drop k)=lxA n out (k+(Lib.indexByte (s.drop k) 10).toNat) (s.drop (k+(Lib.indexByte (s.drop k) 10).toNat)):=by
 rw[←List.drop_drop]
 rw[List.drop_eq_getElem_cons h] at h2 h3 ⊢
 rw[lxA,if_neg h1,if_pos h2,if_neg (by omega)]
theorem lxA_word (h:k < s.length) (h1:¬ clsI s[k].toNat=4) (h2:Lib.hasPrefix (s.drop k) [47,47]=false) (h3:clsI s[k].toNat=1):lxA (n+1) out k (s.drop k)=lxA n (out++[(1,(s.drop k).take (wordN (s.drop k)),(k:Int))]) (k+wordN (s.drop k)) (s.drop (k+wordN (s.drop k))):=by
 rw[←List.drop_drop]
 rw[List.drop_eq_getElem_cons h] at h2 ⊢
 rw[lxA,if_neg h1,if_neg (by rw[h2];decide),if_pos h3]
theorem lxA_sign (h:k < s.length) (h1:¬ clsI s[k].toNat=4) (h2:Lib.hasPrefix (s.drop k) [47,47]=false) (h3:¬ clsI s[k].toNat=1) (h4:0≤Lib.indexByte signs s[k]):lxA (n+1) out k (s.drop k)=lxA n (out++[(2,[s[k]],(k:Int))]) (k+1) (s.drop (k+1)):=by
 rw[List.drop_eq_getElem_cons h] at h2 ⊢
 rw[lxA,if_neg h1,if_neg (by rw[h2];decide),if_neg h3,if_pos h4]
theorem lxA_bad (h:k < s.length) (h1:¬ clsI s[k].toNat=4) (h2:Lib.hasPrefix (s.drop k) [47,47]=false) (h3:¬ clsI s[k].toNat=1) (h4:Lib.indexByte signs s[k] < 0):lxA (n+1) out k (s.drop k)=(none,k):=by
 rw[List.drop_eq_getElem_cons h] at h2 ⊢
 rw[lxA,if_neg h1,if_neg (by rw[h2];decide),if_neg h3,if_neg (by omega)]
theorem lxA_end (hk:k≤s.length) (h:s.length≤k):lxA (n+1) out k (s.drop k)=(some (out++[(3,[],(s.length:Int))]),0):=by
 rw[List.drop_eq_nil_of_le h,lxA,show k=s.length by omega]
theorem wordN_pos (h:k < s.length) (h3:clsI s[k].toNat=1):0 < wordN (s.drop k):=by
 rw[List.drop_eq_getElem_cons h,wordN_cons,if_pos (by simp[wc,h3])];omega
theorem com_pos (h:k < s.length) (h2:Lib.hasPrefix (s.drop k) [47,47]=true) (h3:0≤Lib.indexByte (s.drop k) 10):0 < (Lib.indexByte (s.drop k) 10).toNat:=by
 rw[List.drop_eq_getElem_cons h] at h2 h3 ⊢
 have:=indexByte_pos _ _ h2
 omega
end

theorem drop_take_one {s:List UInt8} {k:Nat} (h:k < s.length):(s.take (k+1)).drop k=[s[k]]:=by
 rw[List.drop_take,Nat.add_sub_cancel_left,List.drop_eq_getElem_cons h];rfl
theorem drop_take_add (s:List UInt8) (k w:Nat):(s.take (k+w)).drop k=(s.drop k).take w:=by
 rw[List.drop_take,Nat.add_sub_cancel_left]
theorem toNat_add (a b:Nat):((a:Int)+(b:Int)).toNat=a+b:=by omega

def lnS (p:Nat×Nat) (c:UInt8):Nat×Nat:=if c=10 then (p.1+1,1) else (p.1,p.2+1)
def lnR (l:List UInt8):Nat×Nat:=l.foldl lnS (1,1)
end Go.Pv
end

section
/- The lexer's laws in plain lists: the reference's scan, tokens without their places, joined texts, comments. -/
namespace Go.Pv
open Go

def nlN:List UInt8→Nat
 | []=>0
 | c :: s=>if c=10 then 0 else 1+nlN s
theorem nlN_cons (c:UInt8) (s:List UInt8):nlN (c :: s)=if c=10 then 0 else 1+nlN s:=rfl
theorem nlN_le:∀ s:List UInt8,nlN s≤s.length
 | []=>Nat.le_refl _
 | c :: s=>by
  rw[nlN_cons]
  have:=nlN_le s
  split<;>simp<;>omega
theorem indexByte_nl:∀ s:List UInt8,Lib.indexByte s 10=if nlN s < s.length then (nlN s:Int) else -1
 | []=>rfl
 | c :: s=>by
  have ih:=indexByte_nl s
  have hl:=nlN_le s
  unfold Lib.indexByte
  rw[nlN_cons]
  by_cases h:c=10
  ·subst h;simp
  ·have h2:(c==10)=false:=by simpa using h
   rw[h2,ih,if_neg h]
   simp only[List.length_cons,Bool.false_eq_true,if_false]
   by_cases hn:nlN s < s.length
   ·have h3:((nlN s:Int)==-1)=false:=by simp<;>omega
    simp only[hn,if_true,if_pos (show 1+nlN s < s.length+1 by omega),h3,Bool.false_eq_true,if_false]<;>omega
   ·simp only[hn,if_false,if_neg (show ¬ (1+nlN s < s.length+1) by omega)];rfl
section
variable {n k:Nat} {out:List Tk} {s:List UInt8}
theorem pre_iff (h:k < s.length):Lib.hasPrefix (s.drop k) [47,47]=true↔s[k]=47∧∃ h2:k+1 < s.length,s[k+1]=47:=by
 rw[List.drop_eq_getElem_cons h]
 by_cases h2:k+1 < s.length
 ·rw[List.drop_eq_getElem_cons h2]
  simp only[Lib.hasPrefix,List.isPrefixOf,Bool.and_eq_true,beq_iff_eq,h2,exists_true_left,and_true]
  constructor
  ·rintro ⟨a,b⟩;exact ⟨a.symm,b.symm⟩
  ·rintro ⟨a,b⟩;exact ⟨a.symm,b.symm⟩
 ·rw[List.drop_eq_nil_of_le (by omega)]
  simp[Lib.hasPrefix,List.isPrefixOf,h2]
theorem lxA_comR (h:k < s.length) (h1:¬ clsI s[k].toNat=4) (h2:Lib.hasPrefix (s.drop k) [47,47]=true) (hn:0 < n):
  lxA (n+1) out k (s.drop k)=lxA n out (k+nlN (s.drop k)) (s.drop (k+nlN (s.drop k))):=by
 have hi:=indexByte_nl (s.drop k)
 have hl:=nlN_le (s.drop k)
 have hd:(s.drop k).length=s.length - k:=List.length_drop
 by_cases hc:nlN (s.drop k) < (s.drop k).length
 ·rw[if_pos hc] at hi
  have:=lxA_com (n:=n) (out:=out) h h1 h2 (by omega)
  rw[hi] at this
  simpa using this
 ·rw[if_neg hc] at hi
  rw[lxA_com0 h h1 h2 (by omega)]
  obtain ⟨m,rfl⟩:∃ m,n=m+1:=⟨n - 1,by omega⟩
  rw[show k+nlN (s.drop k)=s.length by omega,lxA_end (Nat.le_refl _) (Nat.le_refl _)]
end
def lexR (x:Option (List Tk)×Nat):AV:=match x.1 with
 | some l=>.agg [.slice (l.map encK),.int .i64 (-1)]
 | none=>.agg [.slice [],.int .i64 x.2]

abbrev Kt:=Int×List UInt8
def ktOf (x:Tk):Kt:=(x.1,x.2.1)
def lxK:Nat→List UInt8→Option (List Kt)
 | 0,_=>none
 | _+1,[]=>some [(3,[])]
 | n+1,c :: r=>
  if clsI c.toNat=4 then lxK n r
  else if Lib.hasPrefix (c :: r) [47,47]=true then lxK n ((c :: r).drop (nlN (c :: r)))
  else if clsI c.toNat=1 then (lxK n ((c :: r).drop (wordN (c :: r)))).map ((1,(c :: r).take (wordN (c :: r))) :: ·)
  else if 0≤Lib.indexByte signs c then (lxK n r).map ((2,[c]) :: ·)
  else none

theorem pre_ne {c:UInt8} {r:List UInt8} (h:Lib.hasPrefix (c :: r) [47,47]=true):c=47:=by
 simp only[Lib.hasPrefix,List.isPrefixOf,Bool.and_eq_true,beq_iff_eq] at h
 exact h.1.symm
theorem nl_step {c:UInt8} {r:List UInt8} (h:Lib.hasPrefix (c :: r) [47,47]=true):nlN (c :: r)=1+nlN r:=by
 obtain rfl:=pre_ne h
 rw[nlN_cons,if_neg (by decide)]
theorem word_step {c:UInt8} {r:List UInt8} (h:clsI c.toNat=1):wordN (c :: r)=1+wordN r:=by
 rw[wordN_cons,if_pos (by simp[wc,h])]

theorem lxK_fuel:∀ (n m:Nat) (s:List UInt8),s.length < n→s.length < m→lxK n s=lxK m s
 | 0,_,_,h,_=>absurd h (Nat.not_lt_zero _)
 | _,0,_,_,h=>absurd h (Nat.not_lt_zero _)
 | n+1,m+1,[],_,_=>rfl
 | n+1,m+1,c :: r,h1,h2=>by
  simp only[List.length_cons] at h1 h2
  simp only[lxK]
  split
  ·exact lxK_fuel n m r (by omega) (by omega)
  ·split
   ·rename_i hp
    rw[nl_step hp,Nat.add_comm 1,List.drop_succ_cons]
    exact lxK_fuel n m _ (by rw[List.length_drop];omega) (by rw[List.length_drop];omega)
   ·split
    ·rename_i hw
     rw[word_step hw,Nat.add_comm 1,List.drop_succ_cons,lxK_fuel n m _ (by rw[List.length_drop];omega) (by rw[List.length_drop];omega)]
    ·split
     ·rw[lxK_fuel n m r (by omega) (by omega)]
     ·rfl
def tkK (s:List UInt8):Option (List Kt):=lxK (s.length+1) s
theorem tkK_nil:tkK []=some [(3,[])]:=rfl
theorem tkK_cons (c:UInt8) (r:List UInt8):tkK (c :: r) =
  if clsI c.toNat=4 then tkK r
  else if Lib.hasPrefix (c :: r) [47,47]=true then tkK ((c :: r).drop (nlN (c :: r)))
  else if clsI c.toNat=1 then (tkK ((c :: r).drop (wordN (c :: r)))).map ((1,(c :: r).take (wordN (c :: r))) :: ·)
  else if 0≤Lib.indexByte signs c then (tkK r).map ((2,[c]) :: ·)
  else none:=by
 unfold tkK
 rw[List.length_cons,lxK]
 split
 ·rfl
 ·split
  ·rename_i hp
   rw[nl_step hp,Nat.add_comm 1,List.drop_succ_cons]
   exact lxK_fuel _ _ _ (by rw[List.length_drop];omega) (by omega)
  ·split
   ·rename_i hw
    rw[word_step hw,Nat.add_comm 1,List.drop_succ_cons,lxK_fuel (r.length+1) _ _ (by rw[List.length_drop];omega) (Nat.lt_succ_self _)]
   ·rfl

theorem lxA_kt:∀ (n:Nat) (out:List Tk) (k:Nat) (s:List UInt8),s.length < n→((lxA n out k s).1).map (·.map ktOf)=(lxK n s).map (out.map ktOf++·)
 | 0,_,_,_,h=>absurd h (Nat.not_lt_zero _)
 | n+1,out,k,[],_=>by simp[lxA,lxK,ktOf]
 | n+1,out,k,c :: r,h=>by
  simp only[List.length_cons] at h
  simp only[lxA,lxK]
  split
  ·exact lxA_kt n out (k+1) r (by omega)
  ·split
   ·rename_i hp
    have hi:=indexByte_nl (c :: r)
    have hl:=nlN_le (c :: r)
    by_cases hc:nlN (c :: r) < (c :: r).length
    ·rw[if_pos hc] at hi
     rw[hi,if_neg (by omega),Int.toNat_natCast,nl_step hp,Nat.add_comm 1,List.drop_succ_cons]
     exact lxA_kt n out _ _ (by rw[List.length_drop];omega)
    ·rw[if_neg hc] at hi
     rw[hi,if_pos (by omega),List.drop_eq_nil_of_le (by omega)]
     obtain ⟨m,rfl⟩:∃ m,n=m+1:=⟨n - 1,by omega⟩
     simp[lxK,ktOf]
   ·split
    ·rename_i hw
     rw[word_step hw,Nat.add_comm 1,List.drop_succ_cons,lxA_kt n _ _ _ (by rw[List.length_drop];omega),Option.map_map]
     congr 1
     funext l
     simp[ktOf]
    ·split
     ·rw[lxA_kt n _ _ _ (by omega),Option.map_map]
      congr 1
      funext l
      simp[ktOf]
     ·rfl
theorem lexT_kt {s:List UInt8} (h:s.length≤65536):((lexT s).1).map (·.map ktOf)=tkK s:=by
 unfold lexT tkK
 rw[if_pos h,lxA_kt _ _ _ _ (Nat.lt_succ_self _)]
 simp

theorem sign_iff {c:UInt8}:c∈signs↔0≤Lib.indexByte signs c:=by
 constructor
 ·have:∀ x∈signs,0≤Lib.indexByte signs x:=by decide
  exact this c
 ·intro h
  by_cases hm:c∈signs
  ·exact hm
  ·exfalso
   simp only[signs,List.mem_cons,not_or,List.not_mem_nil] at hm
   obtain ⟨h1,h2,h3,h4,h5,h6,h7,h8,h9,h10,h11,-⟩:=hm
   simp[signs,Lib.indexByte,Ne.symm h1,Ne.symm h2,Ne.symm h3,Ne.symm h4,Ne.symm h5,Ne.symm h6,Ne.symm h7,Ne.symm h8,Ne.symm h9,Ne.symm h10,Ne.symm h11] at h
def jt (l:List Kt):List (List UInt8):=(l.filter fun x=>x.1 != 3).map (·.2)
def joinK (l:List Kt):List UInt8:=Lib.join (jt l) [32]
def wordK (w:List UInt8):Prop:=∃ c r,w=c :: r∧clsI c.toNat=1∧∀ x∈c :: r,wc x=true
inductive TkL:List Kt→Prop
 | nil:TkL [(3,[])]
 | word (w:List UInt8) (l:List Kt) (hw:wordK w) (hl:TkL l):TkL ((1,w) :: l)
 | sign (c:UInt8) (l:List Kt) (hc:0≤Lib.indexByte signs c) (hl:TkL l):TkL ((2,[c]) :: l)
theorem wordN_all:∀ (s:List UInt8),∀ x∈s.take (wordN s),wc x=true
 | [],x,h=>by simp[wordN] at h
 | c :: s,x,h=>by
  rw[wordN_cons] at h
  split at h
  ·rename_i hc
   rw[Nat.add_comm 1,List.take_succ_cons,List.mem_cons] at h
   rcases h with rfl|h
   ·exact hc
   ·exact wordN_all s x h
  ·simp at h
theorem join_cons_le (x:List UInt8) (r:List (List UInt8)):(Lib.join (x :: r) [32]).length≤x.length+1+(Lib.join r [32]).length:=by
 cases r with
 | nil=>rw[Lib.join_one];omega
 | cons y r=>
  rw[Lib.join_length,Lib.join_length]
  simp only[Lib.lens,List.map_cons,List.sum_cons,List.length_cons,List.length_nil]
  omega
theorem tkK_TkL:∀ (n:Nat) (s:List UInt8) (l:List Kt),s.length≤n→tkK s=some l→TkL l∧(joinK l).length≤2 * s.length
 | n,[],l,_,h=>by
  rw[tkK_nil] at h
  injection h with h;subst h
  exact ⟨.nil,by decide⟩
 | 0,c :: r,l,hn,_=>by simp at hn
 | n+1,c :: r,l,hn,h=>by
  simp only[List.length_cons] at hn
  rw[tkK_cons] at h
  split at h
  ·obtain ⟨h1,h2⟩:=tkK_TkL n r l (by omega) h
   exact ⟨h1,by simp only[List.length_cons];omega⟩
  ·split at h
   ·rename_i hp
    rw[nl_step hp,Nat.add_comm 1,List.drop_succ_cons] at h
    obtain ⟨h1,h2⟩:=tkK_TkL n _ l (by rw[List.length_drop];omega) h
    rw[List.length_drop] at h2
    exact ⟨h1,by simp only[List.length_cons];omega⟩
   ·split at h
    ·rename_i hw
     obtain ⟨l',h1,rfl⟩:=Option.map_eq_some_iff.1 h
     have hall:=wordN_all (c :: r)
     have hwl:=wordN_le (c :: r)
     rw[word_step hw,Nat.add_comm 1] at h1 hall hwl
     rw[List.drop_succ_cons] at h1
     obtain ⟨g1,g2⟩:=tkK_TkL n _ l' (by rw[List.length_drop];omega) h1
     rw[List.length_drop] at g2
     rw[List.take_succ_cons] at hall
     rw[word_step hw,Nat.add_comm 1,List.take_succ_cons]
     refine ⟨.word _ _ ⟨c,_,rfl,hw,hall⟩ g1,?_⟩
     have:=join_cons_le (c :: r.take (wordN r)) (jt l')
     simp only[joinK,jt,List.filter_cons,List.length_cons,List.length_take] at *
     simp only[show ((1:Int) != 3)=true by decide,if_true,List.map_cons]
     omega
    ·split at h
     ·rename_i hs
      obtain ⟨l',h1,rfl⟩:=Option.map_eq_some_iff.1 h
      obtain ⟨g1,g2⟩:=tkK_TkL n _ l' (by omega) h1
      refine ⟨.sign _ _ hs g1,?_⟩
      have:=join_cons_le [c] (jt l')
      simp only[joinK,jt,List.filter_cons,List.length_cons,List.length_nil] at *
      simp only[show ((2:Int) != 3)=true by decide,if_true,List.map_cons]
      omega
     ·cases h
theorem sign_facts (c:UInt8) (h:0≤Lib.indexByte signs c):¬ clsI c.toNat=4∧c≠47∧¬ clsI c.toNat=1:=by
 have:∀ x∈signs,¬ clsI x.toNat=4∧x≠47∧¬ clsI x.toNat=1:=by decide
 exact this c (sign_iff.2 h)
def refJS (s:List UInt8) (x:Kt):List UInt8:=if x.1=3 then s else (if s=[] then s else s++[32])++x.2
def refJ (l:List Kt):List UInt8:=l.foldl refJS []
def szK (l:List Kt):Nat:=(l.map fun x=>x.2.length+1).sum
theorem szK_mem {l:List Kt} {x:Kt} (h:x∈l):x.2.length+1≤szK l:=by
 induction l with
 | nil=>cases h
 | cons y l ih=>
  simp only[szK,List.map_cons,List.sum_cons]
  rcases List.mem_cons.1 h with rfl|h
  ·omega
  ·have:=ih h
   unfold szK at this
   omega
theorem szK_len (l:List Kt):l.length≤szK l:=by
 induction l with
 | nil=>simp[szK]
 | cons y l ih=>simp only[szK,List.map_cons,List.sum_cons,List.length_cons] at *;omega

theorem tkK_sz:∀ (n:Nat) (s:List UInt8) (l:List Kt),s.length≤n→tkK s=some l→szK l≤2 * s.length+1
 | n,[],l,_,h=>by
  rw[tkK_nil] at h
  injection h with h;subst h
  decide
 | 0,c :: r,l,hn,_=>by simp at hn
 | n+1,c :: r,l,hn,h=>by
  simp only[List.length_cons] at hn
  rw[tkK_cons] at h
  split at h
  ·have:=tkK_sz n r l (by omega) h
   simp only[List.length_cons];omega
  ·split at h
   ·rename_i hp
    rw[nl_step hp,Nat.add_comm 1,List.drop_succ_cons] at h
    have:=tkK_sz n _ l (by rw[List.length_drop];omega) h
    rw[List.length_drop] at this
    simp only[List.length_cons];omega
   ·split at h
    ·rename_i hw
     obtain ⟨l',h1,rfl⟩:=Option.map_eq_some_iff.1 h
     have hwl:=wordN_le (c :: r)
     rw[word_step hw,Nat.add_comm 1] at h1 hwl
     rw[List.drop_succ_cons] at h1
     have g2:=tkK_sz n _ l' (by rw[List.length_drop];omega) h1
     rw[List.length_drop] at g2
     rw[word_step hw,Nat.add_comm 1,List.take_succ_cons]
     simp only[szK,List.map_cons,List.sum_cons,List.length_cons,List.length_take] at *
     omega
    ·split at h
     ·obtain ⟨l',h1,rfl⟩:=Option.map_eq_some_iff.1 h
      have g2:=tkK_sz n _ l' (by omega) h1
      simp only[szK,List.map_cons,List.sum_cons,List.length_cons,List.length_nil] at *
      omega
     ·cases h

def lastI:List UInt8→Int
 | []=>-1
 | c :: s=>if 0≤lastI s then lastI s+1 else if c=10 then 0 else -1
def clampN (i:Int) (n:Nat):Nat:=min i.toNat n
theorem lexT_some {s:List UInt8} {l:List Tk} {n:Nat} (hs:s.length≤65536) (h:lexT s=(some l,n)):tkK s=some (l.map ktOf)∧TkL (l.map ktOf)∧szK (l.map ktOf)≤2 * s.length+1∧(joinK (l.map ktOf)).length≤2 * s.length∧l.length≤2 * s.length+1:=by
 have h1:=lexT_kt hs
 rw[h] at h1
 have h2:tkK s=some (l.map ktOf):=h1.symm
 have h3:=tkK_TkL s.length s _ (Nat.le_refl _) h2
 have h4:=tkK_sz s.length s _ (Nat.le_refl _) h2
 have h5:=szK_len (l.map ktOf)
 rw[List.length_map] at h5
 exact ⟨h2,h3.1,h4,h3.2,by omega⟩
theorem lexT_of {s:List UInt8} {l:List Kt} (hs:s.length≤65536) (h:tkK s=some l):∃ m n,lexT s=(some m,n)∧m.map ktOf=l:=by
 have h1:=lexT_kt hs
 rw[h] at h1
 rcases hx:lexT s with ⟨_|m,n⟩
 ·rw[hx] at h1;cases h1
 ·rw[hx] at h1
  exact ⟨m,n,rfl,by simpa using h1⟩
def encB (x:UInt8):List AV:=[.int .u8 x.toNat]
def noNl (c:List UInt8):List UInt8:=c.filter (· != 10)
end Go.Pv
end

section
/- Short words for the walks. -/
namespace Go.Pv
open Go

theorem sg {a b:Prop} (h:b) (ha:a:=by first|omega|(simp at *;omega)):a∧b:=⟨ha,h⟩
theorem sgX {a b:Prop} (h:b) (ha:a:=by first|omega|assumption|exact Rows_map _ _ encK_cells _|(simp at *;omega)):a∧b:=⟨ha,h⟩
theorem sgK {a b:Prop} (h:b) (ha:a:=by first|omega|assumption|exact Rows_map _ _ encK_cells _|exact ⟨by omega,Rows_map _ _ encK_cells _⟩|(simp at *;omega)):a∧b:=⟨ha,h⟩
@[simp] theorem row_fst (x:List AV) (l:List (List AV)):row (x :: l) 0=x:=rfl
section
variable {P:Program} {gl:Gl} {σ:AS} {Q:Exit→AS→Prop} {c:Operand} {x y:Code}
theorem cT (hc:ev gl σ c=.v (.bool true) none) (h:AT P gl x σ Q):AT P gl (.cond c x y) σ Q:=AT_cond hc (fun _=>h) (fun h=>by cases h)
theorem cF (hc:ev gl σ c=.v (.bool false) none) (h:AT P gl y σ Q):AT P gl (.cond c x y) σ Q:=AT_cond hc (fun h=>by cases h) (fun _=>h)
end
end Go.Pv
end

section
/- The walk by simp: calls of methods. -/
namespace Go.Pv
open Go

section
variable {P:Program} {gl:Gl} {ops:Array Oper} {o:Oper} {rest:List Oper} {σ:AS} {K:AS→Prop}
theorem RVn_callC {f:FuncId} {args:List AV} {b:Nat} {c c':List AV} {r:AV} (h:ValidC P gl f args b c r c') (hsh:σ.sh=[(b,c)]) (k:RV P gl ops rest ({ σ with sh:=[(b,c')] }.put o.dst (.v r none)) K) (hy:gl.y=none:=by rfl):
  RVn P gl ops true (some true) (.call f (.gp b 0 :: args)) o rest σ K:=by
 unfold RVn
 simp only[orV,true_and]
 exact callV_C hy h hsh k
theorem RVn_callN {f:FuncId} {args:List AV} {c:List AV} (h:ValidN P gl f args c) (k:∀ b,RV P gl ops rest ({ σ with sh:=[(b,c)] }.put o.dst (.v (.gp b 0) none)) K) (hy:gl.y=none:=by rfl):
  RVn P gl ops true (some true) (.call f args) o rest σ K:=by
 unfold RVn
 simp only[orV,true_and]
 exact callV_N hy h k
end
end Go.Pv
end

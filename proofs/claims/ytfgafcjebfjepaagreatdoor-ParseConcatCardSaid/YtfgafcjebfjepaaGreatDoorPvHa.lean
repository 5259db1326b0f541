import Derived.Test.YtfgafcjebfjepaaGreatDoorPvFb
import Derived.Test.YtfgafcjebfjepaaGreatDoorPvRf
import Derived.Test.YtfgafcjebfjepaaGreatDoorPvEb
set_option linter.all false
section
/- The parts of a right program and of its text. -/
namespace Go.Pv
open Go

theorem rightD_kinds {d:Dc} (h:rightD d=true):d.kind=1∨d.kind=2∨(d.kind=3∧rightE d.body=true):=by
 unfold rightD at h
 by_cases h3:d.kind=3
 ·rw[if_pos (by simp[h3])] at h
  simp only[Bool.and_eq_true] at h
  exact .inr (.inr ⟨h3,h.2.2⟩)
 ·rw[if_neg (by simp[h3])] at h
  by_cases h1:d.kind=1
  ·exact .inl h1
  ·by_cases h2:d.kind=2
   ·exact .inr (.inl h2)
   ·rw[if_neg (by simp[h1]),if_neg (by simp[h2])] at h
    simp at h
end Go.Pv
end

section
/- Declarations without offsets; the tokens of their texts. -/
namespace Go.Pv
open Go

def stF (f:Fm):Fm:=⟨f.name,stT f.ty,0⟩
def stG (s:Sg):Sg:=⟨s.name,s.fms.map stF,s.pms.map stF,stT s.res,0⟩
def stD (d:Dc):Dc:=⟨d.kind,d.name,d.fms.map stF,d.flds.map stF,d.sigs.map stG,d.recv,d.vars,stG d.sig,stE d.body,0⟩
def stP (p:Pg):Pg:=⟨p.decls.map stD,stE p.main⟩
theorem eqL_st {α β:Type} {f:α→α→Bool} {st:α→β}:∀ {a b:List α},(∀ x∈a,∀ y∈b,(f x y=true↔st x=st y))→(eqL f a b=true↔a.map st=b.map st)
 | [],[],_=>by simp[eqL]
 | [],_ :: _,_=>by simp[eqL]
 | _ :: _,[],_=>by simp[eqL]
 | x :: a,y :: b,h=>by
  have h1:=h x (by simp) y (by simp)
  have h2:=eqL_st (a:=a) (b:=b) fun x hx y hy=>h x (by simp[hx]) y (by simp[hy])
  rw[eqL_cons];simp[h1,h2]
theorem sameF_st (a b:Fm):sameF a b=true↔stF a=stF b:=by
 have:=cmpT_st a.ty b.ty
 simp[sameF,stF,this]
theorem sameFs_st (a b:List Fm):eqL sameF a b=true↔a.map stF=b.map stF:=eqL_st fun x _ y _=>sameF_st x y
theorem sameG_st (a b:Sg):sameG a b=true↔stG a=stG b:=by
 have h1:=sameFs_st a.fms b.fms
 have h2:=sameFs_st a.pms b.pms
 have h3:=cmpT_st a.res b.res
 simp[sameG,stG,h1,h2,h3,and_assoc]
theorem sameD_st (a b:Dc):sameD a b=true↔stD a=stD b:=by
 have h1:=sameFs_st a.fms b.fms
 have h2:=sameFs_st a.flds b.flds
 have h3:eqL sameG a.sigs b.sigs=true↔a.sigs.map stG=b.sigs.map stG:=eqL_st fun x _ y _=>sameG_st x y
 have h4:eqL (fun (a b:Str)=>a==b) a.vars b.vars=true↔a.vars.map id=b.vars.map id:=eqL_st fun x _ y _=>by simp
 have h5:=sameG_st a.sig b.sig
 have h6:=sameE_st a.body b.body
 simp only[List.map_id] at h4
 rw[show stD a=stD b↔a.kind=b.kind∧a.name=b.name∧a.fms.map stF=b.fms.map stF∧a.flds.map stF=b.flds.map stF∧a.sigs.map stG=b.sigs.map stG∧a.recv=b.recv∧a.vars=b.vars∧stG a.sig=stG b.sig∧stE a.body=stE b.body by simp[stD]]
 rw[←h1,← h2,← h3,← h4,← h5,← h6]
 simp only[sameD,Bool.and_eq_true,beq_iff_eq]
 constructor
 ·intro h;simp_all
 ·intro h;simp_all
theorem sameP_st (a b:Pg):sameP a b=true↔stP a=stP b:=by
 have h1:eqL sameD a.decls b.decls=true↔a.decls.map stD=b.decls.map stD:=eqL_st fun x _ y _=>sameD_st x y
 have h2:=sameE_st a.main b.main
 simp[sameP,stP,h1,h2]

def toksF (f:Fm):List Kt:=(1,f.name) :: toksT f.ty
def toksG (s:Sg):List Kt:=(1,s.name) :: (brK (s.fms.map toksF)++sgn 40 :: (commaK (s.pms.map toksF)++sgn 41 :: toksT s.res))
def varK (v:Str):List Kt:=[(1,v)]
def semK {α:Type} (tk:α→List Kt) (l:List α):List Kt:=l.flatMap fun x=>tk x++[sgn 59]
def toksD (d:Dc):List Kt:=
 if d.kind=3 then (1,wFunc) :: sgn 40 :: (1,d.recv) :: (1,d.name) :: (brK (d.vars.map varK)++sgn 41 :: (toksG d.sig++sgn 123 :: (1,wReturn) :: (toksE d.body++[sgn 125,sgn 59])))
 else if d.kind=2 then (1,wType) :: (1,d.name) :: (brK (d.fms.map toksF)++(1,wInterface) :: sgn 123 :: (semK toksG d.sigs++[sgn 125,sgn 59]))
 else (1,wType) :: (1,d.name) :: (brK (d.fms.map toksF)++(1,wStruct) :: sgn 123 :: (semK toksF d.flds++[sgn 125,sgn 59]))
def headK:List Kt:=[(1,wPackage),(1,wMain),sgn 59]
def mainK (e:Exp):List Kt:=(1,wFunc) :: (1,wMain) :: sgn 40 :: sgn 41 :: sgn 123 :: sgn 95 :: sgn 61 :: (toksE e++[sgn 125])
def toksP (p:Pg):List Kt:=headK++((p.decls.flatMap toksD)++mainK p.main)

def BX (s:Str) (k:List Kt):Prop:=∀ x,tkK (s++x)=(tkK x).map (k++·)
theorem BX.app {s t:Str} {k l:List Kt} (h:BX s k) (h2:BX t l):BX (s++t) (k++l):=fun x=>by
 rw[List.append_assoc,h,h2,omap2]
theorem BX_nil:BX [] []:=fun x=>by cases h:tkK x<;>simp[h]
theorem BX_sign {c:UInt8} (h:0≤Lib.indexByte signs c):BX [c] [sgn c]:=fun x=>lx_sign h x
theorem BX_blank {c:UInt8} (h:clsI c.toNat=4):BX [c] []:=fun x=>by
 rw[List.singleton_append,tkK_cons,if_pos h]
 cases tkK x<;>rfl
theorem LX.app {s t:Str} {k l:List Kt} (h:LX s k) (h2:BX t l) (he:∀ x,endB (t++x)):BX (s++t) (k++l):=fun x=>by
 rw[List.append_assoc,h _ (he x),h2,omap2]
theorem LX.appL {s t:Str} {k l:List Kt} (h:LX s k) (h2:LX t l) (he:∀ x,endB x→endB (t++x)):LX (s++t) (k++l):=fun x hx=>by
 rw[List.append_assoc,h _ (he x hx),h2 x hx,omap2]
theorem BX.appL {s t:Str} {k l:List Kt} (h:BX s k) (h2:LX t l):LX (s++t) (k++l):=fun x hx=>by
 rw[List.append_assoc,h,h2 x hx,omap2]
theorem LX_word {c:UInt8} {r:Str} (h1:clsI c.toNat=1) (h2:(c :: r).all goodB=true):LX (c :: r) [(1,c :: r)]:=fun x hx=>by
 have hp:¬ Lib.hasPrefix (c :: (r++x)) [47,47]=true:=fun hp=>by
  have:=pre_ne hp
  subst this
  revert h1;decide
 have hw:=wordN_end (c :: r) x h2 hx
 rw[List.cons_append] at hw
 rw[List.cons_append,tkK_cons,if_neg (by omega),if_neg hp,if_pos h1,hw]
 have e1:(c :: (r++x)).drop (c :: r).length=x:=by rw[←List.cons_append];simp
 have e2:(c :: (r++x)).take (c :: r).length=c :: r:=by rw[←List.cons_append];simp
 rw[e1,e2];rfl
theorem LX_name {n:Str} (h:isName n=true):LX n [(1,n)]:=fun x hx=>by rw[lx_name h hx];rfl
theorem endB_app {c:UInt8} {r:Str} (h:goodB c=false) (x:Str):endB ((c :: r)++x):=endB_c h

theorem LX_txF {f:Fm} (h:rightF f=true):LX (txF f) (toksF f):=by
 simp only[rightF,Bool.and_eq_true] at h
 have h1:LX ([32]++txt f.ty) (toksT f.ty):=(BX_blank (c:=32) (by decide)).appL (lx_txt _ h.2)
 have:=(LX_name h.1).appL h1 (fun x _=>by rw[List.append_assoc];exact endB_c (by decide))
 rw[←List.append_assoc] at this
 exact this
theorem LX_br {α:Type} (tx:α→Str) (tk:α→List Kt) (l:List α) (h:∀ a∈l,LX (tx a) (tk a)):LX (if l.isEmpty then [] else [91]++Lib.join (l.map tx) [44,32]++[93]) (brK (l.map tk))∧∀ x,endB x→endB ((if l.isEmpty then [] else [91]++Lib.join (l.map tx) [44,32]++[93])++x):=by
 cases l with
 | nil=>exact ⟨fun x _=>by cases hq:tkK x<;>simp[brK,hq],fun x hx=>by simpa using hx⟩
 | cons a l=>
  simp only[List.isEmpty_cons,Bool.false_eq_true,if_false]
  refine ⟨fun x hx=>?_,fun x _=>by simp only[List.append_assoc];exact endB_c (by decide)⟩
  simp only[List.append_assoc,List.cons_append,List.nil_append]
  rw[lx_sign (by decide),lx_join tx tk (a :: l) h _ (endB_c (by decide)),lx_sign (by decide)]
  cases tkK x<;>simp[brK]
theorem LX_fms {l:List Fm} (h:l.all rightF=true):LX (fmsT l) (brK (l.map toksF))∧∀ x,endB x→endB (fmsT l++x):=LX_br txF toksF l fun f hf=>LX_txF (List.all_eq_true.1 h f hf)
theorem LX_vars {l:List Str} (h:l.all isName=true):LX (varsT l) (brK (l.map varK))∧∀ x,endB x→endB (varsT l++x):=by
 have:=LX_br id varK l fun v hv=>LX_name (List.all_eq_true.1 h v hv)
 rw[List.map_id] at this
 exact this
theorem rightG_parts {s:Sg} (h:rightG s=true):isName s.name=true∧s.fms.all rightF=true∧s.pms.all rightF=true∧rightT s.res=true:=by
 simp only[rightG,Bool.and_eq_true] at h
 exact ⟨h.1.1.1,h.1.1.2,h.1.2,h.2⟩
theorem LX_sig {s:Sg} (h:rightG s=true):LX (sigT s) (toksG s):=by
 obtain ⟨h1,h2,h3,h4⟩:=rightG_parts h
 obtain ⟨h5,h6⟩:=LX_fms h2
 intro x hx
 have e:sigT s++x=s.name++(fmsT s.fms++40 :: (Lib.join (s.pms.map txF) [44,32]++41 :: 32 :: (txt s.res++x))):=by simp[sigT,List.append_assoc]
 rw[e,lx_name h1 (h6 _ (endB_c (by decide))),h5 _ (endB_c (by decide)),lx_sign (by decide),lx_join txF toksF s.pms (fun f hf=>LX_txF (List.all_eq_true.1 h3 f hf)) _ (endB_c (by decide)),lx_sign (by decide),lx_blank,lx_txt _ h4 x hx,toksG]
 cases tkK x<;>simp
theorem BX_lines {α:Type} (tx:α→Str) (tk:α→List Kt):∀ l:List α,(∀ a∈l,LX (tx a) (tk a))→BX ((l.map fun a=>lineT (tx a++[59])).flatten) (semK tk l)
 | [],_=>BX_nil
 | a :: l,h=>by
  have h1:=BX_lines tx tk l fun b hb=>h b (by simp[hb])
  have h2:BX ([59]++[10]) ([sgn 59]++[]):=(BX_sign (by decide)).app (BX_blank (by decide))
  have h3:=(h a (by simp)).app h2 (fun x=>by rw[List.append_assoc];exact endB_c (by decide))
  have h4:=((BX_blank (c:=9) (by decide)).app h3).app h1
  have e:((a :: l).map fun a=>lineT (tx a++[59])).flatten=[9]++(tx a++([59]++[10]))++(l.map fun a=>lineT (tx a++[59])).flatten:=by simp[lineT]
  rw[e]
  have e2:semK tk (a :: l)=[]++(tk a++([sgn 59]++[]))++semK tk l:=by simp[semK]
  rw[e2];exact h4
theorem BX_end:BX [125,59,10] [sgn 125,sgn 59]:=(BX_sign (c:=125) (by decide)).app ((BX_sign (c:=59) (by decide)).app (BX_blank (c:=10) (by decide)))
theorem BX_open:BX [32,123,10] [sgn 123]:=(BX_blank (c:=32) (by decide)).app ((BX_sign (c:=123) (by decide)).app (BX_blank (c:=10) (by decide)))

theorem rightD_typed {d:Dc} (h:rightD d=true) (hk:d.kind=1∨d.kind=2):isName d.name=true∧d.fms.all rightF=true∧d.flds.all rightF=true∧d.sigs.all rightG=true∧d.recv=[]∧d.vars=[]∧stG d.sig=sg0∧stE d.body=ex0∧((d.kind=1∧d.sigs=[])∨(d.kind=2∧d.flds=[])):=by
 rw[rightD_eq] at h
 unfold rightDR at h
 rw[if_neg (by simp;omega)] at h
 simp only[Bool.and_eq_true,Bool.or_eq_true,beq_iff_eq,eqG_false,List.isEmpty_iff,List.length_eq_zero_iff,sameG_st,sameE_st] at h
 exact ⟨h.1.1.1.1.1,h.1.1.1.1.2,h.1.1.1.2,h.1.1.2,h.2.1.1.1.1,h.2.1.1.1.2,h.2.1.1.2,h.2.1.2,h.2.2⟩
theorem rightD_method {d:Dc} (h:rightD d=true) (hk:d.kind=3):isName d.name=true∧d.fms=[]∧d.flds=[]∧d.sigs=[]∧isName d.recv=true∧d.vars.all isName=true∧rightG d.sig=true∧rightE d.body=true:=by
 rw[rightD_eq] at h
 unfold rightDR at h
 rw[if_pos (by simp[hk])] at h
 simp only[Bool.and_eq_true,beq_iff_eq] at h
 have h5:=h.2.1.1.2
 refine ⟨h.1.1.1.1.1,List.eq_nil_of_length_eq_zero (by omega),List.eq_nil_of_length_eq_zero (by omega),List.eq_nil_of_length_eq_zero (by omega),h.2.1.1.1,h.1.2,h.2.1.2,h.2.2⟩
theorem lx_word {w:Str} (h:LX w [(1,w)]) (x:Str) (hx:endB x):tkK (w++x)=(tkK x).map ((1,w) :: ·):=h x hx
theorem LX_type:LX wType [(1,wType)]:=LX_word (by decide) (by decide)
theorem LX_func:LX wFunc [(1,wFunc)]:=LX_word (by decide) (by decide)
theorem LX_struct:LX wStruct [(1,wStruct)]:=LX_word (by decide) (by decide)
theorem LX_iface:LX wInterface [(1,wInterface)]:=LX_word (by decide) (by decide)
theorem LX_return:LX wReturn [(1,wReturn)]:=LX_word (by decide) (by decide)
theorem LX_main:LX wMain [(1,wMain)]:=LX_word (by decide) (by decide)
theorem LX_package:LX wPackage [(1,wPackage)]:=LX_word (by decide) (by decide)
theorem BX_decl {d:Dc} (h:rightD d=true):BX (declT d) (toksD d):=by
 have hb:∀ x,endB (32 :: x):=fun x=>endB_c (by decide)
 rcases rightD_kinds h with hk|hk|⟨hk,-⟩
 ·obtain ⟨h1,h2,h3,-,-,-,-,-,h4⟩:=rightD_typed h (.inl hk)
  have hs:d.sigs=[]:=h4.elim (·.2) (fun h=>absurd h.1 (by omega))
  obtain ⟨h5,h6⟩:=LX_fms h2
  have h7:=BX_lines txF toksF d.flds fun f hf=>LX_txF (List.all_eq_true.1 h3 f hf)
  intro x
  have e:declT d++x=wType++32 :: (d.name++(fmsT d.fms++32 :: (wStruct++([32,123,10]++((d.flds.map fun a=>lineT (txF a++[59])).flatten++([125,59,10]++x)))))):=by
   rw[declT,blockT,frontT,linesT,if_pos hk,if_pos (.inl hk),hs]
   simp[wTy,wType,wStruct,List.append_assoc,lnF,Function.comp_def]
  rw[e,lx_word LX_type _ (hb _),lx_blank,lx_name h1 (h6 _ (hb _)),h5 _ (hb _),lx_blank,lx_word LX_struct _ (endB_app (by decide) _),BX_open,h7,BX_end,toksD,if_neg (by omega),if_neg (by omega)]
  cases tkK x<;>simp
 ·obtain ⟨h1,h2,-,h3,-,-,-,-,h4⟩:=rightD_typed h (.inr hk)
  have hs:d.flds=[]:=h4.elim (fun h=>absurd h.1 (by omega)) (·.2)
  obtain ⟨h5,h6⟩:=LX_fms h2
  have h7:=BX_lines sigT toksG d.sigs fun f hf=>LX_sig (List.all_eq_true.1 h3 f hf)
  intro x
  have e:declT d++x=wType++32 :: (d.name++(fmsT d.fms++32 :: (wInterface++([32,123,10]++((d.sigs.map fun a=>lineT (sigT a++[59])).flatten++([125,59,10]++x)))))):=by
   rw[declT,blockT,frontT,linesT,if_neg (by omega),if_pos hk,if_pos (.inr hk),hs]
   simp[wTy,wType,wInterface,List.append_assoc,lnG,Function.comp_def]
  rw[e,lx_word LX_type _ (hb _),lx_blank,lx_name h1 (h6 _ (hb _)),h5 _ (hb _),lx_blank,lx_word LX_iface _ (endB_app (by decide) _),BX_open,h7,BX_end,toksD,if_neg (by omega),if_pos hk]
  cases tkK x<;>simp
 ·obtain ⟨h1,-,-,-,h2,h3,h4,h5⟩:=rightD_method h hk
  obtain ⟨h6,h7⟩:=LX_vars h3
  intro x
  have e:declT d++x=wFunc++32 :: 40 :: (d.recv++32 :: (d.name++(varsT d.vars++41 :: 32 :: (sigT d.sig++([32,123,10]++9 :: (wReturn++32 :: (txtE d.body++10 :: ([125,59,10]++x)))))))):=by
   rw[declT,blockT,frontT,linesT,if_neg (by omega),if_neg (by omega),if_neg (by omega)]
   simp[wFn,wFunc,wRet,wReturn,List.append_assoc,lineT]
  have h9:∀ y,tkK (9 :: y)=tkK y:=fun y=>by rw[tkK_cons,if_pos (by decide)]
  have h10:∀ y,tkK (10 :: y)=tkK y:=fun y=>by rw[tkK_cons,if_pos (by decide)]
  rw[e,lx_word LX_func _ (hb _),lx_blank,lx_sign (by decide),lx_name h2 (hb _),lx_blank,lx_name h1 (h7 _ (endB_c (by decide))),h6 _ (endB_c (by decide)),lx_sign (by decide),lx_blank,LX_sig h4 _ (endB_app (by decide) _),BX_open,h9,lx_word LX_return _ (hb _),lx_blank,lx_txtE _ h5 _ (endB_c (by decide)),h10,BX_end,toksD,if_pos hk]
  cases tkK x<;>simp
theorem BX_decls:∀ l:List Dc,(∀ d∈l,rightD d=true)→BX (Lib.join (l.map declT) []) (l.flatMap toksD)
 | [],_=>BX_nil
 | d :: l,h=>by
  have h1:=BX_decls l fun b hb=>h b (by simp[hb])
  have h2:=(BX_decl (h d (by simp))).app h1
  rw[join_empty] at h1 h2 ⊢
  simpa using h2
theorem BX_head:BX wHead headK:=by
 intro x
 have e:wHead++x=wPackage++32 :: (wMain++59 :: 10 :: x):=by simp[wHead,wPackage,wMain]
 have h10:∀ y,tkK (10 :: y)=tkK y:=fun y=>by rw[tkK_cons,if_pos (by decide)]
 rw[e,lx_word LX_package _ (endB_c (by decide)),lx_blank,lx_word LX_main _ (endB_c (by decide)),lx_sign (by decide),h10,headK]
 cases tkK x<;>simp
theorem BX_main {e:Exp} (h:rightE e=true):BX (blockT wFm [[95,32,61,32]++txtE e]++[10]) (mainK e):=by
 intro x
 have e1:blockT wFm [[95,32,61,32]++txtE e]++[10]++x=wFunc++32 :: (wMain++40 :: 41 :: ([32,123,10]++9 :: 95 :: 32 :: 61 :: 32 :: (txtE e++10 :: 125 :: 10 :: x))):=by
  simp[blockT,wFm,wFunc,wMain,lineT]
 have h9:∀ y,tkK (9 :: y)=tkK y:=fun y=>by rw[tkK_cons,if_pos (by decide)]
 have h10:∀ y,tkK (10 :: y)=tkK y:=fun y=>by rw[tkK_cons,if_pos (by decide)]
 rw[e1,lx_word LX_func _ (endB_c (by decide)),lx_blank,lx_word LX_main _ (endB_c (by decide)),lx_sign (by decide),lx_sign (by decide),BX_open,h9,lx_sign (by decide),lx_blank,lx_sign (by decide),lx_blank,lx_txtE _ h _ (endB_c (by decide)),h10,lx_sign (by decide),h10,mainK]
 cases tkK x<;>simp
theorem prog_toks {p:Pg} (h:rightPg p=true):tkK (progT p)=some (toksP p++[(3,[])]):=by
 simp only[rightPg,Bool.and_eq_true,List.all_eq_true] at h
 have h1:=(BX_head.app ((BX_decls p.decls h.1).app (BX_main h.2))) []
 rw[List.append_nil,tkK_nil] at h1
 have e:progT p=wHead++(Lib.join (p.decls.map declT) []++(blockT wFm [[95,32,61,32]++txtE p.main]++[10])):=by simp[progT]
 rw[e,h1];rfl

end Go.Pv
end

section
/- What is read from the tokens of a right program is that program. -/
namespace Go.Pv
open Go

section
variable {c:Cur} {r:List Kt}
theorem At.mustK {x:Kt} (h:At c (x :: r)) (hx:x.1≠3):At (c.must x.2) r:=by
 rw[Cur.must,h.next]
 rw[if_pos (by simp[nx,hx])]
 exact h.adv
theorem At.mustW {w:Str} (h:At c ((1,w) :: r)):At (c.must w) r:=h.mustK (x:=(1,w)) (fun h=>absurd (show (1:Int)=3 from h) (by decide))
end
theorem toksD_pos (d:Dc):0 < (toksD d).length:=by
 unfold toksD
 split
 ·simp
 ·split<;>simp
theorem nx_word {w s:Str} (r:List Kt) (h:w≠s):nx ((1,w) :: r) s=false:=by simp[nx,h]
theorem nx_wordS (w:Str) (r:List Kt):nx ((1,w) :: r) w=true:=by simp[nx]
theorem nx_sign {c:UInt8} {s:Str} (r:List Kt) (h:[c]≠s):nx (sgn c :: r) s=false:=by simp[nx,sgn,h]
theorem nx_signS (c:UInt8) (r:List Kt):nx (sgn c :: r) [c]=true:=by simp[nx,sgn]

section
variable {rT:Cur→Ty×Cur} {rE:Cur→Exp×Cur} {N:Nat}
 (hT:∀ t,rightT t=true→∀ c r,At c (toksT t++r)→okK r→c.l.length < N→stT (rT c).1=stT t∧At (rT c).2 r)
 (hE:∀ e,rightE e=true→∀ c r,At c (toksE e++r)→okE r→c.l.length < N→stE (rE c).1=stE e∧At (rE c).2 r)
include hT
theorem item_bk {f:Fm} (hf:rightF f=true) {c:Cur} {r:List Kt} (h:At c (toksF f++r)) (hr:okK r) (hn:c.l.length < N):stF (itemC rT c).1=stF f∧At (itemC rT c).2 r:=by
 simp only[rightF,Bool.and_eq_true] at hf
 have h':At c ((1,f.name) :: (toksT f.ty++r)):=h
 obtain ⟨h1,h2⟩:=h'.named hf.1
 have hl:=h'.len
 have hl2:=h2.len
 obtain ⟨h3,h4⟩:=hT f.ty hf.2 c.name r h2 hr (by simp at hl hl2;omega)
 exact ⟨by simp[stF,itemC,h1,h3],h4⟩
theorem pairs_bk (e:UInt8) (he:e≠44∧e≠91):∀ (xs:List Fm) (x:Fm),(∀ y∈x :: xs,rightF y=true)→∀ (m:Nat) (c:Cur) (r:List Kt),At c (commaK ((x :: xs).map toksF)++sgn e :: r)→c.l.length < m→c.l.length < N →
  (pairsC rT [e] m c).1.map stF=(x :: xs).map stF∧At (pairsC rT [e] m c).2 r
 | xs,x,hx,m,c,r,h,hm,hn=>by
  cases m with
  | zero=>omega
  | succ m=>
   cases xs with
   | nil=>
    have h':At c (toksF x++sgn e :: r):=by simpa[commaK,tailK] using h
    obtain ⟨h1,h2⟩:=item_bk hT (hx x (by simp)) h' (by simp[okK,nx,sgn,he.2]) hn
    rw[pairsC,h2.next,if_neg (by simp[nx,sgn,he.1])]
    exact ⟨by simp[h1],h2.must⟩
   | cons y ys=>
    have h':At c (toksF x++sgn 44 :: (commaK ((y :: ys).map toksF)++sgn e :: r)):=by simpa[commaK,tailK] using h
    obtain ⟨h1,h2⟩:=item_bk hT (hx x (by simp)) h' (okK_s (by decide) _) hn
    have ha:=h2.adv
    have hl:=h'.len
    have hl2:=ha.len
    obtain ⟨h3,h4⟩:=pairs_bk e he ys y (fun z hz=>hx z (by simp[hz])) m (itemC rT c).2.adv r ha (by simp[toksF] at hl hl2;omega) (by simp[toksF] at hl hl2;omega)
    rw[pairsC,h2.next,if_pos (nx_signS _ _)]
    exact ⟨by simp[h1,h3],h4⟩
theorem fms_bk {l:List Fm} (hl:∀ f∈l,rightF f=true) {c:Cur} {r:List Kt} (h:At c (brK (l.map toksF)++r)) (hr:okK r) (hn:c.l.length < N):(formalsC rT c).1.map stF=l.map stF∧At (formalsC rT c).2 r:=by
 cases l with
 | nil=>
  have h':At c r:=by simpa[brK] using h
  rw[formalsC,h'.next,hr]
  exact ⟨rfl,h'⟩
 | cons x xs=>
  have h':At c (sgn 91 :: (commaK ((x :: xs).map toksF)++sgn 93 :: r)):=by simpa[brK] using h
  have ha:=h'.adv
  have hl1:=h'.len
  have hl2:=ha.len
  rw[formalsC,h'.next,if_pos (nx_signS _ _)]
  exact pairs_bk hT 93 (by decide) xs x hl _ _ _ ha (Nat.lt_succ_self _) (by simp at hl1 hl2;omega)
theorem par_bk {l:List Fm} (hl:∀ f∈l,rightF f=true) {c:Cur} {r:List Kt} (h:At c (sgn 40 :: (commaK (l.map toksF)++sgn 41 :: r))) (hn:c.l.length < N):(parC rT c).1.map stF=l.map stF∧At (parC rT c).2 r:=by
 have ha:=h.must
 have hl1:=h.len
 have hl2:=ha.len
 cases l with
 | nil=>
  have h':At (c.must [40]) (sgn 41 :: r):=by simpa[commaK] using ha
  rw[parC,h'.next,if_pos (nx_signS _ _)]
  exact ⟨rfl,h'.adv⟩
 | cons x xs=>
  have hx:=hl x (by simp)
  simp only[rightF,Bool.and_eq_true] at hx
  have hnx:(c.must [40]).next [41]=false:=by
   rw[ha.next]
   show nx ((1,x.name) :: _) [41]=false
   exact nx_word _ (name_not_sign hx.1 (by decide))
  rw[parC,hnx]
  exact pairs_bk hT 41 (by decide) xs x hl _ _ _ ha (Nat.lt_succ_self _) (by simp at hl1 hl2;omega)
theorem sig_bk {s:Sg} (hs:rightG s=true) {c:Cur} {r:List Kt} (h:At c (toksG s++r)) (hr:okK r) (hn:c.l.length < N):stG (sigC rT c).1=stG s∧At (sigC rT c).2 r:=by
 obtain ⟨q1,q2,q3,q4⟩:=rightG_parts hs
 have h':At c ((1,s.name) :: (brK (s.fms.map toksF)++sgn 40 :: (commaK (s.pms.map toksF)++sgn 41 :: (toksT s.res++r)))):=by simpa[toksG] using h
 obtain ⟨h1,h2⟩:=h'.named q1
 have e1:=h'.len
 have e2:=h2.len
 obtain ⟨h3,h4⟩:=fms_bk hT (List.all_eq_true.1 q2) h2 (okK_s (by decide) _) (by simp at e1 e2;omega)
 have e4:=h4.len
 obtain ⟨h5,h6⟩:=par_bk hT (List.all_eq_true.1 q3) h4 (by simp at e1 e4;omega)
 have e6:=h6.len
 obtain ⟨h7,h8⟩:=hT s.res q4 _ r h6 hr (by simp at e1 e6;omega)
 exact ⟨by simp[stG,sigC,h1,h3,h5,h7],h8⟩
omit hT in
theorem until_bk {α:Type} {rd:Cur→α×Cur} {st:α→α} {tk:α→List Kt} {N:Nat}:∀ (l:List α) (_:∀ x∈l,∀ c r,At c (tk x++r)→okK r→c.l.length < N→st (rd c).1=st x∧At (rd c).2 r) (_:∀ x∈l,∀ r,nx (tk x++r) [125]=false) (m:Nat) (c:Cur) (r:List Kt),
  At c (semK tk l++sgn 125 :: r)→c.l.length < m→c.l.length < N→(untilC rd m c).1.map st=l.map st∧At (untilC rd m c).2 r
 | [],_,_,m,c,r,h,hm,_=>by
  cases m with
  | zero=>omega
  | succ m=>
   have h':At c (sgn 125 :: r):=by simpa[semK] using h
   rw[untilC_end rd m (by rw[h'.next];exact nx_signS _ _)]
   exact ⟨rfl,h'.adv⟩
 | x :: l,hx,hh,m,c,r,h,hm,hn=>by
  cases m with
  | zero=>omega
  | succ m=>
   have h':At c (tk x++sgn 59 :: (semK tk l++sgn 125 :: r)):=by simpa[semK] using h
   obtain ⟨h1,h2⟩:=hx x (by simp) c _ h' (okK_s (by decide) _) hn
   have h3:=h2.must
   have e1:=h'.len
   have e3:=h3.len
   obtain ⟨h4,h5⟩:=until_bk l (fun y hy=>hx y (by simp[hy])) (fun y hy=>hh y (by simp[hy])) m _ r h3 (by simp at e1 e3;omega) (by simp at e1 e3;omega)
   rw[untilC_go rd m (by rw[h'.next];exact hh x (by simp) _) (by rw[h'.1];rfl)]
   exact ⟨by simp[h1,h4],h5⟩
omit hT in
theorem vars_bk:∀ (xs:List Str) (x:Str),(∀ y∈x :: xs,isName y=true)→∀ (m:Nat) (c:Cur) (r:List Kt),At c (commaK ((x :: xs).map varK)++sgn 93 :: r)→c.l.length < m→(varsC m c).1=x :: xs∧At (varsC m c).2 (sgn 93 :: r)
 | xs,x,hx,m,c,r,h,hm=>by
  cases m with
  | zero=>omega
  | succ m=>
   cases xs with
   | nil=>
    have h':At c ((1,x) :: sgn 93 :: r):=by simpa[commaK,tailK,varK] using h
    obtain ⟨h1,h2⟩:=h'.named (hx x (by simp))
    rw[varsC,h2.next,if_neg (by simp[nx,sgn])]
    exact ⟨by simp[h1],h2⟩
   | cons y ys=>
    have h':At c ((1,x) :: sgn 44 :: (commaK ((y :: ys).map varK)++sgn 93 :: r)):=by simpa[commaK,tailK,varK] using h
    obtain ⟨h1,h2⟩:=h'.named (hx x (by simp))
    have ha:=h2.adv
    have e1:=h'.len
    have e2:=ha.len
    obtain ⟨h3,h4⟩:=vars_bk ys y (fun z hz=>hx z (by simp[hz])) m c.name.adv r ha (by simp at e1 e2;omega)
    rw[varsC,h2.next,if_pos (nx_signS _ _)]
    exact ⟨by simp[h1,h3],h4⟩
omit hT in
theorem recv_bk {l:List Str} (hl:∀ v∈l,isName v=true) {c:Cur} {r:List Kt} (h:At c (brK (l.map varK)++sgn 41 :: r)):(recvC c).1=l∧At (recvC c).2 (sgn 41 :: r):=by
 cases l with
 | nil=>
  have h':At c (sgn 41 :: r):=by simpa[brK] using h
  rw[recvC,h'.next,if_neg (by simp[nx,sgn])]
  exact ⟨rfl,h'⟩
 | cons x xs=>
  have h':At c (sgn 91 :: (commaK ((x :: xs).map varK)++sgn 93 :: sgn 41 :: r)):=by simpa[brK] using h
  have ha:=h'.adv
  have e1:=h'.len
  have e2:=ha.len
  obtain ⟨h1,h2⟩:=vars_bk xs x hl (c.l.length+1) c.adv _ ha (by simp at e1 e2;omega)
  rw[recvC,h'.next,if_pos (nx_signS _ _)]
  exact ⟨h1,h2.must⟩
theorem typed_bk {d:Dc} (hd:rightD d=true) (hk:d.kind=1∨d.kind=2) {c:Cur} {r:List Kt} (h:At c (toksD d++r)) (hn:c.l.length < N):stD (typedC rT c.adv).1=stD d∧At (typedC rT c.adv).2 r:=by
 obtain ⟨q1,q2,q3,q4,q5,q6,q7,q8,q9⟩:=rightD_typed hd hk
 have hs0:stG sg0=sg0:=rfl
 have hb0:stE ex0=ex0:=rfl
 have hk3:¬ d.kind=3:=by omega
 rcases hk with hk|hk
 ·have h':At c ((1,wType) :: (1,d.name) :: (brK (d.fms.map toksF)++(1,wStruct) :: sgn 123 :: (semK toksF d.flds++sgn 125 :: sgn 59 :: r))):=by
   rw[toksD,if_neg hk3,if_neg (by omega)] at h;simpa using h
  have e1:=h'.len
  have h1:=h'.adv
  obtain ⟨h2,h3⟩:=h1.named q1
  have e3:=h3.len
  obtain ⟨h4,h5⟩:=fms_bk hT (List.all_eq_true.1 q2) h3 (by simp[okK,nx,wStruct]) (by simp at e1 e3;omega)
  have h6:At (allC [wStruct,[123]] (formalsC rT c.adv.name).2) (semK toksF d.flds++sgn 125 :: sgn 59 :: r):=by
   rw[allC_cons,allC_cons];exact h5.mustW.must
  have e6:=h6.len
  obtain ⟨h7,h8⟩:=until_bk (rd:=itemC rT) (st:=stF) (tk:=toksF) (N:=N) d.flds (fun x hx c r h hr hn=>item_bk hT (List.all_eq_true.1 q3 x hx) h hr hn) (fun x hx r=>by
   have:=List.all_eq_true.1 q3 x hx
   simp only[rightF,Bool.and_eq_true] at this
   exact nx_word _ (name_not_sign this.1 (by decide))) _ _ _ h6 (Nat.lt_succ_self _) (by simp at e1 e6;omega)
  have hsg:d.sigs=[]:=q9.elim (·.2) (fun h=>absurd h.1 (by omega))
  rw[typedC,h5.next,if_neg (by rw[nx_word _ (by decide)];exact Bool.false_ne_true)]
  refine ⟨?_,h8.must⟩
  simp only[stD]
  rw[h2,h4,show (untilF (itemC rT) (allC [wStruct,[123]] (formalsC rT c.adv.name).2)).1.map stF=d.flds.map stF from h7,hsg,q5,q6,q7,q8,hk,hs0,hb0]
 ·have h':At c ((1,wType) :: (1,d.name) :: (brK (d.fms.map toksF)++(1,wInterface) :: sgn 123 :: (semK toksG d.sigs++sgn 125 :: sgn 59 :: r))):=by
   rw[toksD,if_neg hk3,if_pos hk] at h;simpa using h
  have e1:=h'.len
  have h1:=h'.adv
  obtain ⟨h2,h3⟩:=h1.named q1
  have e3:=h3.len
  obtain ⟨h4,h5⟩:=fms_bk hT (List.all_eq_true.1 q2) h3 (by simp[okK,nx,wInterface]) (by simp at e1 e3;omega)
  have h6:At ((formalsC rT c.adv.name).2.adv.must [123]) (semK toksG d.sigs++sgn 125 :: sgn 59 :: r):=h5.adv.must
  have e6:=h6.len
  obtain ⟨h7,h8⟩:=until_bk (rd:=sigC rT) (st:=stG) (tk:=toksG) (N:=N) d.sigs (fun x hx c r h hr hn=>sig_bk hT (List.all_eq_true.1 q4 x hx) h hr hn) (fun x hx r=>by
   have:=rightG_parts (List.all_eq_true.1 q4 x hx)
   exact nx_word _ (name_not_sign this.1 (by decide))) _ _ _ h6 (Nat.lt_succ_self _) (by simp at e1 e6;omega)
  have hsg:d.flds=[]:=q9.elim (fun h=>absurd h.1 (by omega)) (·.2)
  rw[typedC,h5.next,if_pos (nx_wordS _ _)]
  refine ⟨?_,h8.must⟩
  simp only[stD]
  rw[h2,h4,show (untilF (sigC rT) ((formalsC rT c.adv.name).2.adv.must [123])).1.map stG=d.sigs.map stG from h7,hsg,q5,q6,q7,q8,hk,hs0,hb0]
include hE
theorem method_bk {d:Dc} (hd:rightD d=true) (hk:d.kind=3) {c:Cur} {r:List Kt} (h:At c (toksD d++r)) (hn:c.l.length < N):stD (methodC rT rE c.adv).1=stD d∧At (methodC rT rE c.adv).2 r:=by
 obtain ⟨q1,q2,q3,q4,q5,q6,q7,q8⟩:=rightD_method hd hk
 have h':At c ((1,wFunc) :: sgn 40 :: (1,d.recv) :: (1,d.name) :: (brK (d.vars.map varK)++sgn 41 :: (toksG d.sig++sgn 123 :: (1,wReturn) :: (toksE d.body++sgn 125 :: sgn 59 :: r)))):=by
  rw[toksD,if_pos hk] at h;simpa using h
 have e1:=h'.len
 have h1:=h'.adv.must
 obtain ⟨h2,h3⟩:=h1.named q5
 obtain ⟨h4,h5⟩:=h3.named q1
 obtain ⟨h6,h7⟩:=recv_bk (List.all_eq_true.1 q6) h5
 have h8:=h7.must
 have e8:=h8.len
 obtain ⟨h9,h10⟩:=sig_bk hT q7 h8 (okK_s (by decide) _) (by simp at e1 e8;omega)
 have h11:At (allC [[123],wReturn] (sigC rT ((recvC (c.adv.must [40]).name.name).2.must [41])).2) (toksE d.body++sgn 125 :: sgn 59 :: r):=by
  rw[allC_cons,allC_cons];exact h10.must.mustW
 have e11:=h11.len
 obtain ⟨h12,h13⟩:=hE d.body q8 _ _ h11 (okE_s (by decide) (by decide) _) (by simp at e1 e11;omega)
 refine ⟨?_,?_⟩
 ·simp only[stD,methodC]
  rw[h2,h4,h6,h9,h12,hk,q2,q3,q4]
 ·have:At (allC [[125],[59]] (rE (allC [[123],wReturn] (sigC rT ((recvC (c.adv.must [40]).name.name).2.must [41])).2)).2) r:=by
   rw[allC_cons,allC_cons];exact h13.must.must
  exact this
theorem decls_bk:∀ (l:List Dc),(∀ d∈l,rightD d=true)→∀ (m:Nat) (c:Cur) (r:List Kt),At c (l.flatMap toksD++(1,wFunc) :: (1,wMain) :: r)→c.l.length < m→c.l.length < N →
  (declsC rT rE m c).1.map stD=l.map stD∧At (declsC rT rE m c).2 ((1,wMain) :: r)
 | [],_,m,c,r,h,hm,_=>by
  cases m with
  | zero=>omega
  | succ m=>
   have h':At c ((1,wFunc) :: (1,wMain) :: r):=by simpa using h
   rw[declsC,h'.next,h'.next,h'.adv.next,if_neg (by rw[nx_word _ (by decide)];exact Bool.false_ne_true),if_pos (nx_wordS _ _),if_pos (nx_wordS _ _)]
   exact ⟨rfl,h'.adv⟩
 | d :: l,hd,m,c,r,h,hm,hn=>by
  cases m with
  | zero=>omega
  | succ m=>
   have h':At c (toksD d++(l.flatMap toksD++(1,wFunc) :: (1,wMain) :: r)):=by simpa using h
   have hdd:=hd d (by simp)
   have e1:=h'.len
   have hlen:=toksD_pos d
   rcases rightD_kinds hdd with hk|hk|⟨hk,-⟩
   ·obtain ⟨h1,h2⟩:=typed_bk hT hdd (.inl hk) h' hn
    have e2:=h2.len
    obtain ⟨h3,h4⟩:=decls_bk l (fun x hx=>hd x (by simp[hx])) m _ r h2 (by simp at e1 e2;omega) (by simp at e1 e2;omega)
    have hnx:c.next wType=true:=by
     rw[h'.next,toksD,if_neg (by omega),if_neg (by omega)];exact nx_wordS _ _
    rw[declsC,if_pos hnx]
    exact ⟨by simp[h1,h3],h4⟩
   ·obtain ⟨h1,h2⟩:=typed_bk hT hdd (.inr hk) h' hn
    have e2:=h2.len
    obtain ⟨h3,h4⟩:=decls_bk l (fun x hx=>hd x (by simp[hx])) m _ r h2 (by simp at e1 e2;omega) (by simp at e1 e2;omega)
    have hnx:c.next wType=true:=by
     rw[h'.next,toksD,if_neg (by omega),if_pos hk];exact nx_wordS _ _
    rw[declsC,if_pos hnx]
    exact ⟨by simp[h1,h3],h4⟩
   ·obtain ⟨h1,h2⟩:=method_bk hT hE hdd hk h' hn
    have e2:=h2.len
    obtain ⟨h3,h4⟩:=decls_bk l (fun x hx=>hd x (by simp[hx])) m _ r h2 (by simp at e1 e2;omega) (by simp at e1 e2;omega)
    have h'':=h'
    rw[toksD,if_pos hk] at h''
    have hnx:c.next wType=false:=by rw[h''.next];exact nx_word _ (by decide)
    have hnf:c.next wFunc=true:=by rw[h''.next];exact nx_wordS _ _
    have hnm:c.adv.next wMain=false:=by rw[At.next (h''.adv)];exact nx_sign _ (by decide)
    rw[declsC,if_neg (by rw[hnx];exact Bool.false_ne_true),if_pos hnf,if_neg (by rw[hnm];exact Bool.false_ne_true)]
    exact ⟨by simp[h1,h3],h4⟩
theorem program_bk {p:Pg} (hp:rightPg p=true) {c:Cur} {r:List Kt} (h:At c (toksP p++r)) (hn:c.l.length < N):stP (programC rT rE c).1=stP p∧At (programC rT rE c).2 r:=by
 simp only[rightPg,Bool.and_eq_true,List.all_eq_true] at hp
 have h':At c ((1,wPackage) :: (1,wMain) :: sgn 59 :: (p.decls.flatMap toksD++(1,wFunc) :: (1,wMain) :: sgn 40 :: sgn 41 :: sgn 123 :: sgn 95 :: sgn 61 :: (toksE p.main++sgn 125 :: r))):=by
  simpa[toksP,headK,mainK] using h
 have e1:=h'.len
 have h1:At (allC [wPackage,wMain,[59]] c) (p.decls.flatMap toksD++(1,wFunc) :: (1,wMain) :: sgn 40 :: sgn 41 :: sgn 123 :: sgn 95 :: sgn 61 :: (toksE p.main++sgn 125 :: r)):=by
  rw[allC_cons,allC_cons,allC_cons];exact h'.mustW.mustW.must
 have e2:=h1.len
 obtain ⟨h2,h3⟩:=decls_bk hT hE p.decls hp.1 _ _ _ h1 (Nat.lt_succ_self _) (by simp at e1 e2;omega)
 have h4:At (allC [wMain,[40],[41],[123],[95],[61]] (declsC rT rE ((allC [wPackage,wMain,[59]] c).l.length+1) (allC [wPackage,wMain,[59]] c)).2) (toksE p.main++sgn 125 :: r):=by
  simp only[allC_cons];exact h3.mustW.must.must.must.must.must
 have e4:=h4.len
 obtain ⟨h5,h6⟩:=hE p.main hp.2 _ _ h4 (okE_s (by decide) (by decide) _) (by simp at e1 e4;omega)
 refine ⟨?_,h6.must⟩
 simp only[stP,programC]
 rw[h2,h5]
end
theorem prog_bk {p:Pg} (hp:rightPg p=true) {l:List Tk} (hl:l.map ktOf=toksP p++[(3,[])]):stP (rdP l).1=stP p∧At (rdP l).2 [(3,[])]:=
 program_bk (N:=l.length+1) (fun t ht c r h hr hn=>type_bk t ht _ c r h hr hn) (fun e he c r h hr hn=>expr_back he h hr hn) hp (c:=⟨l,none⟩) ⟨rfl,hl⟩ (Nat.lt_succ_self _)
end Go.Pv
end

section
/- What the reference (castingsref08) reads with a place: declarations and programs; that the package parse reads the same. -/
namespace Go.Pv
open Go

section
variable (L:List Tk) (rT:Pl→Ty×Pl) (rE:Pl→Exp×Pl)
def itemR (p:Pl):Fm×Pl:=if (p.name L).bad then (⟨p.nm L,ty0,p.at_ L⟩,p.name L) else (⟨p.nm L,(rT (p.name L)).1,p.at_ L⟩,(rT (p.name L)).2)
def pairsL (e:Str):Nat→Pl→List Fm×Pl
 | 0,p=>([],p)
 | m+1,p=>if (itemR L rT p).2.is L [44] then ((itemR L rT p).1 :: (pairsL e m (itemR L rT p).2.adv).1,(pairsL e m (itemR L rT p).2.adv).2) else ([(itemR L rT p).1],(itemR L rT p).2.must L e)
def pairsR (e:Str) (p:Pl):List Fm×Pl:=if p.bad then ([],p) else pairsL L rT e (L.length - p.k) p
def formalsR (p:Pl):List Fm×Pl:=if p.is L [91] then pairsR L rT [93] p.adv else ([],p)
def parR (p:Pl):List Fm×Pl:=if (p.must L [40]).is L [41] then ([],(p.must L [40]).adv) else pairsR L rT [41] (p.must L [40])
def tyR (p:Pl):Ty×Pl:=if p.bad then (ty0,p) else rT p
def exR (p:Pl):Exp×Pl:=if p.bad then (ex0,p) else rE p
def sigR (p:Pl):Sg×Pl:=
 (⟨p.nm L,(formalsR L rT (p.name L)).1,(parR L rT (formalsR L rT (p.name L)).2).1,(tyR rT (parR L rT (formalsR L rT (p.name L)).2).2).1,p.at_ L⟩,(tyR rT (parR L rT (formalsR L rT (p.name L)).2).2).2)
end
section
variable (L:List Tk) {α:Type} (rd:Pl→α×Pl)
def untilL:Nat→Pl→List α×Pl
 | 0,p=>([],p)
 | m+1,p=>if !p.bad&&!p.is L [125] then ((rd p).1 :: (untilL m ((rd p).2.must L [59])).1,(untilL m ((rd p).2.must L [59])).2) else ([],p)
def untilR (p:Pl):List α×Pl:=untilL L rd (L.length - p.k) p
end
section
variable (L:List Tk) (rT:Pl→Ty×Pl) (rE:Pl→Exp×Pl)
def wordsR (ws:List Str) (p:Pl):Pl:=ws.foldl (fun p w=>p.must L w) p
def typedH (p:Pl):List Fm×Pl:=formalsR L rT ((p.must L wType).name L)
def typedR (p:Pl):Dc×Pl:=
 if (typedH L rT p).2.is L wInterface then
  (⟨2,(p.must L wType).nm L,(typedH L rT p).1,[],(untilR L (sigR L rT) ((typedH L rT p).2.adv.must L [123])).1,[],[],sg0,ex0,(p.must L wType).at_ L⟩,((untilR L (sigR L rT) ((typedH L rT p).2.adv.must L [123])).2.must L [125]).must L [59])
 else (⟨1,(p.must L wType).nm L,(typedH L rT p).1,(untilR L (itemR L rT) (((typedH L rT p).2.must L wStruct).must L [123])).1,[],[],[],sg0,ex0,(p.must L wType).at_ L⟩,((untilR L (itemR L rT) (((typedH L rT p).2.must L wStruct).must L [123])).2.must L [125]).must L [59])
def varsL:Nat→Pl→List Str×Pl
 | 0,p=>([],p)
 | m+1,p=>if (p.adv.name L).is L [44] then (p.adv.nm L :: (varsL m (p.adv.name L)).1,(varsL m (p.adv.name L)).2) else ([p.adv.nm L],p.adv.name L)
def recvR (p:Pl):List Str×Pl:=if p.is L [91] then ((varsL L (L.length - p.k) p).1,(varsL L (L.length - p.k) p).2.must L [93]) else ([],p)
def methodR (p:Pl):Dc×Pl:=
 let c0:=(p.must L wFunc).must L [40]
 let c1:=c0.name L
 let v:=recvR L (c1.name L)
 let s:=sigR L rT (v.2.must L [41])
 let b:=exR rE ((s.2.must L [123]).must L wReturn)
 (⟨3,c1.nm L,[],[],[],c0.nm L,v.1,s.1,b.1,c1.at_ L⟩,(b.2.must L [125]).must L [59])
def declsL:Nat→Pl→List Dc×Pl
 | 0,p=>([],p)
 | m+1,p=>
  if p.bad then ([],p)
  else if p.is L wType then ((typedR L rT p).1 :: (declsL m (typedR L rT p).2).1,(declsL m (typedR L rT p).2).2)
  else if p.is L wFunc&&!p.adv.is L wMain then ((methodR L rT rE p).1 :: (declsL m (methodR L rT rE p).2).1,(declsL m (methodR L rT rE p).2).2)
  else ([],p)
def declsR (p:Pl):List Dc×Pl:=declsL L rT rE (L.length - p.k) p
def programR (p:Pl):Pg×Pl:=
 let d:=declsR L rT rE (wordsR L [wPackage,wMain,[59]] p)
 let e:=exR rE (wordsR L [wFunc,wMain,[40],[41],[123],[95],[61]] d.2)
 (⟨d.1,e.1⟩,e.2.must L [125])
def declR (p:Pl):Dc×Pl:=if p.is L wFunc then methodR L rT rE p else typedR L rT p
end
def rpR (l:List Tk):Pg×Pl:=programR l (typeR l (l.length+1)) (exprR l (l.length+1)) ⟨0,false⟩
def rdR (l:List Tk):Dc×Pl:=declR l (typeR l (l.length+1)) (exprR l (l.length+1)) ⟨0,false⟩
def declC (rT:Cur→Ty×Cur) (rE:Cur→Exp×Cur) (c:Cur):Dc×Cur:=
 if c.next wType then typedC rT c.adv else if c.next wFunc then methodC rT rE c.adv else (dc0,c.fail)
theorem declC_suf {rT:Cur→Ty×Cur} {rE:Cur→Exp×Cur} (hT:∀ c,(rT c).2.l <:+ c.l) (hE:∀ c,(rE c).2.l <:+ c.l) (c:Cur):(declC rT rE c).2.l <:+ c.l:=by
 unfold declC
 split
 ·exact (typedC_suf hT _).trans c.adv_suf
 ·split
  ·exact (methodC_suf hT hE _).trans c.adv_suf
  ·exact c.fail_suf
def rdD (l:List Tk):Dc×Cur:=declC (typeC (l.length+1)) (exprC (l.length+1)) ⟨l,none⟩

structure SimA {α:Type} (L:List Tk) (rc:Cur→α×Cur) (rp:Pl→α×Pl):Prop where
 sim:∀ c p,Rel L c p→Rel L (rc c).2 (rp p).2∧((rp p).2.bad=false→p.bad=false∧(rc c).1=(rp p).1)
 suf:∀ c,(rc c).2.l <:+ c.l
theorem Pl.fail_bad {p:Pl} (h:p.bad=true):p.fail=p:=by cases p;simp only at h;subst h;rfl
theorem Rel.of (L:List Tk) {p:Pl} (h:p.k < L.length):Rel L ⟨L.drop p.k,if p.bad then some (hdK L p).2.2 else none⟩ p:=
 ⟨rfl,h,by cases p.bad<;>rfl,fun a ha=>by
  cases hb:p.bad with
  | true=>simp[hb] at ha;exact ha.symm
  | false=>simp[hb] at ha⟩
theorem Rel.len {L:List Tk} {c:Cur} {p:Pl} (r:Rel L c p):c.l.length=L.length - p.k:=by rw[r.l,List.length_drop]
theorem Rel.mono {L:List Tk} {c c':Cur} {p p':Pl} (r:Rel L c p) (r':Rel L c' p') (h:c'.l.length≤c.l.length):p.k≤p'.k:=by
 have h1:=r.len;have h2:=r'.len;have h3:=r.lt;have h4:=r'.lt;omega
theorem SimA.goes {α:Type} {L:List Tk} {rc:Cur→α×Cur} {rp:Pl→α×Pl} (h:SimA L rc rp):Goes L rp:=fun p hp=>by
 have r:=Rel.of L hp
 obtain ⟨r2,-⟩:=h.sim _ _ r
 exact ⟨r.mono r2 (h.suf _).length_le,r2.lt⟩
theorem Sim.all {α:Type} {L:List Tk} {rc:Cur→α×Cur} {rp:Pl→α×Pl} {n:Nat} (h:Sim L rc rp n) (hn:L.length < n):SimA L rc rp:=⟨fun c p r=>h.sim c p r (by omega),h.suf⟩
theorem Rel.isErr {L:List Tk} {c:Cur} {p:Pl} (r:Rel L c p) (h:p.bad=true):c.err.isSome=true:=by rw[r.err,h]
theorem Pl.is_no {L:List Tk} {p:Pl} (h:p.bad=true) (s:Str):p.is L s=false:=by rw[Pl.is,h];rfl
theorem Pl.must_no {L:List Tk} {p:Pl} (h:p.bad=true) (s:Str):p.must L s=p:=by rw[Pl.must,Pl.is_no h];exact Pl.fail_bad h
theorem Pl.name_no {L:List Tk} {p:Pl} (h:p.bad=true):p.name L=p:=by
 have:p.named L=false:=by rw[Pl.named,h];rfl
 rw[Pl.name,this];exact Pl.fail_bad h

section
variable {L:List Tk} (hE:EndsT L) {tc:Cur→Ty×Cur} {tp:Pl→Ty×Pl} (hT:SimA L tc tp) (hTs:∀ c:Cur,c.err.isSome=true→(tc c).2=c)
include hE hT hTs
theorem sim_ty {c:Cur} {p:Pl} (r:Rel L c p):Rel L (tc c).2 (tyR tp p).2∧((tyR tp p).2.bad=false→p.bad=false∧(tc c).1=(tyR tp p).1):=by
 cases hb:p.bad with
 | true=>
  rw[tyR,if_pos hb,hTs c (r.isErr hb)]
  exact ⟨r,fun h=>by rw[show p.bad=false from h] at hb;cases hb⟩
 | false=>
  rw[tyR,if_neg (by rw[hb];exact Bool.false_ne_true)]
  have h:=hT.sim c p r
  rw[hb] at h
  exact h
theorem sim_item:SimA L (itemC tc) (itemR L tp):=⟨fun c p r=>by
 have r1:=r.name hE
 have h:=sim_ty hE hT hTs r1
 have e2:(itemR L tp p).2=(tyR tp (p.name L)).2:=by unfold itemR tyR;split<;>rfl
 have e1:(itemR L tp p).1=⟨p.nm L,(tyR tp (p.name L)).1,p.at_ L⟩:=by unfold itemR tyR;split<;>rfl
 rw[e1,e2]
 refine ⟨h.1,fun hb=>?_⟩
 obtain ⟨h3,h4⟩:=h.2 hb
 refine ⟨Pl.name_bad h3,?_⟩
 show (⟨c.nm,(tc c.name).1,c.at_⟩:Fm)=_
 rw[r.nm,r.pos,h4],fun c=>itemC_suf hT.suf c⟩
theorem sim_pairsL (e:Str):∀ (m m':Nat) (c:Cur) (p:Pl),Rel L c p→L.length - p.k≤m→c.l.length < m' →
  Rel L (pairsC tc e m' c).2 (pairsL L tp e m p).2∧((pairsL L tp e m p).2.bad=false→p.bad=false∧(pairsC tc e m' c).1=(pairsL L tp e m p).1)
 | 0,_,c,p,r,hm,_=>by have h1:=r.lt;omega
 | _+1,0,c,p,r,_,hm=>by omega
 | m+1,m'+1,c,p,r,hm,hm'=>by
  have hi:=sim_item hE hT hTs
  obtain ⟨r1,v1⟩:=hi.sim c p r
  rw[pairsC,pairsL,r1.next]
  cases h44:(itemR L tp p).2.is L [44] with
  | true=>
   simp only[if_true]
   have r2:=r1.adv hE h44
   have hl:=r.len
   have hl1:=r1.len
   have hl2:=r2.len
   have hs:=(hi.suf c).length_le
   have ha:=Cur.adv_len (c:=(itemC tc c).2) (s:=[44]) (by rw[r1.next,h44])
   obtain ⟨r3,v3⟩:=sim_pairsL e m m' _ _ r2 (by omega) (by omega)
   refine ⟨r3,fun hb=>?_⟩
   obtain ⟨h5,h6⟩:=v3 hb
   obtain ⟨h7,h8⟩:=v1 h5
   exact ⟨h7,by rw[h8,h6]⟩
  | false=>
   simp only[Bool.false_eq_true,if_false]
   refine ⟨r1.must hE e,fun hb=>?_⟩
   obtain ⟨h7,h8⟩:=v1 (Pl.must_bad hb).1
   exact ⟨h7,by rw[h8]⟩
theorem itemC_still {c:Cur} (he:c.err.isSome=true):(itemC tc c).2=c:=by
 show (tc c.name).2=c
 rw[Cur.name_err he];exact hTs c he
theorem pairsC_still (e:Str) (m:Nat) {c:Cur} (he:c.err.isSome=true):(pairsC tc e m c).2=c:=by
 cases m with
 | zero=>rfl
 | succ m=>
  rw[pairsC,itemC_still hE hT hTs he,Cur.err_next he]
  exact Cur.must_err he
theorem sim_pairs (e:Str):SimA L (pairsF tc e) (pairsR L tp e):=⟨fun c p r=>by
 unfold pairsF pairsR
 cases hb:p.bad with
 | true=>
  rw[pairsC_still hE hT hTs e _ (r.isErr hb)]
  exact ⟨r,fun h=>by rw[show p.bad=false from h] at hb;cases hb⟩
 | false=>
  have:=sim_pairsL hE hT hTs e (L.length - p.k) (c.l.length+1) c p r (Nat.le_refl _) (Nat.lt_succ_self _)
  rw[hb] at this
  exact this,fun c=>pairsC_suf hT.suf e _ c⟩
theorem sim_formals:SimA L (formalsC tc) (formalsR L tp):=⟨fun c p r=>by
 unfold formalsC formalsR
 rw[r.next]
 cases h:p.is L [91] with
 | true=>
  simp only[if_true]
  obtain ⟨r1,v1⟩:=(sim_pairs hE hT hTs [93]).sim _ _ (r.adv hE h)
  exact ⟨r1,fun hb=>⟨(Pl.is_bad h).1,(v1 hb).2⟩⟩
 | false=>
  simp only[Bool.false_eq_true,if_false]
  exact ⟨r,fun hb=>⟨hb,trivial⟩⟩,fun c=>formalsC_suf hT.suf c⟩
theorem sim_par:SimA L (parC tc) (parR L tp):=⟨fun c p r=>by
 unfold parC parR
 have r0:=r.must hE [40]
 rw[r0.next]
 cases h:(p.must L [40]).is L [41] with
 | true=>
  simp only[if_true]
  exact ⟨r0.adv hE h,fun hb=>⟨(Pl.must_bad (Pl.is_bad h).1).1,trivial⟩⟩
 | false=>
  simp only[Bool.false_eq_true,if_false]
  obtain ⟨r1,v1⟩:=(sim_pairs hE hT hTs [41]).sim _ _ r0
  exact ⟨r1,fun hb=>⟨(Pl.must_bad (v1 hb).1).1,(v1 hb).2⟩⟩,fun c=>parC_suf hT.suf c⟩
theorem sim_sig:SimA L (sigC tc) (sigR L tp):=⟨fun c p r=>by
 have r1:=r.name hE
 obtain ⟨r2,v2⟩:=(sim_formals hE hT hTs).sim _ _ r1
 obtain ⟨r3,v3⟩:=(sim_par hE hT hTs).sim _ _ r2
 obtain ⟨r4,v4⟩:=sim_ty hE hT hTs r3
 refine ⟨r4,fun hb=>?_⟩
 obtain ⟨h1,h2⟩:=v4 hb
 obtain ⟨h3,h4⟩:=v3 h1
 obtain ⟨h5,h6⟩:=v2 h3
 refine ⟨Pl.name_bad h5,?_⟩
 unfold sigC sigR
 rw[r.nm,r.pos,h2,h4,h6],fun c=>sigC_suf hT.suf c⟩
omit hT hTs in
theorem sim_until {α:Type} {rc:Cur→α×Cur} {rp:Pl→α×Pl} (h:SimA L rc rp) (hp:∀ c,(rc c).2.err.isSome=true∨(rc c).2.l.length+1≤c.l.length):∀ (m m':Nat) (c:Cur) (p:Pl),Rel L c p→(p.bad=false→L.length - p.k≤m)→(p.bad=false→c.l.length < m') →
  Rel L (untilC rc m' c).2 ((untilL L rp m p).2.must L [125])∧(((untilL L rp m p).2.must L [125]).bad=false→p.bad=false∧(untilC rc m' c).1=(untilL L rp m p).1)
 | m,m',c,p,r,hm,hm'=>by
  cases hb:p.bad with
  | true=>
   have e1:untilC rc m' c=([],c):=untilC_err rc m' (r.isErr hb)
   have e2:untilL L rp m p=([],p):=by
    cases m with
    | zero=>rfl
    | succ m=>rw[untilL,hb];rfl
   rw[e1,e2,Pl.must_no hb]
   exact ⟨r,fun h=>by rw[hb] at h;cases h⟩
  | false=>
   have hlt:=r.lt
   have hm1:=hm hb
   have hm2:=hm' hb
   obtain ⟨m,rfl⟩:∃ i,m=i+1:=⟨m - 1,by omega⟩
   obtain ⟨m',rfl⟩:∃ i,m'=i+1:=⟨m' - 1,by omega⟩
   have he:c.err.isSome=false:=by rw[r.err,hb]
   cases h125:p.is L [125] with
   | true=>
    rw[untilC_end rc m' (by rw[r.next,h125]),untilL,hb,h125]
    simp only[Bool.not_true,Bool.and_false,Bool.false_eq_true,if_false]
    rw[Pl.must,if_pos h125]
    exact ⟨r.adv hE h125,fun _=>⟨trivial,trivial⟩⟩
   | false=>
    rw[untilC_go rc m' (by rw[r.next,h125]) he,untilL,hb,h125]
    simp only[Bool.not_false,Bool.and_self,if_true]
    obtain ⟨r1,v1⟩:=h.sim c p r
    have r2:=r1.must hE [59]
    have hl:=r.len
    have hl2:=r2.len
    have hs:=Cur.must_len (rc c).2 [59]
    have hq:((rp p).2.must L [59]).bad=false→((rc c).2.must [59]).l.length+1≤c.l.length:=fun h=>by
     have h1:=(Pl.must_bad h).1
     rcases hp c with h2|h2
     ·rw[r1.err,h1] at h2;cases h2
     ·omega
    obtain ⟨r3,v3⟩:=sim_until h hp m m' _ _ r2 (fun h=>by have:=hq h;have:=r2.lt;omega) (fun h=>by have:=hq h;omega)
    refine ⟨r3,fun hb=>?_⟩
    obtain ⟨h5,h6⟩:=v3 hb
    obtain ⟨h7,h8⟩:=v1 (Pl.must_bad h5).1
    exact ⟨trivial,by rw[h8,h6]⟩
theorem sim_typed:∀ c p,Rel L c p→p.is L wType=true→Rel L (typedC tc c.adv).2 (typedR L tp p).2∧((typedR L tp p).2.bad=false→(typedC tc c.adv).1=(typedR L tp p).1):=fun c p r hty=>by
 have r0:=r.adv hE hty
 have em:p.must L wType=p.adv:=by rw[Pl.must,if_pos hty]
 have r1:=r0.name hE
 obtain ⟨r2,v2⟩:=(sim_formals hE hT hTs).sim _ _ r1
 have hte:∀ c:Cur,c.err.isSome=true→(tc c).2.err.isSome=true:=fun c h=>by rw[hTs c h];exact h
 unfold typedC typedR typedH
 rw[em,r2.next]
 cases hi:(formalsR L tp (p.adv.name L)).2.is L wInterface with
 | true=>
  simp only[if_true]
  have r3:=(r2.adv hE hi).must hE [123]
  obtain ⟨r4,v4⟩:=sim_until hE (sim_sig hE hT hTs) (fun c=>sigC_prog hT.suf hte c) (L.length - ((formalsR L tp (p.adv.name L)).2.adv.must L [123]).k) _ _ _ r3 (fun _=>Nat.le_refl _) (fun _=>Nat.lt_succ_self _)
  refine ⟨r4.must hE [59],fun hb=>?_⟩
  obtain ⟨h5,h6⟩:=v4 (Pl.must_bad hb).1
  obtain ⟨h7,h8⟩:=v2 (Pl.is_bad hi).1
  unfold untilF untilR
  rw[r0.nm,r0.pos,h6,h8]
 | false=>
  simp only[Bool.false_eq_true,if_false]
  have r3:=(r2.must hE wStruct).must hE [123]
  obtain ⟨r4,v4⟩:=sim_until hE (sim_item hE hT hTs) (fun c=>itemC_prog hT.suf hte c) (L.length - (((formalsR L tp (p.adv.name L)).2.must L wStruct).must L [123]).k) _ _ _ r3 (fun _=>Nat.le_refl _) (fun _=>Nat.lt_succ_self _)
  refine ⟨r4.must hE [59],fun hb=>?_⟩
  obtain ⟨h5,h6⟩:=v4 (Pl.must_bad hb).1
  obtain ⟨h7,h8⟩:=v2 (Pl.must_bad (Pl.must_bad h5).1).1
  unfold untilF untilR
  rw[allC_cons,allC_cons]
  show (⟨1,c.adv.nm,_,(untilC (itemC tc) _ _).1,_,_,_,_,_,_⟩:Dc)=_
  rw[r0.nm,r0.pos,h8]
  congr 1
end
section
variable {L:List Tk} (hE:EndsT L)
include hE
theorem sim_varsL:∀ (m m':Nat) (c:Cur) (p:Pl),Rel L c.adv p.adv→L.length - p.k≤m→c.adv.l.length < m' →
  Rel L (varsC m' c.adv).2 (varsL L m p).2∧((varsL L m p).2.bad=false→p.bad=false∧(varsC m' c.adv).1=(varsL L m p).1)
 | 0,_,c,p,r,hm,_=>by have h1:=r.lt;have h2:p.adv.k=p.k+1:=rfl;omega
 | _+1,0,c,p,r,_,hm=>by omega
 | m+1,m'+1,c,p,r,hm,hm'=>by
  have r1:=r.name hE
  rw[varsC,varsL,r1.next]
  cases h44:(p.adv.name L).is L [44] with
  | true=>
   simp only[if_true]
   have r2:=r1.adv hE h44
   have hl:=r.len
   have hl2:=r2.len
   have h2:p.adv.k=p.k+1:=rfl
   have h3:(p.adv.name L).adv.k=(p.adv.name L).k+1:=rfl
   have hs:=Cur.name_len c.adv
   have ha:=Cur.adv_len (c:=c.adv.name) (s:=[44]) (by rw[r1.next,h44])
   have hlt:=r.lt
   have hlt2:=r2.lt
   obtain ⟨r3,v3⟩:=sim_varsL m m' c.adv.name (p.adv.name L) r2 (by omega) (by omega)
   refine ⟨r3,fun hb=>?_⟩
   obtain ⟨h5,h6⟩:=v3 hb
   exact ⟨Pl.name_bad (p:=p.adv) h5,by rw[h6,r.nm]⟩
  | false=>
   simp only[Bool.false_eq_true,if_false]
   exact ⟨r1,fun hb=>⟨Pl.name_bad (p:=p.adv) hb,by rw[r.nm]⟩⟩
theorem sim_recv:SimA L recvC (recvR L):=⟨fun c p r=>by
 unfold recvC recvR
 rw[r.next]
 cases h:p.is L [91] with
 | true=>
  simp only[if_true]
  have ha:=Cur.adv_len (c:=c) (s:=[91]) (by rw[r.next,h])
  obtain ⟨r1,v1⟩:=sim_varsL hE (L.length - p.k) (c.l.length+1) c p (r.adv hE h) (Nat.le_refl _) (by omega)
  exact ⟨r1.must hE [93],fun hb=>v1 (Pl.must_bad hb).1⟩
 | false=>
  simp only[Bool.false_eq_true,if_false]
  exact ⟨r,fun hb=>⟨hb,trivial⟩⟩,recvC_suf⟩
theorem sim_all:∀ (ws:List Str) (c:Cur) (p:Pl),Rel L c p→Rel L (allC ws c) (wordsR L ws p)∧((wordsR L ws p).bad=false→p.bad=false)
 | [],c,p,r=>⟨r,fun h=>h⟩
 | w :: ws,c,p,r=>by
  obtain ⟨r1,v1⟩:=sim_all ws _ _ (r.must hE w)
  exact ⟨r1,fun h=>(Pl.must_bad (v1 h)).1⟩
end
section
variable {L:List Tk} (hE:EndsT L) {tc:Cur→Ty×Cur} {tp:Pl→Ty×Pl} (hT:SimA L tc tp) (hTs:∀ c:Cur,c.err.isSome=true→(tc c).2=c)
 {xc:Cur→Exp×Cur} {xp:Pl→Exp×Pl} (hX:SimA L xc xp) (hXs:∀ c:Cur,c.err.isSome=true→(xc c).2=c)
include hE hX hXs
theorem sim_ex {c:Cur} {p:Pl} (r:Rel L c p):Rel L (xc c).2 (exR xp p).2∧((exR xp p).2.bad=false→p.bad=false∧(xc c).1=(exR xp p).1):=by
 cases hb:p.bad with
 | true=>
  rw[exR,if_pos hb,hXs c (r.isErr hb)]
  exact ⟨r,fun h=>by rw[show p.bad=false from h] at hb;cases hb⟩
 | false=>
  rw[exR,if_neg (by rw[hb];exact Bool.false_ne_true)]
  have h:=hX.sim c p r
  rw[hb] at h
  exact h
include hT hTs
theorem sim_method:∀ c p,Rel L c p→p.is L wFunc=true→Rel L (methodC tc xc c.adv).2 (methodR L tp xp p).2∧((methodR L tp xp p).2.bad=false→(methodC tc xc c.adv).1=(methodR L tp xp p).1):=fun c p r hfn=>by
 have r0:=(r.adv hE hfn).must hE [40]
 have em:p.must L wFunc=p.adv:=by rw[Pl.must,if_pos hfn]
 have r1:=r0.name hE
 have r2:=r1.name hE
 obtain ⟨r3,v3⟩:=(sim_recv hE).sim _ _ r2
 obtain ⟨r4,v4⟩:=(sim_sig hE hT hTs).sim _ _ (r3.must hE [41])
 obtain ⟨r5,v5⟩:=sim_ex hE hX hXs ((r4.must hE [123]).must hE wReturn)
 have r6:=(r5.must hE [125]).must hE [59]
 unfold methodC methodR
 simp only[em]
 refine ⟨r6,fun hb=>?_⟩
 obtain ⟨h1,h2⟩:=v5 (Pl.must_bad (Pl.must_bad hb).1).1
 obtain ⟨h3,h4⟩:=v4 (Pl.must_bad (Pl.must_bad h1).1).1
 obtain ⟨h5,h6⟩:=v3 (Pl.must_bad h3).1
 rw[r0.nm,r1.nm,r1.pos,h4,h6]
 congr 1
theorem sim_decls:∀ (m m':Nat) (c:Cur) (p:Pl),Rel L c p→(p.bad=false→L.length - p.k≤m)→(p.bad=false→c.l.length < m') →
  Rel L (declsC tc xc m' c).2 ((declsL L tp xp m p).2.must L wFunc)∧(((declsL L tp xp m p).2.must L wFunc).bad=false→p.bad=false∧(declsC tc xc m' c).1=(declsL L tp xp m p).1)
 | m,m',c,p,r,hm,hm'=>by
  cases hb:p.bad with
  | true=>
   have he:=r.isErr hb
   have e1:(declsC tc xc m' c).2=c:=by
    cases m' with
    | zero=>rfl
    | succ m'=>rw[declsC,Cur.err_next he,Cur.err_next he];simp[Cur.fail,he]
   have e2:declsL L tp xp m p=([],p):=by
    cases m with
    | zero=>rfl
    | succ m=>rw[declsL,if_pos hb]
   rw[e1,e2,Pl.must_no hb]
   exact ⟨r,fun h=>by rw[hb] at h;cases h⟩
  | false=>
   have hlt:=r.lt
   have hm1:=hm hb
   have hm2:=hm' hb
   obtain ⟨m,rfl⟩:∃ i,m=i+1:=⟨m - 1,by omega⟩
   obtain ⟨m',rfl⟩:∃ i,m'=i+1:=⟨m' - 1,by omega⟩
   have hl:=r.len
   rw[declsC,declsL,r.next,r.next]
   simp only[hb,Bool.false_eq_true,if_false]
   cases hty:p.is L wType with
   | true=>
    simp only[if_true]
    obtain ⟨r1,v1⟩:=sim_typed hE hT hTs c p r hty
    have hl1:=r1.len
    have hlt1:=r1.lt
    have hs:=(typedC_suf hT.suf c.adv).length_le
    have ha:=Cur.adv_len (c:=c) (s:=wType) (by rw[r.next,hty])
    obtain ⟨r3,v3⟩:=sim_decls m m' _ _ r1 (fun _=>by omega) (fun _=>by omega)
    refine ⟨r3,fun hb=>?_⟩
    obtain ⟨h5,h6⟩:=v3 hb
    exact ⟨trivial,by rw[v1 h5,h6]⟩
   | false=>
    simp only[Bool.false_eq_true,if_false]
    cases hfn:p.is L wFunc with
    | false=>
     simp only[Bool.false_and,Bool.false_eq_true,if_false]
     rw[Pl.must,if_neg (by rw[hfn];exact Bool.false_ne_true)]
     exact ⟨r.fail,fun h=>by cases h⟩
    | true=>
     simp only[Bool.true_and,if_true]
     have r0:=r.adv hE hfn
     rw[r0.next]
     cases hmn:p.adv.is L wMain with
     | true=>
      simp only[Bool.not_true,Bool.false_eq_true,if_false,if_true]
      rw[Pl.must,if_pos hfn]
      exact ⟨r0,fun _=>⟨trivial,trivial⟩⟩
     | false=>
      simp only[Bool.not_false,Bool.false_eq_true,if_false,if_true]
      obtain ⟨r1,v1⟩:=sim_method hE hT hTs hX hXs c p r hfn
      have hl1:=r1.len
      have hlt1:=r1.lt
      have hs:=(methodC_suf hT.suf hX.suf c.adv).length_le
      have ha:=Cur.adv_len (c:=c) (s:=wFunc) (by rw[r.next,hfn])
      obtain ⟨r3,v3⟩:=sim_decls m m' _ _ r1 (fun _=>by omega) (fun _=>by omega)
      refine ⟨r3,fun hb=>?_⟩
      obtain ⟨h5,h6⟩:=v3 hb
      exact ⟨trivial,by rw[v1 h5,h6]⟩
theorem sim_program:SimA L (programC tc xc) (programR L tp xp):=⟨fun c p r=>by
 obtain ⟨r0,v0⟩:=sim_all hE [wPackage,wMain,[59]] c p r
 obtain ⟨r1,v1⟩:=sim_decls hE hT hTs hX hXs _ _ _ _ r0 (fun _=>Nat.le_refl _) (fun _=>Nat.lt_succ_self _)
 obtain ⟨r2,v2⟩:=sim_all hE [wMain,[40],[41],[123],[95],[61]] _ _ r1
 obtain ⟨r3,v3⟩:=sim_ex hE hX hXs r2
 refine ⟨r3.must hE [125],fun hb=>?_⟩
 obtain ⟨h1,h2⟩:=v3 (Pl.must_bad hb).1
 obtain ⟨h3,h4⟩:=v1 (v2 h1)
 refine ⟨v0 h3,?_⟩
 show (⟨_,_⟩:Pg)=⟨_,_⟩
 rw[h4,h2];rfl,fun c=>programC_suf hT.suf hX.suf c⟩
theorem sim_decl:∀ c p,Rel L c p→Rel L (declC tc xc c).2 (declR L tp xp p).2∧((declR L tp xp p).2.bad=false→p.bad=false∧(declC tc xc c).1=(declR L tp xp p).1):=fun c p r=>by
 unfold declC declR
 rw[r.next,r.next]
 cases hfn:p.is L wFunc with
 | true=>
  have hty:p.is L wType=false:=by
   cases h:p.is L wType with
   | false=>rfl
   | true=>
    simp only[Pl.is,Bool.and_eq_true,beq_iff_eq] at h hfn
    rw[h.2] at hfn
    exact absurd hfn.2 (by decide)
  simp only[hty,Bool.false_eq_true,if_false,if_true]
  obtain ⟨r1,v1⟩:=sim_method hE hT hTs hX hXs c p r hfn
  exact ⟨r1,fun hb=>⟨(Pl.is_bad hfn).1,v1 hb⟩⟩
 | false=>
  cases hty:p.is L wType with
  | true=>
   simp only[Bool.false_eq_true,if_false,if_true]
   obtain ⟨r1,v1⟩:=sim_typed hE hT hTs c p r hty
   exact ⟨r1,fun hb=>⟨(Pl.is_bad hty).1,v1 hb⟩⟩
  | false=>
   simp only[Bool.false_eq_true,if_false]
   have em:p.must L wType=p.fail:=by rw[Pl.must,if_neg (by rw[hty];exact Bool.false_ne_true)]
   have hf:p.fail.bad=true:=rfl
   have e2:(typedR L tp p).2=p.fail:=by
    have ef:formalsR L tp p.fail=([],p.fail):=by rw[formalsR,Pl.is_no hf];rfl
    have eu:∀ {α:Type} (rd:Pl→α×Pl),(untilR L rd p.fail).2=p.fail:=fun rd=>by
     unfold untilR
     cases L.length - p.fail.k with
     | zero=>rfl
     | succ m=>rw[untilL,hf];rfl
    unfold typedR typedH
    rw[em,Pl.name_no hf,ef,Pl.is_no hf]
    simp only[Bool.false_eq_true,if_false]
    rw[Pl.must_no hf,Pl.must_no hf,eu,Pl.must_no hf,Pl.must_no hf]
   rw[e2]
   exact ⟨r.fail,fun h=>by cases h⟩
end
theorem simT {l:List Tk} (hE:EndsT l):SimA l (typeC (l.length+1)) (typeR l (l.length+1)):=(sim_type hE _).all (Nat.lt_succ_self _)
theorem simX {l:List Tk} (hE:EndsT l):SimA l (exprC (l.length+1)) (exprR l (l.length+1)):=(sim_expr hE _).all (Nat.lt_succ_self _)
theorem prog_same {l:List Tk} (hE:EndsT l):Rel l (rdP l).2 (rpR l).2∧((rpR l).2.bad=false→(rdP l).1=(rpR l).1):=by
 obtain ⟨h1,h2⟩:=(sim_program hE (simT hE) (typeC_err _) (simX hE) (exprC_err _)).sim _ _ (rel0 hE)
 exact ⟨h1,fun h=>(h2 h).2⟩
theorem decl_same {l:List Tk} (hE:EndsT l):Rel l (rdD l).2 (rdR l).2∧((rdR l).2.bad=false→(rdD l).1=(rdR l).1):=by
 obtain ⟨h1,h2⟩:=sim_decl hE (simT hE) (typeC_err _) (simX hE) (exprC_err _) _ _ (rel0 hE)
 exact ⟨h1,fun h=>(h2 h).2⟩
end Go.Pv
end

import Derived.Test.YtepbmjchhcmcoaaGreatDoorPvFa
import Derived.Test.YtepbmjchhcmcoaaGreatDoorPvRf
set_option linter.all false
section
/- Texts as the reference builds them, item by item. -/
namespace Go.Pv
open Go

theorem wtFs_take : ∀ (l : List Fm) (k : Nat), wtFs (l.take k) ≤ wtFs l
  | [], k => by simp
  | f :: r, 0 => by simp [wtFs]
  | f :: r, k + 1 => by
    have := wtFs_take r k
    simp only [List.take_succ_cons, wtFs]; omega
theorem wtSs_take : ∀ (l : List Str) (k : Nat), wtSs (l.take k) ≤ wtSs l
  | [], k => by simp
  | f :: r, 0 => by simp [wtSs]
  | f :: r, k + 1 => by
    have := wtSs_take r k
    simp only [List.take_succ_cons, wtSs]; omega
def jK (l : List Str) (k : Nat) : Str := Lib.join (l.take k) [44, 32]
theorem jK_zero (l : List Str) : jK l 0 = [] := by simp [jK, Lib.join_nil]
theorem jK_first (l : List Str) (h : 0 < l.length) : jK l 1 = l[0] := by rw [jK, join_take l _ 0 h, if_pos rfl]
theorem jK_succ (l : List Str) (k : Nat) (hk : k < l.length) (h0 : ¬ k = 0) : jK l (k + 1) = jK l k ++ [44, 32] ++ l[k] := by rw [jK, join_take l _ k hk, if_neg h0]; rfl
theorem jK_all (l : List Str) : jK l l.length = Lib.join l [44, 32] := by rw [jK, List.take_length]
theorem jK_F (l : List Fm) (k : Nat) : (jK (l.map txF) k).length ≤ 5 * wtFs l := by
  have h1 := joinF_wt (l.take k)
  have h2 := wtFs_take l k
  rw [jK, ← List.map_take]; omega
theorem jK_V (l : List Str) (k : Nat) : (jK l k).length ≤ 2 * wtSs l := by
  have h1 := varsT_wt (l.take k)
  have h2 := wtSs_take l k
  rw [jK]; omega
def bK (l : List Str) (k : Nat) : Str := if k = 0 then [] else 91 :: jK l k
theorem bK_zero (l : List Str) : bK l 0 = [] := rfl
theorem bK_first (l : List Str) (h : 0 < l.length) : bK l 1 = (91 : UInt8) :: (l[0] : Str) := by
  have := jK_first l h
  unfold bK
  rw [if_neg (by decide), this]
theorem bK_succ (l : List Str) (k : Nat) (hk : k < l.length) (h0 : ¬ k = 0) : bK l (k + 1) = bK l k ++ [44, 32] ++ l[k] := by
  have := jK_succ l k hk h0
  unfold bK
  rw [if_neg (by omega), if_neg h0, this]; simp
theorem bK_len (l : List Str) (k : Nat) : (bK l k).length ≤ (jK l k).length + 1 := by
  unfold bK; split <;> simp
theorem bK_at0 (l : List Str) (k : Nat) (hk : k < l.length) (h0 : k = 0) : bK l (k + 1) = (91 : UInt8) :: (l[k] : Str) := by subst h0; exact bK_first l hk
theorem jK_at0 (l : List Str) (k : Nat) (hk : k < l.length) (h0 : k = 0) : jK l (k + 1) = jK l k ++ l[k] := by
  subst h0
  rw [jK_zero, show jK l (0 + 1) = l[0] from jK_first l hk]; rfl
theorem fmsT_bK (l : List Fm) : fmsT l = if l.isEmpty then [] else bK (l.map txF) l.length ++ [93] := by
  unfold fmsT
  split
  · rfl
  · rename_i h
    have h2 : ¬ l.length = 0 := fun he => h (by rw [List.eq_nil_of_length_eq_zero he]; rfl)
    have h3 := jK_all (l.map txF)
    rw [List.length_map] at h3
    rw [bK, if_neg h2, h3]; rfl
theorem varsT_bK (l : List Str) : varsT l = if l.isEmpty then [] else bK l l.length ++ [93] := by
  unfold varsT
  split
  · rfl
  · rename_i h
    have h2 : ¬ l.length = 0 := fun he => h (by rw [List.eq_nil_of_length_eq_zero he]; rfl)
    rw [bK, if_neg h2, jK_all]; rfl
theorem lines_succF (l : List Fm) (k : Nat) (hk : k < l.length) : flT ((l.map lnF).map lineT) (k + 1) = flT ((l.map lnF).map lineT) k ++ (9 :: (l[k].name ++ 32 :: (txt l[k].ty ++ [59, 10]))) := by
  rw [flT_succ _ k (by simpa using hk)]; simp [lineT, lnF, txF]
theorem lines_succG (l : List Sg) (k : Nat) (hk : k < l.length) : flT ((l.map lnG).map lineT) (k + 1) = flT ((l.map lnG).map lineT) k ++ (9 :: (sigT l[k] ++ [59, 10])) := by
  rw [flT_succ _ k (by simpa using hk)]; simp [lineT, lnG]
theorem lines_lenF (l : List Fm) (k : Nat) : (flT ((l.map lnF).map lineT) k).length ≤ 5 * wtFs l + 3 * l.length := Nat.le_trans (flN_le _ k) (linesF_wt l)
theorem lines_lenG (l : List Sg) (k : Nat) : (flT ((l.map lnG).map lineT) k).length ≤ 20 * wtGs l := Nat.le_trans (flN_le _ k) (linesG_wt l)
theorem lines_allF (l : List Fm) : flT ((l.map lnF).map lineT) l.length = ((l.map lnF).map lineT).flatten := by
  have := flT_all ((l.map lnF).map lineT)
  rwa [List.length_map, List.length_map] at this
theorem lines_allG (l : List Sg) : flT ((l.map lnG).map lineT) l.length = ((l.map lnG).map lineT).flatten := by
  have := flT_all ((l.map lnG).map lineT)
  rwa [List.length_map, List.length_map] at this
theorem decls_len (l : List Dc) (k : Nat) : (flT (l.map declT) k).length ≤ 100 * wtDs l := by
  have h1 := flN_le (l.map declT) k
  have h2 := joinD_wt l
  rw [join_empty] at h2
  unfold flN at h1; omega
theorem decls_succ (l : List Dc) (k : Nat) (hk : k < l.length) : flT (l.map declT) (k + 1) = flT (l.map declT) k ++ declT l[k] := by
  rw [flT_succ _ k (by simpa using hk)]; simp
theorem decls_all (l : List Dc) : flT (l.map declT) l.length = Lib.join (l.map declT) [] := by
  have := flT_all (l.map declT)
  rw [List.length_map] at this
  rw [this, join_empty]

end Go.Pv
end

section
/- The parts of a right program and of its text. -/
namespace Go.Pv
open Go

theorem rightD_kinds {d : Dc} (h : rightD d = true) : d.kind = 1 ∨ d.kind = 2 ∨ (d.kind = 3 ∧ rightE d.body = true) := by
  unfold rightD at h
  by_cases h3 : d.kind = 3
  · rw [if_pos (by simp [h3])] at h
    simp only [Bool.and_eq_true] at h
    exact .inr (.inr ⟨h3, h.2.2⟩)
  · rw [if_neg (by simp [h3])] at h
    by_cases h1 : d.kind = 1
    · exact .inl h1
    · by_cases h2 : d.kind = 2
      · exact .inr (.inl h2)
      · rw [if_neg (by simp [h1]), if_neg (by simp [h2])] at h
        simp at h
theorem rightPg_parts {p : Pg} (h : rightPg p = true) : rightE p.main = true ∧ (∀ d ∈ p.decls, d.kind = 1 ∨ d.kind = 2 ∨ rightE d.body = true) ∧ (∀ d ∈ p.decls, d.kind = 1 ∨ d.kind = 2 ∨ (d.kind = 3 ∧ rightE d.body = true)) := by
  simp only [rightPg, Bool.and_eq_true, List.all_eq_true] at h
  refine ⟨h.2, fun d hd => ?_, fun d hd => rightD_kinds (h.1 d hd)⟩
  rcases rightD_kinds (h.1 d hd) with h1 | h1 | h1
  · exact .inl h1
  · exact .inr (.inl h1)
  · exact .inr (.inr h1.2)
end Go.Pv
end

section
/- Declarations without offsets; the tokens of their texts. -/
namespace Go.Pv
open Go

def stF (f : Fm) : Fm := ⟨f.name, stT f.ty, 0⟩
def stG (s : Sg) : Sg := ⟨s.name, s.fms.map stF, s.pms.map stF, stT s.res, 0⟩
def stD (d : Dc) : Dc := ⟨d.kind, d.name, d.fms.map stF, d.flds.map stF, d.sigs.map stG, d.recv, d.vars, stG d.sig, stE d.body, 0⟩
def stP (p : Pg) : Pg := ⟨p.decls.map stD, stE p.main⟩
theorem eqL_st {α β : Type} {f : α → α → Bool} {st : α → β} : ∀ {a b : List α}, (∀ x ∈ a, ∀ y ∈ b, (f x y = true ↔ st x = st y)) → (eqL f a b = true ↔ a.map st = b.map st)
  | [], [], _ => by simp [eqL]
  | [], _ :: _, _ => by simp [eqL]
  | _ :: _, [], _ => by simp [eqL]
  | x :: a, y :: b, h => by
    have h1 := h x (by simp) y (by simp)
    have h2 := eqL_st (a := a) (b := b) fun x hx y hy => h x (by simp [hx]) y (by simp [hy])
    rw [eqL_cons]; simp [h1, h2]
theorem sameF_st (a b : Fm) : sameF a b = true ↔ stF a = stF b := by
  have := cmpT_st a.ty b.ty
  simp [sameF, stF, this]
theorem sameFs_st (a b : List Fm) : eqL sameF a b = true ↔ a.map stF = b.map stF := eqL_st fun x _ y _ => sameF_st x y
theorem sameG_st (a b : Sg) : sameG a b = true ↔ stG a = stG b := by
  have h1 := sameFs_st a.fms b.fms
  have h2 := sameFs_st a.pms b.pms
  have h3 := cmpT_st a.res b.res
  simp [sameG, stG, h1, h2, h3, and_assoc]
theorem txt_st (t : Ty) : txt (stT t) = txt t := by
  induction t using Ty.ind with
  | h n ts p ih =>
    rw [stT_mk, txt_br, txt_br, List.map_map]
    rw [show (ts.map (txt ∘ stT)) = ts.map txt from List.map_congr_left ih]
    cases ts <;> rfl
theorem txtE_st (e : Exp) : txtE (stE e) = txtE e := by
  induction e using Exp.ind with
  | h k n t a l p ih =>
    have hl : (l.map stE).map txtE = l.map txtE := by
      rw [List.map_map]; exact List.map_congr_left ih
    have ha : (a.map stT).map txt = a.map txt := by
      rw [List.map_map]; exact List.map_congr_left (fun t _ => txt_st t)
    rw [stE_mk]
    simp only [txtE, txtEs_map, hl, txt_st, txt_br, ha]
    cases a <;> rfl
theorem txF_st (f : Fm) : txF (stF f) = txF f := by simp [txF, stF, txt_st]
theorem txFs_st (l : List Fm) : (l.map stF).map txF = l.map txF := by rw [List.map_map]; exact List.map_congr_left fun f _ => txF_st f
theorem fmsT_st (l : List Fm) : fmsT (l.map stF) = fmsT l := by
  unfold fmsT
  rw [txFs_st]
  cases l <;> rfl
theorem sigT_st (s : Sg) : sigT (stG s) = sigT s := by
  have h1 := txFs_st s.pms
  simp only [sigT, stG, fmsT_st, h1, txt_st]
theorem lns_st (d : Dc) : (d.flds.map stF).map lnF ++ (d.sigs.map stG).map lnG = d.flds.map lnF ++ d.sigs.map lnG := by
  rw [List.map_map, List.map_map]
  congr 1
  · exact List.map_congr_left fun f _ => by simp [lnF, txF_st]
  · exact List.map_congr_left fun f _ => by simp [lnG, sigT_st]
theorem declT_st (d : Dc) : declT (stD d) = declT d := by
  have h1 := lns_st d
  simp only [declT, linesT, frontT, stD, fmsT_st, sigT_st, txtE_st, h1]
theorem progT_st (p : Pg) : progT (stP p) = progT p := by
  have h1 : (p.decls.map stD).map declT = p.decls.map declT := by rw [List.map_map]; exact List.map_congr_left fun d _ => declT_st d
  simp only [progT, stP, txtE_st, h1]

def toksF (f : Fm) : List Kt := (1, f.name) :: toksT f.ty
def toksG (s : Sg) : List Kt := (1, s.name) :: (brK (s.fms.map toksF) ++ sgn 40 :: (commaK (s.pms.map toksF) ++ sgn 41 :: toksT s.res))
def varK (v : Str) : List Kt := [(1, v)]
def semK {α : Type} (tk : α → List Kt) (l : List α) : List Kt := l.flatMap fun x => tk x ++ [sgn 59]
def toksD (d : Dc) : List Kt :=
  if d.kind = 3 then (1, wFunc) :: sgn 40 :: (1, d.recv) :: (1, d.name) :: (brK (d.vars.map varK) ++ sgn 41 :: (toksG d.sig ++ sgn 123 :: (1, wReturn) :: (toksE d.body ++ [sgn 125, sgn 59])))
  else if d.kind = 2 then (1, wType) :: (1, d.name) :: (brK (d.fms.map toksF) ++ (1, wInterface) :: sgn 123 :: (semK toksG d.sigs ++ [sgn 125, sgn 59]))
  else (1, wType) :: (1, d.name) :: (brK (d.fms.map toksF) ++ (1, wStruct) :: sgn 123 :: (semK toksF d.flds ++ [sgn 125, sgn 59]))
def headK : List Kt := [(1, wPackage), (1, wMain), sgn 59]
def mainK (e : Exp) : List Kt := (1, wFunc) :: (1, wMain) :: sgn 40 :: sgn 41 :: sgn 123 :: sgn 95 :: sgn 61 :: (toksE e ++ [sgn 125])
def toksP (p : Pg) : List Kt := headK ++ ((p.decls.flatMap toksD) ++ mainK p.main)

def BX (s : Str) (k : List Kt) : Prop := ∀ x, tkK (s ++ x) = (tkK x).map (k ++ ·)
theorem BX.app {s t : Str} {k l : List Kt} (h : BX s k) (h2 : BX t l) : BX (s ++ t) (k ++ l) := fun x => by
  rw [List.append_assoc, h, h2, omap2]
theorem BX_nil : BX [] [] := fun x => by cases h : tkK x <;> simp [h]
theorem BX_sign {c : UInt8} (h : 0 ≤ Lib.indexByte signs c) : BX [c] [sgn c] := fun x => lx_sign h x
theorem BX_blank {c : UInt8} (h : clsI c.toNat = 4) : BX [c] [] := fun x => by
  rw [List.singleton_append, tkK_cons, if_pos h]
  cases tkK x <;> rfl
theorem LX.app {s t : Str} {k l : List Kt} (h : LX s k) (h2 : BX t l) (he : ∀ x, endB (t ++ x)) : BX (s ++ t) (k ++ l) := fun x => by
  rw [List.append_assoc, h _ (he x), h2, omap2]
theorem LX.appL {s t : Str} {k l : List Kt} (h : LX s k) (h2 : LX t l) (he : ∀ x, endB x → endB (t ++ x)) : LX (s ++ t) (k ++ l) := fun x hx => by
  rw [List.append_assoc, h _ (he x hx), h2 x hx, omap2]
theorem BX.appL {s t : Str} {k l : List Kt} (h : BX s k) (h2 : LX t l) : LX (s ++ t) (k ++ l) := fun x hx => by
  rw [List.append_assoc, h, h2 x hx, omap2]
theorem LX_word {c : UInt8} {r : Str} (h1 : clsI c.toNat = 1) (h2 : (c :: r).all goodB = true) : LX (c :: r) [(1, c :: r)] := fun x hx => by
  have hp : ¬ Lib.hasPrefix (c :: (r ++ x)) [47, 47] = true := fun hp => by
    have := pre_ne hp
    subst this
    revert h1; decide
  have hw := wordN_end (c :: r) x h2 hx
  rw [List.cons_append] at hw
  rw [List.cons_append, tkK_cons, if_neg (by omega), if_neg hp, if_pos h1, hw]
  have e1 : (c :: (r ++ x)).drop (c :: r).length = x := by rw [← List.cons_append]; simp
  have e2 : (c :: (r ++ x)).take (c :: r).length = c :: r := by rw [← List.cons_append]; simp
  rw [e1, e2]; rfl
theorem LX_name {n : Str} (h : isName n = true) : LX n [(1, n)] := fun x hx => by rw [lx_name h hx]; rfl
theorem endB_app {c : UInt8} {r : Str} (h : goodB c = false) (x : Str) : endB ((c :: r) ++ x) := endB_c h

theorem LX_txF {f : Fm} (h : rightF f = true) : LX (txF f) (toksF f) := by
  simp only [rightF, Bool.and_eq_true] at h
  have h1 : LX ([32] ++ txt f.ty) (toksT f.ty) := (BX_blank (c := 32) (by decide)).appL (lx_txt _ h.2)
  have := (LX_name h.1).appL h1 (fun x _ => by rw [List.append_assoc]; exact endB_c (by decide))
  rw [← List.append_assoc] at this
  exact this
theorem LX_br {α : Type} (tx : α → Str) (tk : α → List Kt) (l : List α) (h : ∀ a ∈ l, LX (tx a) (tk a)) : LX (if l.isEmpty then [] else [91] ++ Lib.join (l.map tx) [44, 32] ++ [93]) (brK (l.map tk)) ∧ ∀ x, endB x → endB ((if l.isEmpty then [] else [91] ++ Lib.join (l.map tx) [44, 32] ++ [93]) ++ x) := by
  cases l with
  | nil => exact ⟨fun x _ => by cases hq : tkK x <;> simp [brK, hq], fun x hx => by simpa using hx⟩
  | cons a l =>
    simp only [List.isEmpty_cons, Bool.false_eq_true, if_false]
    refine ⟨fun x hx => ?_, fun x _ => by simp only [List.append_assoc]; exact endB_c (by decide)⟩
    simp only [List.append_assoc, List.singleton_append, List.cons_append, List.nil_append]
    rw [lx_sign (by decide), lx_join tx tk (a :: l) h _ (endB_c (by decide)), lx_sign (by decide)]
    cases tkK x <;> simp [brK]
theorem LX_fms {l : List Fm} (h : l.all rightF = true) : LX (fmsT l) (brK (l.map toksF)) ∧ ∀ x, endB x → endB (fmsT l ++ x) := LX_br txF toksF l fun f hf => LX_txF (List.all_eq_true.1 h f hf)
theorem LX_vars {l : List Str} (h : l.all isName = true) : LX (varsT l) (brK (l.map varK)) ∧ ∀ x, endB x → endB (varsT l ++ x) := by
  have := LX_br id varK l fun v hv => LX_name (List.all_eq_true.1 h v hv)
  rw [List.map_id] at this
  exact this
theorem rightG_parts {s : Sg} (h : rightG s = true) : isName s.name = true ∧ s.fms.all rightF = true ∧ s.pms.all rightF = true ∧ rightT s.res = true := by
  simp only [rightG, Bool.and_eq_true] at h
  exact ⟨h.1.1.1, h.1.1.2, h.1.2, h.2⟩
theorem LX_sig {s : Sg} (h : rightG s = true) : LX (sigT s) (toksG s) := by
  obtain ⟨h1, h2, h3, h4⟩ := rightG_parts h
  obtain ⟨h5, h6⟩ := LX_fms h2
  intro x hx
  have e : sigT s ++ x = s.name ++ (fmsT s.fms ++ 40 :: (Lib.join (s.pms.map txF) [44, 32] ++ 41 :: 32 :: (txt s.res ++ x))) := by simp [sigT, List.append_assoc]
  rw [e, lx_name h1 (h6 _ (endB_c (by decide))), h5 _ (endB_c (by decide)), lx_sign (by decide), lx_join txF toksF s.pms (fun f hf => LX_txF (List.all_eq_true.1 h3 f hf)) _ (endB_c (by decide)), lx_sign (by decide), lx_blank, lx_txt _ h4 x hx, toksG]
  cases tkK x <;> simp
theorem BX_lines {α : Type} (tx : α → Str) (tk : α → List Kt) : ∀ l : List α, (∀ a ∈ l, LX (tx a) (tk a)) → BX ((l.map fun a => lineT (tx a ++ [59])).flatten) (semK tk l)
  | [], _ => BX_nil
  | a :: l, h => by
    have h1 := BX_lines tx tk l fun b hb => h b (by simp [hb])
    have h2 : BX ([59] ++ [10]) ([sgn 59] ++ []) := (BX_sign (by decide)).app (BX_blank (by decide))
    have h3 := (h a (by simp)).app h2 (fun x => by rw [List.append_assoc]; exact endB_c (by decide))
    have h4 := ((BX_blank (c := 9) (by decide)).app h3).app h1
    have e : ((a :: l).map fun a => lineT (tx a ++ [59])).flatten = [9] ++ (tx a ++ ([59] ++ [10])) ++ (l.map fun a => lineT (tx a ++ [59])).flatten := by simp [lineT]
    rw [e]
    have e2 : semK tk (a :: l) = [] ++ (tk a ++ ([sgn 59] ++ [])) ++ semK tk l := by simp [semK]
    rw [e2]; exact h4
theorem BX_end : BX [125, 59, 10] [sgn 125, sgn 59] := (BX_sign (c := 125) (by decide)).app ((BX_sign (c := 59) (by decide)).app (BX_blank (c := 10) (by decide)))
theorem BX_open : BX [32, 123, 10] [sgn 123] := (BX_blank (c := 32) (by decide)).app ((BX_sign (c := 123) (by decide)).app (BX_blank (c := 10) (by decide)))

theorem rightD_typed {d : Dc} (h : rightD d = true) (hk : d.kind = 1 ∨ d.kind = 2) : isName d.name = true ∧ d.fms.all rightF = true ∧ d.flds.all rightF = true ∧ d.sigs.all rightG = true ∧ d.recv = [] ∧ d.vars = [] ∧ stG d.sig = sg0 ∧ stE d.body = ex0 ∧ ((d.kind = 1 ∧ d.sigs = []) ∨ (d.kind = 2 ∧ d.flds = [])) := by
  rw [rightD_eq] at h
  unfold rightDR at h
  rw [if_neg (by simp; omega)] at h
  simp only [Bool.and_eq_true, Bool.or_eq_true, beq_iff_eq, eqG_false, List.isEmpty_iff, List.length_eq_zero_iff, sameG_st, sameE_st] at h
  exact ⟨h.1.1.1.1.1, h.1.1.1.1.2, h.1.1.1.2, h.1.1.2, h.2.1.1.1.1, h.2.1.1.1.2, h.2.1.1.2, h.2.1.2, h.2.2⟩
theorem rightD_method {d : Dc} (h : rightD d = true) (hk : d.kind = 3) : isName d.name = true ∧ d.fms = [] ∧ d.flds = [] ∧ d.sigs = [] ∧ isName d.recv = true ∧ d.vars.all isName = true ∧ rightG d.sig = true ∧ rightE d.body = true := by
  rw [rightD_eq] at h
  unfold rightDR at h
  rw [if_pos (by simp [hk])] at h
  simp only [Bool.and_eq_true, beq_iff_eq] at h
  have h5 := h.2.1.1.2
  refine ⟨h.1.1.1.1.1, List.eq_nil_of_length_eq_zero (by omega), List.eq_nil_of_length_eq_zero (by omega), List.eq_nil_of_length_eq_zero (by omega), h.2.1.1.1, h.1.2, h.2.1.2, h.2.2⟩
theorem lx_word {w : Str} (h : LX w [(1, w)]) (x : Str) (hx : endB x) : tkK (w ++ x) = (tkK x).map ((1, w) :: ·) := h x hx
theorem LX_type : LX wType [(1, wType)] := LX_word (by decide) (by decide)
theorem LX_func : LX wFunc [(1, wFunc)] := LX_word (by decide) (by decide)
theorem LX_struct : LX wStruct [(1, wStruct)] := LX_word (by decide) (by decide)
theorem LX_iface : LX wInterface [(1, wInterface)] := LX_word (by decide) (by decide)
theorem LX_return : LX wReturn [(1, wReturn)] := LX_word (by decide) (by decide)
theorem LX_main : LX wMain [(1, wMain)] := LX_word (by decide) (by decide)
theorem LX_package : LX wPackage [(1, wPackage)] := LX_word (by decide) (by decide)
theorem BX_decl {d : Dc} (h : rightD d = true) : BX (declT d) (toksD d) := by
  have hb : ∀ x, endB (32 :: x) := fun x => endB_c (by decide)
  rcases rightD_kinds h with hk | hk | ⟨hk, -⟩
  · obtain ⟨h1, h2, h3, -, -, -, -, -, h4⟩ := rightD_typed h (.inl hk)
    have hs : d.sigs = [] := h4.elim (·.2) (fun h => absurd h.1 (by omega))
    obtain ⟨h5, h6⟩ := LX_fms h2
    have h7 := BX_lines txF toksF d.flds fun f hf => LX_txF (List.all_eq_true.1 h3 f hf)
    intro x
    have e : declT d ++ x = wType ++ 32 :: (d.name ++ (fmsT d.fms ++ 32 :: (wStruct ++ ([32, 123, 10] ++ ((d.flds.map fun a => lineT (txF a ++ [59])).flatten ++ ([125, 59, 10] ++ x)))))) := by
      rw [declT, blockT, frontT, linesT, if_pos hk, if_pos (.inl hk), hs]
      simp [wTy, wType, wStruct, List.append_assoc, lnF, Function.comp_def]
    rw [e, lx_word LX_type _ (hb _), lx_blank, lx_name h1 (h6 _ (hb _)), h5 _ (hb _), lx_blank, lx_word LX_struct _ (endB_app (by decide) _), BX_open, h7, BX_end, toksD, if_neg (by omega), if_neg (by omega)]
    cases tkK x <;> simp
  · obtain ⟨h1, h2, -, h3, -, -, -, -, h4⟩ := rightD_typed h (.inr hk)
    have hs : d.flds = [] := h4.elim (fun h => absurd h.1 (by omega)) (·.2)
    obtain ⟨h5, h6⟩ := LX_fms h2
    have h7 := BX_lines sigT toksG d.sigs fun f hf => LX_sig (List.all_eq_true.1 h3 f hf)
    intro x
    have e : declT d ++ x = wType ++ 32 :: (d.name ++ (fmsT d.fms ++ 32 :: (wInterface ++ ([32, 123, 10] ++ ((d.sigs.map fun a => lineT (sigT a ++ [59])).flatten ++ ([125, 59, 10] ++ x)))))) := by
      rw [declT, blockT, frontT, linesT, if_neg (by omega), if_pos hk, if_pos (.inr hk), hs]
      simp [wTy, wType, wInterface, List.append_assoc, lnG, Function.comp_def]
    rw [e, lx_word LX_type _ (hb _), lx_blank, lx_name h1 (h6 _ (hb _)), h5 _ (hb _), lx_blank, lx_word LX_iface _ (endB_app (by decide) _), BX_open, h7, BX_end, toksD, if_neg (by omega), if_pos hk]
    cases tkK x <;> simp
  · obtain ⟨h1, -, -, -, h2, h3, h4, h5⟩ := rightD_method h hk
    obtain ⟨h6, h7⟩ := LX_vars h3
    intro x
    have e : declT d ++ x = wFunc ++ 32 :: 40 :: (d.recv ++ 32 :: (d.name ++ (varsT d.vars ++ 41 :: 32 :: (sigT d.sig ++ ([32, 123, 10] ++ 9 :: (wReturn ++ 32 :: (txtE d.body ++ 10 :: ([125, 59, 10] ++ x)))))))) := by
      rw [declT, blockT, frontT, linesT, if_neg (by omega), if_neg (by omega), if_neg (by omega)]
      simp [wFn, wFunc, wRet, wReturn, List.append_assoc, lineT]
    have h9 : ∀ y, tkK (9 :: y) = tkK y := fun y => by rw [tkK_cons, if_pos (by decide)]
    have h10 : ∀ y, tkK (10 :: y) = tkK y := fun y => by rw [tkK_cons, if_pos (by decide)]
    rw [e, lx_word LX_func _ (hb _), lx_blank, lx_sign (by decide), lx_name h2 (hb _), lx_blank, lx_name h1 (h7 _ (endB_c (by decide))), h6 _ (endB_c (by decide)), lx_sign (by decide), lx_blank, LX_sig h4 _ (endB_app (by decide) _), BX_open, h9, lx_word LX_return _ (hb _), lx_blank, lx_txtE _ h5 _ (endB_c (by decide)), h10, BX_end, toksD, if_pos hk]
    cases tkK x <;> simp
theorem BX_decls : ∀ l : List Dc, (∀ d ∈ l, rightD d = true) → BX (Lib.join (l.map declT) []) (l.flatMap toksD)
  | [], _ => BX_nil
  | d :: l, h => by
    have h1 := BX_decls l fun b hb => h b (by simp [hb])
    have h2 := (BX_decl (h d (by simp))).app h1
    rw [join_empty] at h1 h2 ⊢
    simpa using h2
theorem BX_head : BX wHead headK := by
  intro x
  have e : wHead ++ x = wPackage ++ 32 :: (wMain ++ 59 :: 10 :: x) := by simp [wHead, wPackage, wMain]
  have h10 : ∀ y, tkK (10 :: y) = tkK y := fun y => by rw [tkK_cons, if_pos (by decide)]
  rw [e, lx_word LX_package _ (endB_c (by decide)), lx_blank, lx_word LX_main _ (endB_c (by decide)), lx_sign (by decide), h10, headK]
  cases tkK x <;> simp
theorem BX_main {e : Exp} (h : rightE e = true) : BX (blockT wFm [[95, 32, 61, 32] ++ txtE e] ++ [10]) (mainK e) := by
  intro x
  have e1 : blockT wFm [[95, 32, 61, 32] ++ txtE e] ++ [10] ++ x = wFunc ++ 32 :: (wMain ++ 40 :: 41 :: ([32, 123, 10] ++ 9 :: 95 :: 32 :: 61 :: 32 :: (txtE e ++ 10 :: 125 :: 10 :: x))) := by
    simp [blockT, wFm, wFunc, wMain, lineT]
  have h9 : ∀ y, tkK (9 :: y) = tkK y := fun y => by rw [tkK_cons, if_pos (by decide)]
  have h10 : ∀ y, tkK (10 :: y) = tkK y := fun y => by rw [tkK_cons, if_pos (by decide)]
  rw [e1, lx_word LX_func _ (endB_c (by decide)), lx_blank, lx_word LX_main _ (endB_c (by decide)), lx_sign (by decide), lx_sign (by decide), BX_open, h9, lx_sign (by decide), lx_blank, lx_sign (by decide), lx_blank, lx_txtE _ h _ (endB_c (by decide)), h10, lx_sign (by decide), h10, mainK]
  cases tkK x <;> simp
theorem prog_toks {p : Pg} (h : rightPg p = true) : tkK (progT p) = some (toksP p ++ [(3, [])]) := by
  simp only [rightPg, Bool.and_eq_true, List.all_eq_true] at h
  have h1 := (BX_head.app ((BX_decls p.decls h.1).app (BX_main h.2))) []
  rw [List.append_nil, tkK_nil] at h1
  have e : progT p = wHead ++ (Lib.join (p.decls.map declT) [] ++ (blockT wFm [[95, 32, 61, 32] ++ txtE p.main] ++ [10])) := by simp [progT]
  rw [e, h1]; rfl

end Go.Pv
end

import Derived.Test.YtepbmjchhcmcoaaGreatDoorPvDe
import Derived.Test.YtepbmjchhcmcoaaGreatDoorPvOf
set_option linter.all false
section
/- Texts of declarations and programs. -/
namespace Go.Pv
open Go

def txF (f : Fm) : Str := f.name ++ [32] ++ txt f.ty
def fmsT (l : List Fm) : Str := if l.isEmpty then [] else [91] ++ Lib.join (l.map txF) [44, 32] ++ [93]
def varsT (l : List Str) : Str := if l.isEmpty then [] else [91] ++ Lib.join l [44, 32] ++ [93]
def sigT (s : Sg) : Str := s.name ++ fmsT s.fms ++ [40] ++ Lib.join (s.pms.map txF) [44, 32] ++ [41, 32] ++ txt s.res
def lineT (l : Str) : Str := [9] ++ l ++ [10]
def blockT (f : Str) (ls : List Str) : Str := f ++ [32, 123, 10] ++ (ls.map lineT).flatten ++ [125]
def wFn : Str := [102, 117, 110, 99, 32, 40]
def wTy : Str := [116, 121, 112, 101, 32]
def wRet : Str := [114, 101, 116, 117, 114, 110, 32]
def wHead : Str := [112, 97, 99, 107, 97, 103, 101, 32, 109, 97, 105, 110, 59, 10]
def wFm : Str := [102, 117, 110, 99, 32, 109, 97, 105, 110, 40, 41]
def frontT (d : Dc) : Str :=
  if d.kind = 1 then wTy ++ d.name ++ fmsT d.fms ++ [32, 115, 116, 114, 117, 99, 116]
  else if d.kind = 2 then wTy ++ d.name ++ fmsT d.fms ++ [32, 105, 110, 116, 101, 114, 102, 97, 99, 101]
  else wFn ++ d.recv ++ [32] ++ d.name ++ varsT d.vars ++ [41, 32] ++ sigT d.sig
def lnF (f : Fm) : Str := txF f ++ [59]
def lnG (s : Sg) : Str := sigT s ++ [59]
def linesT (d : Dc) : List Str := if d.kind = 1 ∨ d.kind = 2 then d.flds.map lnF ++ d.sigs.map lnG else [wRet ++ txtE d.body]
def declT (d : Dc) : Str := blockT (frontT d) (linesT d) ++ [59, 10]
def mainT (e : Exp) : Str := blockT wFm [[95, 32, 61, 32] ++ txtE e] ++ [10]
def progT (p : Pg) : Str := wHead ++ Lib.join (p.decls.map declT) [] ++ blockT wFm [[95, 32, 61, 32] ++ txtE p.main] ++ [10]

theorem join_len2 (l : List Str) (sep : Str) : (Lib.join l sep).length ≤ (l.map fun s => s.length + sep.length).sum := by
  cases l with
  | nil => simp [Lib.join_nil]
  | cons x r =>
    rw [Lib.join_cons, List.length_append, Lib.joinTail_length]
    have : ∀ r : List Str, sep.length * r.length + Lib.lens r = (r.map fun s => s.length + sep.length).sum := fun r => by
      induction r with
      | nil => simp [Lib.lens]
      | cons y r ih =>
        simp only [Lib.lens, List.map_cons, List.sum_cons, List.length_cons, Nat.mul_succ] at ih ⊢
        omega
    rw [this]
    simp <;> omega
theorem txF_wt (f : Fm) : (txF f).length + 2 ≤ 5 * wtF f := by
  have := txt_wt f.ty
  simp only [txF, List.length_append, List.length_cons, List.length_nil, wtF]
  omega
theorem txFs_wt : ∀ l : List Fm, ((l.map txF).map fun s => s.length + 2).sum ≤ 5 * wtFs l
  | [] => by simp [wtFs]
  | f :: r => by
    have h1 := txFs_wt r
    have h2 := txF_wt f
    simp only [List.map_cons, List.sum_cons, wtFs]
    omega
theorem joinF_wt (l : List Fm) : (Lib.join (l.map txF) [44, 32]).length ≤ 5 * wtFs l := Nat.le_trans (join_len2 _ _) (txFs_wt l)
theorem fmsT_wt (l : List Fm) : (fmsT l).length ≤ 5 * wtFs l + 2 := by
  unfold fmsT
  split
  · simp
  · have := joinF_wt l
    simp; omega
theorem sigT_wt (s : Sg) : (sigT s).length + 4 ≤ 20 * wtG s := by
  have h1 := fmsT_wt s.fms
  have h2 := joinF_wt s.pms
  have h3 := txt_wt s.res
  simp only [sigT, List.length_append, List.length_cons, List.length_nil, wtG]
  omega
theorem varsT_wt (l : List Str) : (Lib.join l [44, 32]).length ≤ 2 * wtSs l := by
  refine Nat.le_trans (join_len2 _ _) ?_
  induction l with
  | nil => simp [wtSs]
  | cons x r ih =>
    simp only [List.map_cons, List.sum_cons, wtSs, List.length_cons, List.length_nil] at ih ⊢
    omega
theorem linesF_wt : ∀ l : List Fm, ((l.map lnF).map lineT).flatten.length ≤ 5 * wtFs l + 3 * l.length
  | [] => by simp [wtFs]
  | f :: r => by
    have h1 := linesF_wt r
    have h2 := txF_wt f
    simp only [List.map_cons, List.flatten_cons, List.length_append, List.length_cons, wtFs]
    have : (lineT (lnF f)).length = (txF f).length + 3 := by simp [lineT, lnF]
    omega
theorem linesG_wt : ∀ l : List Sg, ((l.map lnG).map lineT).flatten.length ≤ 20 * wtGs l
  | [] => by simp [wtGs]
  | f :: r => by
    have h1 := linesG_wt r
    have h2 := sigT_wt f
    simp only [List.map_cons, List.flatten_cons, List.length_append, wtGs]
    have : (lineT (lnG f)).length = (sigT f).length + 3 := by simp [lineT, lnG]
    omega
theorem declT_wt (d : Dc) : (declT d).length ≤ 100 * wtD d := by
  have h1 := fmsT_wt d.fms
  have h2 := linesF_wt d.flds
  have h3 := linesG_wt d.sigs
  have h4 := varsT_wt d.vars
  have h5 := sigT_wt d.sig
  have h6 := txtE_wt d.body
  have h7 := wtFs_len d.flds
  have h8 : (varsT d.vars).length ≤ 2 * wtSs d.vars + 2 := by
    unfold varsT
    split
    · simp
    · simp; omega
  have hf : (frontT d).length + 10 ≤ 50 * wtD d := by
    unfold frontT wtD
    split
    · simp [wTy]; omega
    · split
      · simp [wTy]; omega
      · simp [wFn]; omega
  have hl : ((linesT d).map lineT).flatten.length + 10 ≤ 50 * wtD d := by
    unfold linesT wtD
    split
    · rw [List.map_append, List.flatten_append, List.length_append]; omega
    · simp [lineT, wRet]; omega
  simp only [declT, blockT, List.length_append, List.length_cons, List.length_nil]
  omega
theorem joinD_wt (l : List Dc) : (Lib.join (l.map declT) []).length ≤ 100 * wtDs l := by
  refine Nat.le_trans (join_len2 _ _) ?_
  induction l with
  | nil => simp [wtDs]
  | cons x r ih =>
    have := declT_wt x
    simp only [List.map_cons, List.sum_cons, wtDs, List.length_nil] at ih ⊢
    omega

def bodyLen (ls : List Str) : Nat := (ls.map lineT).flatten.length
@[simp] theorem blockT_len (f : Str) (ls : List Str) : (blockT f ls).length = f.length + 4 + bodyLen ls := by
  simp only [blockT, bodyLen, List.length_append, List.length_cons, List.length_nil]; omega
theorem bodyLen_one (l : Str) : bodyLen [l] = l.length + 2 := by simp [bodyLen, lineT]
theorem bodyLen_d (a : List Fm) (b : List Sg) : bodyLen (a.map lnF ++ b.map lnG) ≤ 5 * wtFs a + 3 * a.length + 20 * wtGs b := by
  have h1 := linesF_wt a
  have h2 := linesG_wt b
  rw [bodyLen, List.map_append, List.flatten_append, List.length_append]; omega
theorem ne_of_isEmpty {α : Type} {l : List α} (h : l.isEmpty = false) : l ≠ [] := fun he => by subst he; cases h
@[simp] theorem rowsS_map {α : Type} (f : α → Str) (l : List α) : Rows 1 (l.map (encS ∘ f)) := fun r hr => by
  obtain ⟨x, -, rfl⟩ := List.mem_map.1 hr
  exact ⟨rfl, rfl⟩
@[simp] theorem rowsS_take {α : Type} (f : α → Str) (l : List α) (k : Nat) : Rows 1 (List.take k (l.map (encS ∘ f))) := fun r hr => by
  obtain ⟨x, -, rfl⟩ := List.mem_map.1 (List.mem_of_mem_take hr)
  exact ⟨rfl, rfl⟩

theorem join_take (l : List Str) (sep : Str) (k : Nat) (hk : k < l.length) : Lib.join (l.take (k + 1)) sep = if k = 0 then l[k] else Lib.join (l.take k) sep ++ sep ++ l[k] := by
  rw [List.take_succ_eq_append_getElem hk, join_snoc]
  by_cases h : k = 0
  · subst h; simp
  · rw [if_neg h, if_neg]
    intro h2
    have := congrArg List.length h2
    rw [List.length_take, List.length_nil] at this
    omega
theorem join_empty (l : List Str) : Lib.join l [] = l.flatten := by
  cases l with
  | nil => rfl
  | cons x r => rw [Lib.join_cons, Lib.joinTail, List.flatten_cons]; simp

end Go.Pv
end

section
/- Texts as the reference builds them, item by item. -/
namespace Go.Pv
open Go

theorem wtFs_take : ∀ (l : List Fm) (k : Nat), wtFs (l.take k) ≤ wtFs l
  | [], k => by simp
  | f :: r, 0 => by simp [wtFs]
  | f :: r, k + 1 => by
    have := wtFs_take r k
    simp only [List.take_succ_cons, wtFs]; omega
theorem wtSs_take : ∀ (l : List Str) (k : Nat), wtSs (l.take k) ≤ wtSs l
  | [], k => by simp
  | f :: r, 0 => by simp [wtSs]
  | f :: r, k + 1 => by
    have := wtSs_take r k
    simp only [List.take_succ_cons, wtSs]; omega
def jK (l : List Str) (k : Nat) : Str := Lib.join (l.take k) [44, 32]
theorem jK_zero (l : List Str) : jK l 0 = [] := by simp [jK, Lib.join_nil]
theorem jK_first (l : List Str) (h : 0 < l.length) : jK l 1 = l[0] := by rw [jK, join_take l _ 0 h, if_pos rfl]
theorem jK_succ (l : List Str) (k : Nat) (hk : k < l.length) (h0 : ¬ k = 0) : jK l (k + 1) = jK l k ++ [44, 32] ++ l[k] := by rw [jK, join_take l _ k hk, if_neg h0]; rfl
theorem jK_all (l : List Str) : jK l l.length = Lib.join l [44, 32] := by rw [jK, List.take_length]
theorem jK_F (l : List Fm) (k : Nat) : (jK (l.map txF) k).length ≤ 5 * wtFs l := by
  have h1 := joinF_wt (l.take k)
  have h2 := wtFs_take l k
  rw [jK, ← List.map_take]; omega
theorem jK_V (l : List Str) (k : Nat) : (jK l k).length ≤ 2 * wtSs l := by
  have h1 := varsT_wt (l.take k)
  have h2 := wtSs_take l k
  rw [jK]; omega
def bK (l : List Str) (k : Nat) : Str := if k = 0 then [] else 91 :: jK l k
theorem bK_zero (l : List Str) : bK l 0 = [] := rfl
theorem bK_first (l : List Str) (h : 0 < l.length) : bK l 1 = (91 : UInt8) :: (l[0] : Str) := by
  have := jK_first l h
  unfold bK
  rw [if_neg (by decide), this]
theorem bK_succ (l : List Str) (k : Nat) (hk : k < l.length) (h0 : ¬ k = 0) : bK l (k + 1) = bK l k ++ [44, 32] ++ l[k] := by
  have := jK_succ l k hk h0
  unfold bK
  rw [if_neg (by omega), if_neg h0, this]; simp
theorem bK_len (l : List Str) (k : Nat) : (bK l k).length ≤ (jK l k).length + 1 := by
  unfold bK; split <;> simp
theorem bK_at0 (l : List Str) (k : Nat) (hk : k < l.length) (h0 : k = 0) : bK l (k + 1) = (91 : UInt8) :: (l[k] : Str) := by subst h0; exact bK_first l hk
theorem jK_at0 (l : List Str) (k : Nat) (hk : k < l.length) (h0 : k = 0) : jK l (k + 1) = jK l k ++ l[k] := by
  subst h0
  rw [jK_zero, show jK l (0 + 1) = l[0] from jK_first l hk]; rfl
theorem fmsT_bK (l : List Fm) : fmsT l = if l.isEmpty then [] else bK (l.map txF) l.length ++ [93] := by
  unfold fmsT
  split
  · rfl
  · rename_i h
    have h2 : ¬ l.length = 0 := fun he => h (by rw [List.eq_nil_of_length_eq_zero he]; rfl)
    have h3 := jK_all (l.map txF)
    rw [List.length_map] at h3
    rw [bK, if_neg h2, h3]; rfl
theorem varsT_bK (l : List Str) : varsT l = if l.isEmpty then [] else bK l l.length ++ [93] := by
  unfold varsT
  split
  · rfl
  · rename_i h
    have h2 : ¬ l.length = 0 := fun he => h (by rw [List.eq_nil_of_length_eq_zero he]; rfl)
    rw [bK, if_neg h2, jK_all]; rfl
theorem lines_succF (l : List Fm) (k : Nat) (hk : k < l.length) : flT ((l.map lnF).map lineT) (k + 1) = flT ((l.map lnF).map lineT) k ++ (9 :: (l[k].name ++ 32 :: (txt l[k].ty ++ [59, 10]))) := by
  rw [flT_succ _ k (by simpa using hk)]; simp [lineT, lnF, txF]
theorem lines_succG (l : List Sg) (k : Nat) (hk : k < l.length) : flT ((l.map lnG).map lineT) (k + 1) = flT ((l.map lnG).map lineT) k ++ (9 :: (sigT l[k] ++ [59, 10])) := by
  rw [flT_succ _ k (by simpa using hk)]; simp [lineT, lnG]
theorem lines_lenF (l : List Fm) (k : Nat) : (flT ((l.map lnF).map lineT) k).length ≤ 5 * wtFs l + 3 * l.length := Nat.le_trans (flN_le _ k) (linesF_wt l)
theorem lines_lenG (l : List Sg) (k : Nat) : (flT ((l.map lnG).map lineT) k).length ≤ 20 * wtGs l := Nat.le_trans (flN_le _ k) (linesG_wt l)
theorem lines_allF (l : List Fm) : flT ((l.map lnF).map lineT) l.length = ((l.map lnF).map lineT).flatten := by
  have := flT_all ((l.map lnF).map lineT)
  rwa [List.length_map, List.length_map] at this
theorem lines_allG (l : List Sg) : flT ((l.map lnG).map lineT) l.length = ((l.map lnG).map lineT).flatten := by
  have := flT_all ((l.map lnG).map lineT)
  rwa [List.length_map, List.length_map] at this
theorem decls_len (l : List Dc) (k : Nat) : (flT (l.map declT) k).length ≤ 100 * wtDs l := by
  have h1 := flN_le (l.map declT) k
  have h2 := joinD_wt l
  rw [join_empty] at h2
  unfold flN at h1; omega
theorem decls_succ (l : List Dc) (k : Nat) (hk : k < l.length) : flT (l.map declT) (k + 1) = flT (l.map declT) k ++ declT l[k] := by
  rw [flT_succ _ k (by simpa using hk)]; simp
theorem decls_all (l : List Dc) : flT (l.map declT) l.length = Lib.join (l.map declT) [] := by
  have := flT_all (l.map declT)
  rw [List.length_map] at this
  rw [this, join_empty]

end Go.Pv
end

section
/- The parts of a right program and of its text. -/
namespace Go.Pv
open Go

theorem rightD_kinds {d : Dc} (h : rightD d = true) : d.kind = 1 ∨ d.kind = 2 ∨ (d.kind = 3 ∧ rightE d.body = true) := by
  unfold rightD at h
  by_cases h3 : d.kind = 3
  · rw [if_pos (by simp [h3])] at h
    simp only [Bool.and_eq_true] at h
    exact .inr (.inr ⟨h3, h.2.2⟩)
  · rw [if_neg (by simp [h3])] at h
    by_cases h1 : d.kind = 1
    · exact .inl h1
    · by_cases h2 : d.kind = 2
      · exact .inr (.inl h2)
      · rw [if_neg (by simp [h1]), if_neg (by simp [h2])] at h
        simp at h
theorem rightPg_parts {p : Pg} (h : rightPg p = true) : rightE p.main = true ∧ (∀ d ∈ p.decls, d.kind = 1 ∨ d.kind = 2 ∨ rightE d.body = true) ∧ (∀ d ∈ p.decls, d.kind = 1 ∨ d.kind = 2 ∨ (d.kind = 3 ∧ rightE d.body = true)) := by
  simp only [rightPg, Bool.and_eq_true, List.all_eq_true] at h
  refine ⟨h.2, fun d hd => ?_, fun d hd => rightD_kinds (h.1 d hd)⟩
  rcases rightD_kinds (h.1 d hd) with h1 | h1 | h1
  · exact .inl h1
  · exact .inr (.inl h1)
  · exact .inr (.inr h1.2)
theorem bare_eq (e : Exp) : progT ⟨[], e⟩ = wHead ++ (blockT wFm [[95, 32, 61, 32] ++ txtE e] ++ [10]) := by simp [progT, Lib.join_nil]
theorem bare_len (p : Pg) : 14 ≤ (progT ⟨[], p.main⟩).length := by
  rw [bare_eq, List.length_append]
  have : wHead.length = 14 := rfl
  omega
theorem bare_len2 (p : Pg) : (progT ⟨[], p.main⟩).length ≤ (txtE p.main).length + 40 := by
  rw [bare_eq, List.length_append, List.length_append, blockT_len, bodyLen_one]
  simp [wHead, wFm]; omega
theorem bare_min (p : Pg) : (if (14 : Int) < ((progT ⟨[], p.main⟩).length : Int) then (14 : Int) else ((progT ⟨[], p.main⟩).length : Int)) = 14 := by
  have := bare_len p
  split <;> omega
theorem wHead_len : wHead.length = 14 := rfl
theorem bare_drop (p : Pg) : (progT ⟨[], p.main⟩).drop 14 = blockT wFm [[95, 32, 61, 32] ++ txtE p.main] ++ [10] := by
  rw [bare_eq]
  exact List.drop_left (l₁ := wHead)
theorem progT_parts (p : Pg) : progT p = wHead ++ Lib.join (p.decls.map declT) [] ++ (progT ⟨[], p.main⟩).drop 14 := by
  rw [bare_drop, progT]; simp
theorem wtPg_bare (p : Pg) : wtPg ⟨[], p.main⟩ ≤ wtPg p := by
  simp only [wtPg, wtDs]; omega

end Go.Pv
end

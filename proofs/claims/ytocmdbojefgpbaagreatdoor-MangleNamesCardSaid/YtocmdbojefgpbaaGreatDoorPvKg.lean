import Derived.Test.YtocmdbojefgpbaaGreatDoorPvKd
import Derived.Test.YtocmdbojefgpbaaGreatDoorPvDb
set_option linter.all false
section
/- Canonical signatures, and their dummy names. -/
namespace Go.Pv
open Go

def fmNs (s : Sg) : List Str := s.fms.map Fm.name
def locTs (n : Nat) : List Ty := (List.range n).map fun i => Ty.mk (locS (i : Nat)) [] 0
def subG (ns : List Str) (ls : List Ty) (s : Sg) : Sg := ⟨s.name, s.fms.map fun f => ⟨f.name, sub ns ls f.ty, f.pos⟩, s.pms.map fun f => ⟨f.name, sub ns ls f.ty, f.pos⟩, sub ns ls s.res, s.pos⟩
def locFs (l : List Fm) : List Fm := l.mapIdx fun i f => ⟨locS (i : Nat), f.ty, f.pos⟩
def bareFs (l : List Fm) : List Fm := l.map fun f => ⟨[], f.ty, f.pos⟩
def canonG (s : Sg) : Sg :=
  let o := subG (fmNs s) (locTs s.fms.length) s
  ⟨o.name, locFs o.fms, bareFs o.pms, o.res, o.pos⟩

def itG (c : Sg) : List (Ty × UInt8) := c.fms.map (fun f => (f.ty, 66)) ++ c.pms.map (fun f => (f.ty, 80)) ++ [(c.res, 69)]
def itT (l : List (Ty × UInt8)) : Str := (l.map fun x => mgT x.1 ++ [95, x.2]).flatten
def dumT (c : Sg) : Str := escS c.name ++ 95 :: 83 :: itT (itG c)
def r20G (c : Sg) : Bool := c.fms.all (fun f => r20 f.ty) && c.pms.all (fun f => r20 f.ty) && r20 c.res && isName c.name

theorem itT_cons (x : Ty × UInt8) (l : List (Ty × UInt8)) : itT (x :: l) = mgT x.1 ++ 95 :: x.2 :: itT l := by simp [itT]
theorem itG_ok {c : Sg} (h : r20G c = true) : ∀ x ∈ itG c, r20 x.1 = true ∧ x.2 ≠ 95 ∧ x.2 ≠ 76 := by
  simp only [r20G, Bool.and_eq_true, List.all_eq_true] at h
  obtain ⟨⟨⟨h1, h2⟩, h3⟩, -⟩ := h
  intro x hx
  simp only [itG, List.mem_append, List.mem_map, List.mem_singleton] at hx
  rcases hx with (⟨f, hf, rfl⟩ | ⟨f, hf, rfl⟩) | rfl
  · exact ⟨h1 f hf, by simp, by simp⟩
  · exact ⟨h2 f hf, by simp, by simp⟩
  · exact ⟨h3, by simp, by simp⟩
theorem mgM_ne_top (m : Str) (l : List Ty) : mgM m l ≠ [84, 111, 112, 95, 84] := by
  intro h
  have hb : okW (brM (l.map mgT)) := by
    unfold brM
    split
    · exact .inl rfl
    · exact .inr ⟨_, _, rfl, by decide⟩
  have h1 := word_esc hb m
  unfold mgM at h
  rw [h] at h1
  have h2 : wordM [84, 111, 112, 95, 84] = ([84, 111, 112], [95, 84]) := by decide
  rw [h2] at h1
  simp only [Prod.mk.injEq] at h1
  unfold brM at h1
  split at h1
  · exact absurd h1.2 (by simp)
  · simp at h1
end Go.Pv
end

section
/- Canonical signatures are the same exactly if their dummy names are. -/
namespace Go.Pv
open Go
def Can (c : Sg) : Prop := c.fms.map Fm.name = (List.range c.fms.length).map (fun i => locS (i : Nat)) ∧ c.pms.map Fm.name = c.pms.map fun _ => []
theorem itT_app (a b : List (Ty × UInt8)) : itT (a ++ b) = itT a ++ itT b := by simp [itT]
end Go.Pv
end

section
/- Names of types, of methods, and dummy names are names. -/
namespace Go.Pv
open Go
theorem esc_good : ∀ {s : Str}, s.all goodB = true → (escS s).all goodB = true
  | [], _ => rfl
  | c :: r, h => by
    simp only [List.all_cons, Bool.and_eq_true] at h
    have ih := esc_good h.2
    unfold escS
    split
    · simp only [List.all_cons, ih, Bool.and_true]; decide
    · simp only [List.all_cons, ih, h.1, Bool.and_true]
theorem esc_id : ∀ {s : Str}, (95 : UInt8) ∉ s → escS s = s
  | [], _ => rfl
  | c :: r, h => by
    simp only [List.mem_cons, not_or] at h
    unfold escS
    rw [if_neg (Ne.symm h.1), esc_id h.2]
theorem esc_mem {s : Str} (h : (95 : UInt8) ∈ s) : (95 : UInt8) ∈ escS s := by
  induction s with
  | nil => cases h
  | cons c r ih =>
    unfold escS
    rcases List.mem_cons.1 h with h | h
    · rw [if_pos h.symm]; simp
    · split <;> simp [ih h]
theorem dig_good (c : UInt8) (h : digB c = true) : goodB c = true := by
  simp only [digB, Bool.and_eq_true, decide_eq_true_eq] at h
  unfold goodB clsI
  rw [if_neg (by omega), if_pos (by omega)]
  decide
theorem dec_good (k : Nat) : (decD k).all goodB = true := by
  rw [List.all_eq_true]
  intro c hc
  exact dig_good c (List.all_eq_true.1 (decD_spec k).2.1 c hc)
theorem join_good : ∀ {l : List Str}, (∀ s ∈ l, s.all goodB = true) → (Lib.join l [95, 67]).all goodB = true
  | [], _ => by rw [Lib.join_nil]; rfl
  | [s], h => by rw [Lib.join_one]; exact h s (by simp)
  | s :: u :: r, h => by
    have ih := join_good (l := u :: r) (fun x hx => h x (by simp only [List.mem_cons] at hx ⊢; exact .inr hx))
    have e : Lib.join (s :: u :: r) [95, 67] = s ++ [95, 67] ++ Lib.join (u :: r) [95, 67] := by simp [Lib.join_cons, Lib.joinTail]
    rw [e, List.all_append, List.all_append, h s (by simp), ih]
    decide
theorem brM_good {l : List Str} (h : ∀ s ∈ l, s.all goodB = true) : (brM l).all goodB = true := by
  unfold brM
  split
  · rfl
  · simp only [List.all_cons, List.all_append, join_good h]
    decide
theorem name_good {s : Str} (h : isName s = true) : s.all goodB = true := by
  unfold isName at h
  cases s with
  | nil => rfl
  | cons c r => simp only [Bool.and_eq_true] at h; exact h.1.2
theorem mgT_good (t : Ty) : r20 t = true → (mgT t).all goodB = true := by
  induction t using Ty.ind with
  | h n ts p ih =>
    intro h
    rw [r20_mk] at h
    rw [mgT_mk]
    split at h
    · rename_i hl
      rw [if_pos (by simp [hl, h])]
      simp only [List.all_cons, dec_good]
      decide
    · rename_i hl
      simp only [Bool.and_eq_true, List.all_eq_true] at h
      rw [if_neg (by simp [hl]), List.all_append, esc_good (name_good h.2), brM_good (fun s hs => by obtain ⟨x, hx, rfl⟩ := List.mem_map.1 hs; exact ih x hx (h.1 x hx))]
      rfl
theorem res_no95 : ∀ w ∈ reservedL, (95 : UInt8) ∉ w := by decide
theorem name_by {n x : Str} (h : isName n = true) (hx : x.all goodB = true) (h9 : x = [] ∨ (95 : UInt8) ∈ x) : isName (escS n ++ x) = true := by
  by_cases hm : (95 : UInt8) ∈ escS n ++ x
  · obtain ⟨c, r, rfl, -, hc⟩ := name_head h
    have hg := name_good h
    have hcl : (clsI c.toNat == 1) = true := by unfold isName at h; simp only [Bool.and_eq_true] at h; exact h.1.1
    have hall : (escS (c :: r) ++ x).all goodB = true := by rw [List.all_append, esc_good hg, hx]; rfl
    have hres : isRes (escS (c :: r) ++ x) = false := by
      unfold isRes
      rw [← Bool.not_eq_true, List.contains_iff_mem]
      exact fun hr => res_no95 _ hr hm
    have he : escS (c :: r) ++ x = c :: (escS r ++ x) := by rw [escS, if_neg hc]; rfl
    rw [he] at hall hres ⊢
    unfold isName
    simp only [hcl, hall, hres]
    rfl
  · have hx0 : x = [] := h9.resolve_right fun hq => hm (by simp [hq])
    subst hx0
    rw [List.append_nil] at hm ⊢
    rw [esc_id fun hq => hm (esc_mem hq)]
    exact h
theorem brM_95 (l : List Str) : brM l = [] ∨ (95 : UInt8) ∈ brM l := by
  unfold brM
  split
  · exact .inl rfl
  · exact .inr (by simp)
theorem mgM_name {m : Str} (h : isName m = true) {l : List Ty} (hl : ∀ t ∈ l, r20 t = true) : isName (mgM m l) = true :=
  name_by h (brM_good fun s hs => by obtain ⟨x, hx, rfl⟩ := List.mem_map.1 hs; exact mgT_good x (hl x hx)) (brM_95 _)
theorem itT_good {l : List (Ty × UInt8)} (h : ∀ x ∈ l, r20 x.1 = true ∧ goodB x.2 = true) : (itT l).all goodB = true := by
  induction l with
  | nil => rfl
  | cons x l ih =>
    rw [itT_cons, List.all_append, mgT_good x.1 (h x (by simp)).1]
    simp only [List.all_cons, (h x (by simp)).2, ih fun y hy => h y (by simp [hy])]
    decide
theorem dumT_isName {c : Sg} (h : r20G c = true) : isName (dumT c) = true := by
  have hn : isName c.name = true := by simp only [r20G, Bool.and_eq_true] at h; exact h.2
  refine name_by hn ?_ (.inr (by simp))
  have hi : (itT (itG c)).all goodB = true := itT_good fun x hx => ⟨(itG_ok h x hx).1, by
    simp only [itG, List.mem_append, List.mem_map, List.mem_singleton] at hx
    rcases hx with (⟨f, hf, rfl⟩ | ⟨f, hf, rfl⟩) | rfl
    · exact (by decide : goodB 66 = true)
    · exact (by decide : goodB 80 = true)
    · exact (by decide : goodB 69 = true)⟩
  simp only [List.all_cons, hi]
  decide
theorem right_r20 (t : Ty) : rightT t = true → r20 t = true := by
  induction t using Ty.ind with
  | h n ts p ih =>
    intro h
    obtain ⟨h1, h2⟩ := right_name h
    rw [r20_mk, if_neg (by rw [name_noloc h1]; simp)]
    simp only [Bool.and_eq_true, List.all_eq_true, h1, and_true]
    exact fun t ht => ih t ht (h2 t ht)
theorem mgT_isName {t : Ty} (h : rightT t = true) : isName (mgT t) = true := by
  have hr := right_r20 t h
  obtain ⟨n, ts, p⟩ := t
  have hn := (right_name h).1
  rw [mgM_mk hn]
  refine mgM_name hn fun t ht => ?_
  rw [r20_mk, if_neg (by rw [name_noloc hn]; simp)] at hr
  simp only [Bool.and_eq_true, List.all_eq_true] at hr
  exact hr.1 t ht
theorem mgT_ne_top {t : Ty} (h : rightT t = true) : mgT t ≠ [84, 111, 112, 95, 84] := by
  obtain ⟨n, ts, p⟩ := t
  have hn := (right_name h).1
  rw [mgM_mk hn]
  exact mgM_ne_top n ts
end Go.Pv
end

import Derived.Test.YtocmdbojefgpbaaGreatDoorPvKd
import Derived.Test.YtocmdbojefgpbaaGreatDoorPvDb
set_option linter.all false
section
/- Canonical signatures, and their dummy names. -/
namespace Go.Pv
open Go

def fmNs (s : Sg) : List Str := s.fms.map Fm.name
def locTs (n : Nat) : List Ty := (List.range n).map fun i => Ty.mk (locS (i : Nat)) [] 0
def subG (ns : List Str) (ls : List Ty) (s : Sg) : Sg := ⟨s.name, s.fms.map fun f => ⟨f.name, sub ns ls f.ty, f.pos⟩, s.pms.map fun f => ⟨f.name, sub ns ls f.ty, f.pos⟩, sub ns ls s.res, s.pos⟩
def locFs (l : List Fm) : List Fm := l.mapIdx fun i f => ⟨locS (i : Nat), f.ty, f.pos⟩
def bareFs (l : List Fm) : List Fm := l.map fun f => ⟨[], f.ty, f.pos⟩
def canonG (s : Sg) : Sg :=
  let o := subG (fmNs s) (locTs s.fms.length) s
  ⟨o.name, locFs o.fms, bareFs o.pms, o.res, o.pos⟩

def itG (c : Sg) : List (Ty × UInt8) := c.fms.map (fun f => (f.ty, 66)) ++ c.pms.map (fun f => (f.ty, 80)) ++ [(c.res, 69)]
def itT (l : List (Ty × UInt8)) : Str := (l.map fun x => mgT x.1 ++ [95, x.2]).flatten
def dumT (c : Sg) : Str := escS c.name ++ 95 :: 83 :: itT (itG c)
def r20G (c : Sg) : Bool := c.fms.all (fun f => r20 f.ty) && c.pms.all (fun f => r20 f.ty) && r20 c.res && isName c.name

theorem itT_cons (x : Ty × UInt8) (l : List (Ty × UInt8)) : itT (x :: l) = mgT x.1 ++ 95 :: x.2 :: itT l := by simp [itT]
theorem itT_inj : ∀ (l m : List (Ty × UInt8)), (∀ x ∈ l, r20 x.1 = true ∧ x.2 ≠ 95 ∧ x.2 ≠ 76) → (∀ x ∈ m, r20 x.1 = true ∧ x.2 ≠ 95 ∧ x.2 ≠ 76) → itT l = itT m → l.map (fun x => (z0 x.1, x.2)) = m.map fun x => (z0 x.1, x.2)
  | [], [], _, _, _ => rfl
  | [], y :: m, _, _, h => by rw [itT_cons] at h; simp [itT] at h
  | x :: l, [], _, _, h => by rw [itT_cons] at h; simp [itT] at h
  | x :: l, y :: m, hl, hm, h => by
    rw [itT_cons, itT_cons] at h
    obtain ⟨x1, x2, x3⟩ := hl x (by simp)
    obtain ⟨y1, y2, y3⟩ := hm y (by simp)
    have hx := mgT_back x.1 x1 ((mgT x.1 ++ 95 :: x.2 :: itT l).length + 1) (95 :: x.2 :: itT l) (.inr ⟨_, _, rfl, x2, x3⟩) (Nat.lt_succ_self _)
    have hy := mgT_back y.1 y1 ((mgT x.1 ++ 95 :: x.2 :: itT l).length + 1) (95 :: y.2 :: itT m) (.inr ⟨_, _, rfl, y2, y3⟩) (by rw [← h]; exact Nat.lt_succ_self _)
    rw [h] at hx
    rw [h] at hy
    have he := hx.symm.trans hy
    simp only [Prod.mk.injEq, and_true, List.cons.injEq, true_and] at he
    obtain ⟨h1, h2, h3⟩ := he
    have ih := itT_inj l m (fun z hz => hl z (by simp [hz])) (fun z hz => hm z (by simp [hz])) h3
    simp only [List.map_cons, ih, h1, h2]
theorem itG_ok {c : Sg} (h : r20G c = true) : ∀ x ∈ itG c, r20 x.1 = true ∧ x.2 ≠ 95 ∧ x.2 ≠ 76 := by
  simp only [r20G, Bool.and_eq_true, List.all_eq_true] at h
  obtain ⟨⟨⟨h1, h2⟩, h3⟩, -⟩ := h
  intro x hx
  simp only [itG, List.mem_append, List.mem_map, List.mem_singleton] at hx
  rcases hx with (⟨f, hf, rfl⟩ | ⟨f, hf, rfl⟩) | rfl
  · exact ⟨h1 f hf, by simp, by simp⟩
  · exact ⟨h2 f hf, by simp, by simp⟩
  · exact ⟨h3, by simp, by simp⟩
theorem itG_split {a b : Sg} (h : (itG a).map (fun x => (z0 x.1, x.2)) = (itG b).map fun x => (z0 x.1, x.2)) :
    a.fms.map (fun f => z0 f.ty) = b.fms.map (fun f => z0 f.ty) ∧ a.pms.map (fun f => z0 f.ty) = b.pms.map (fun f => z0 f.ty) ∧ z0 a.res = z0 b.res := by
  have key2 : ∀ (l m : List Fm) (x y : Ty), (l.map (fun f => (z0 f.ty, (80 : UInt8))) ++ [(z0 x, 69)]) = (m.map (fun f => (z0 f.ty, (80 : UInt8))) ++ [(z0 y, 69)]) → l.map (fun f => z0 f.ty) = m.map (fun f => z0 f.ty) ∧ z0 x = z0 y := by
    intro l
    induction l with
    | nil =>
      intro m x y h
      cases m with
      | nil => simpa using h
      | cons f m => simp at h
    | cons f l ih =>
      intro m x y h
      cases m with
      | nil => simp at h
      | cons q m =>
        simp only [List.map_cons, List.cons_append, List.cons.injEq, Prod.mk.injEq, and_true] at h
        obtain ⟨h1, h2⟩ := ih m x y h.2
        simp [h.1, h1, h2]
  have key1 : ∀ (l m l' m' : List Fm) (x y : Ty), (l.map (fun f => (z0 f.ty, (66 : UInt8))) ++ (l'.map (fun f => (z0 f.ty, (80 : UInt8))) ++ [(z0 x, 69)])) = (m.map (fun f => (z0 f.ty, (66 : UInt8))) ++ (m'.map (fun f => (z0 f.ty, (80 : UInt8))) ++ [(z0 y, 69)])) →
      l.map (fun f => z0 f.ty) = m.map (fun f => z0 f.ty) ∧ l'.map (fun f => z0 f.ty) = m'.map (fun f => z0 f.ty) ∧ z0 x = z0 y := by
    intro l
    induction l with
    | nil =>
      intro m l' m' x y h
      cases m with
      | nil => exact ⟨rfl, key2 l' m' x y (by simpa using h)⟩
      | cons f m =>
        cases l' with
        | nil => simp at h
        | cons q l' => simp at h
    | cons f l ih =>
      intro m l' m' x y h
      cases m with
      | nil =>
        cases m' with
        | nil => simp at h
        | cons q m' => simp at h
      | cons q m =>
        simp only [List.map_cons, List.cons_append, List.cons.injEq, Prod.mk.injEq, and_true] at h
        obtain ⟨h1, h2, h3⟩ := ih m l' m' x y h.2
        exact ⟨by simp [h.1, h1], h2, h3⟩
  refine key1 a.fms b.fms a.pms b.pms a.res b.res ?_
  simpa [itG, List.map_append, Function.comp_def] using h
theorem dumT_name {a b : Sg} (h : dumT a = dumT b) : a.name = b.name ∧ itT (itG a) = itT (itG b) := by
  have h1 := word_esc (x := 95 :: 83 :: itT (itG a)) (.inr ⟨_, _, rfl, by decide⟩) a.name
  have h2 := word_esc (x := 95 :: 83 :: itT (itG b)) (.inr ⟨_, _, rfl, by decide⟩) b.name
  unfold dumT at h
  rw [h, h2] at h1
  simp only [Prod.mk.injEq, List.cons.injEq, true_and] at h1
  exact ⟨h1.1.symm, h1.2.symm⟩
theorem dumT_ne_mgM (c : Sg) (m : Str) (l : List Ty) : dumT c ≠ mgM m l := by
  intro h
  have h1 := word_esc (x := 95 :: 83 :: itT (itG c)) (.inr ⟨_, _, rfl, by decide⟩) c.name
  have hb : okW (brM (l.map mgT)) := by
    unfold brM
    split
    · exact .inl rfl
    · exact .inr ⟨_, _, rfl, by decide⟩
  have h2 := word_esc hb m
  unfold dumT mgM at h
  rw [h, h2] at h1
  simp only [Prod.mk.injEq] at h1
  unfold brM at h1
  split at h1
  · exact absurd h1.2 (by simp)
  · simp at h1
theorem dumT_ne_top (c : Sg) : dumT c ≠ [84, 111, 112, 95, 84] := by
  intro h
  have h1 := word_esc (x := 95 :: 83 :: itT (itG c)) (.inr ⟨_, _, rfl, by decide⟩) c.name
  unfold dumT at h
  rw [h] at h1
  have h2 : wordM [84, 111, 112, 95, 84] = ([84, 111, 112], [95, 84]) := by decide
  rw [h2] at h1
  simp at h1
theorem mgM_ne_top (m : Str) (l : List Ty) : mgM m l ≠ [84, 111, 112, 95, 84] := by
  intro h
  have hb : okW (brM (l.map mgT)) := by
    unfold brM
    split
    · exact .inl rfl
    · exact .inr ⟨_, _, rfl, by decide⟩
  have h1 := word_esc hb m
  unfold mgM at h
  rw [h] at h1
  have h2 : wordM [84, 111, 112, 95, 84] = ([84, 111, 112], [95, 84]) := by decide
  rw [h2] at h1
  simp only [Prod.mk.injEq] at h1
  unfold brM at h1
  split at h1
  · exact absurd h1.2 (by simp)
  · simp at h1
end Go.Pv
end

section
/- Canonical signatures are the same exactly if their dummy names are. -/
namespace Go.Pv
open Go
def Can (c : Sg) : Prop := c.fms.map Fm.name = (List.range c.fms.length).map (fun i => locS (i : Nat)) ∧ c.pms.map Fm.name = c.pms.map fun _ => []
theorem can_canon (s : Sg) : Can (canonG s) := by
  refine ⟨?_, ?_⟩
  · apply List.ext_getElem
    · simp [canonG, locFs]
    · intro i h1 h2
      simp [canonG, locFs]
  · simp [canonG, bareFs, Function.comp_def]
theorem eqL_z0 : ∀ (l m : List Fm), l.map Fm.name = m.map Fm.name → (eqL sameF l m = true ↔ l.map (fun f => z0 f.ty) = m.map fun f => z0 f.ty)
  | [], [], _ => by simp [eqL]
  | [], y :: m, h => by simp at h
  | x :: l, [], h => by simp at h
  | x :: l, y :: m, h => by
    simp only [List.map_cons, List.cons.injEq] at h
    have ih := eqL_z0 l m h.2
    rw [eqL_cons]
    simp only [sameF, h.1, beq_self_eq_true, Bool.true_and, Bool.and_eq_true, beq_iff_eq, List.map_cons, List.cons.injEq, cmpT_z0, ih]
theorem can_names {a b : Sg} (ha : Can a) (hb : Can b) (h : a.fms.length = b.fms.length) : a.fms.map Fm.name = b.fms.map Fm.name := by rw [ha.1, hb.1, h]
theorem can_bare {a b : Sg} (ha : Can a) (hb : Can b) (h : a.pms.length = b.pms.length) : a.pms.map Fm.name = b.pms.map Fm.name := by
  rw [ha.2, hb.2, List.map_const', List.map_const', h]
theorem eqL_length {α β : Type} {f : α → β → Bool} : ∀ {l : List α} {m : List β}, eqL f l m = true → l.length = m.length
  | [], [], _ => rfl
  | [], y :: m, h => by simp [eqL] at h
  | x :: l, [], h => by simp [eqL] at h
  | x :: l, y :: m, h => by
    rw [eqL_cons] at h
    simp only [Bool.and_eq_true] at h
    simp [eqL_length h.2]
theorem itT_map (l : List Fm) (d : UInt8) : itT (l.map fun f => (f.ty, d)) = itT ((l.map fun f => z0 f.ty).map fun t => (t, d)) := by
  simp [itT, List.map_map, Function.comp_def, mgT_z0]
theorem itT_app (a b : List (Ty × UInt8)) : itT (a ++ b) = itT a ++ itT b := by simp [itT]
theorem dum_same {a b : Sg} (ha : Can a) (hb : Can b) (ra : r20G a = true) (rb : r20G b = true) : (dumT a == dumT b) = sameG a b := by
  rw [Bool.eq_iff_iff, beq_iff_eq]
  constructor
  · intro h
    obtain ⟨h1, h2⟩ := dumT_name h
    obtain ⟨h3, h4, h5⟩ := itG_split (itT_inj _ _ (itG_ok ra) (itG_ok rb) h2)
    have l3 : a.fms.length = b.fms.length := by simpa using congrArg List.length h3
    have l4 : a.pms.length = b.pms.length := by simpa using congrArg List.length h4
    simp only [sameG, h1, beq_self_eq_true, Bool.true_and, Bool.and_eq_true, beq_iff_eq]
    exact ⟨⟨(eqL_z0 _ _ (can_names ha hb l3)).2 h3, (eqL_z0 _ _ (can_bare ha hb l4)).2 h4⟩, (cmpT_z0 _ _).2 h5⟩
  · intro h
    simp only [sameG, Bool.and_eq_true, beq_iff_eq] at h
    obtain ⟨⟨⟨h1, h2⟩, h3⟩, h4⟩ := h
    have e2 := (eqL_z0 _ _ (can_names ha hb (eqL_length h2))).1 h2
    have e3 := (eqL_z0 _ _ (can_bare ha hb (eqL_length h3))).1 h3
    have e4 := (cmpT_z0 _ _).1 h4
    have e5 : mgT a.res = mgT b.res := by rw [← mgT_z0 a.res, e4, mgT_z0]
    unfold dumT itG
    rw [h1, itT_app, itT_app, itT_app, itT_app, itT_map, itT_map, itT_map, itT_map, e2, e3]
    simp [itT, e5]
end Go.Pv
end

section
/- Names of types, of methods, and dummy names are names. -/
namespace Go.Pv
open Go
end Go.Pv
end

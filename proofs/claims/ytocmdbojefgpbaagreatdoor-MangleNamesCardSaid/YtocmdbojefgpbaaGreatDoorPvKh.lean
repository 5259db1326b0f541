/- The sizes of canonical signatures. -/
import Derived.Test.YtocmdbojefgpbaaGreatDoorPvKg
import Derived.Test.YtocmdbojefgpbaaGreatDoorPvKg
import Derived.Test.YtocmdbojefgpbaaGreatDoorPvDe
set_option linter.all false
namespace Go.Pv
open Go
theorem csum_at (t : Ty) (p : Int) : csum (t.at_ p) = csum t := by cases t; rfl
theorem csum_sub {ns : List Str} {ls : List Ty} (h : ∀ a ∈ ls, csum a ≤ 1) : ∀ t : Ty, csum (sub ns ls t) ≤ csum t := by
  intro t
  induction t using Ty.ind with
  | h n ts p ih =>
    rw [sub]
    have h1 : ∀ q : Int, csum (.mk n [] q) ≤ csum (.mk n ts p) := fun q => by simp only [csum, csums]; omega
    split
    · split
      · split
        · rename_i a ha
          rw [csum_at]
          have h2 := h a (List.mem_of_getElem? ha)
          have h3 := csum_pos (.mk n ts p)
          omega
        · exact h1 p
      · exact h1 p
    · have h4 : ∀ l : List Ty, (∀ t ∈ l, csum (sub ns ls t) ≤ csum t) → csums (subs ns ls l) ≤ csums l := by
        intro l
        induction l with
        | nil => intro _; exact Nat.le_refl _
        | cons x l ih2 =>
          intro hl
          have e1 := hl x (by simp)
          have e2 := ih2 fun t ht => hl t (by simp [ht])
          simp only [subs, csums]
          omega
      have h5 := h4 ts ih
      simp only [csum]
      omega
theorem csum_loc {n : Nat} (hn : n ≤ 1000000000) : ∀ a ∈ locTs n, csum a ≤ 1 := by
  intro a ha
  obtain ⟨i, hi, rfl⟩ := List.mem_map.1 ha
  have h1 := locS_len (n := (i : Nat)) (by have := List.mem_range.1 hi; omega)
  have h2 : (locS (i : Nat)).length / 50 = 0 := by omega
  simp only [csum, csums, h2]
  omega
theorem fsums_le {l m : List Fm} (h : l.length = m.length) (h2 : ∀ (i : Nat) f q, l[i]? = some f → m[i]? = some q → fsum q ≤ fsum f) : fsums m ≤ fsums l := by
  induction l generalizing m with
  | nil => cases m with
    | nil => exact Nat.le_refl _
    | cons q m => simp at h
  | cons f l ih => cases m with
    | nil => simp at h
    | cons q m =>
      have e1 := h2 0 f q rfl rfl
      have e2 := ih (m := m) (by simpa using h) fun i f' q' hf hq => h2 (i + 1) f' q' (by simpa using hf) (by simpa using hq)
      simp only [fsums]
      omega
theorem gsum_canon {s : Sg} (hn : s.fms.length ≤ 1000000000) : gsum (canonG s) ≤ gsum s := by
  have hc := csum_loc hn
  have h1 : fsums (canonG s).fms ≤ fsums s.fms := by
    refine fsums_le (by simp [canonG, subG, locFs]) fun i f q hf hq => ?_
    have hi := (List.getElem?_eq_some_iff.1 hf).1
    simp only [canonG, subG, locFs, List.getElem?_mapIdx, List.getElem?_map, hf, Option.map_some, Option.some.injEq] at hq
    subst hq
    have e1 := csum_sub (ns := fmNs s) hc f.ty
    have e2 := locS_len (n := (i : Nat)) (by omega)
    simp only [fsum]
    omega
  have h2 : fsums (canonG s).pms ≤ fsums s.pms := by
    refine fsums_le (by simp [canonG, subG, bareFs]) fun i f q hf hq => ?_
    simp only [canonG, subG, bareFs, List.getElem?_map, hf, Option.map_some, Option.some.injEq] at hq
    subst hq
    have e1 := csum_sub (ns := fmNs s) hc f.ty
    simp only [fsum, List.length_nil]
    omega
  have h3 := csum_sub (ns := fmNs s) hc s.res
  have h4 : (canonG s).name = s.name := rfl
  have h5 : (canonG s).res = sub (fmNs s) (locTs s.fms.length) s.res := rfl
  rw [gsum, gsum, h4, h5]
  omega
def dcS (s : Sg) : Dc := ⟨0, [], [], [], [], [], [], s, ex0, 0⟩
theorem fitS {s : Sg} (h : fitG s) : fitD (dcS s) := by
  refine ⟨by simp [dcS], ⟨by simp [dcS], by simp [dcS]⟩, ⟨by simp [dcS], by simp [dcS]⟩, ⟨by simp [dcS], by simp [dcS]⟩, by simp [dcS], ⟨by simp [dcS], by simp [dcS]⟩, h, ?_⟩
  simp [dcS, ex0, fitE, ty0, fit, fits, fitEs]
theorem few_gsum {s : Sg} (h : cntPg ⟨[dcS s], ex0⟩ ≤ 600) : gsum s ≤ 600 := by
  rw [cntPg] at h
  have h1 := cntDs_sum [dcS s] (cntE ex0 0)
  have h3 := h1.2 (by simpa using Nat.le_trans h (by omega))
  have h4 : dsums [dcS s] = dsum (dcS s) + 0 := rfl
  have h5 : dsum (dcS s) = 1 + [].length / 50 + [].length / 50 + fsums [] + fsums [] + gsums [] + vsums [] + gsum s + esum ex0 := rfl
  simp only [] at h
  omega
theorem few_wtG {s : Sg} (h : cntPg ⟨[dcS s], ex0⟩ ≤ 600) : wtG s ≤ 60000 ∧ wtG (canonG s) ≤ 60000 := by
  have h1 := few_gsum h
  have h2 := wtG_sum s
  have h3 := wtG_sum (canonG s)
  have h4 := wtFs_len s.fms
  have h5 : wtG s = s.name.length + 1 + wtFs s.fms + wtFs s.pms + wt s.res := rfl
  have h6 := gsum_canon (s := s) (by omega)
  omega
theorem itT_snoc (l : List (Ty × UInt8)) (t : Ty) (x : UInt8) : itT (l ++ [(t, x)]) = itT l ++ (mgT t ++ [95, x]) := by simp [itT]
theorem itM (x : UInt8) (l : List Fm) (k : Nat) (h : k < l.length) : itT ((l.map fun f => (f.ty, x)).take (k + 1)) = itT ((l.map fun f => (f.ty, x)).take k) ++ (mgT l[k].ty ++ [95, x]) := by
  rw [← List.map_take, ← List.map_take, List.take_succ_eq_append_getElem h, List.map_append, List.map_cons, List.map_nil, itT_snoc]
theorem dumT_parts (c : Sg) : dumT c = escS c.name ++ (95 :: 83 :: (itT (c.fms.map fun f => (f.ty, 66)) ++ (itT (c.pms.map fun f => (f.ty, 80)) ++ (mgT c.res ++ [95, 69])))) := by
  simp only [dumT, itG, itT_app]
  simp [itT]
theorem itT_len (x : UInt8) : ∀ l : List Fm, (itT (l.map fun f => (f.ty, x))).length ≤ 6 * wtFs l
  | [] => by simp [itT]
  | f :: l => by
    have h1 := itT_len x l
    have h2 := mgT_len f.ty
    rw [List.map_cons, itT_cons]
    simp only [List.length_append, List.length_cons, wtFs, wtF]
    omega
theorem wtFs_take (l : List Fm) (k : Nat) : wtFs (l.take k) ≤ wtFs l := by
  induction l generalizing k with
  | nil => simp [wtFs]
  | cons f l ih => cases k with
    | zero => simp [wtFs]
    | succ k => have := ih k; simp only [List.take_succ_cons, wtFs]; omega
theorem itK_len (x : UInt8) (l : List Fm) (k : Nat) : (itT ((l.map fun f => (f.ty, x)).take k)).length ≤ 6 * wtFs l := by
  rw [← List.map_take]
  exact Nat.le_trans (itT_len x _) (Nat.mul_le_mul_left 6 (wtFs_take l k))
theorem dumT_len (c : Sg) : (dumT c).length ≤ 6 * wtG c + 10 := by
  have h1 := itT_len 66 c.fms
  have h2 := itT_len 80 c.pms
  have h3 := mgT_len c.res
  have h4 := escS_len c.name
  have h5 : wtG c = c.name.length + 1 + wtFs c.fms + wtFs c.pms + wt c.res := rfl
  rw [dumT_parts]
  simp only [List.length_append, List.length_cons, List.length_nil]
  omega
end Go.Pv

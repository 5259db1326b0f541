import Derived.Test.YtocmdbojefgpbaaGreatDoorPvV
import Derived.ChangeSame
import Derived.ChangeArms
import Derived.ChangeVars
import Derived.JoinedOf
import Derived.RowKit
import Derived.RowKitTokens
import Derived.LaidLaws
import Derived.LaidHandle
import Derived.LaidMore
import Derived.MakeChecks
import Derived.OpenShut
import Derived.Carry
import Derived.Stop.Joined
import Derived.Stop.LaidErr
import Derived.SevenTiedAt
import Derived.Lib.LaidTab
set_option linter.all false
section
/- Iterators: what they hand out, as lists. -/
namespace Go.Pv
open Go

def feed (Y : Ys) : List AV → List AV → List AV × Bool
  | s, [] => (s, true)
  | s, x :: r => if Y.go s x then feed Y (s ++ [x]) r else (s ++ [x], false)

def elOk (Y : Ys) : List AV → List AV → Prop
  | _, [] => True
  | s, x :: r => Y.el s x ∧ (Y.go s x = true → elOk Y (s ++ [x]) r)

def visI {α : Type} (Y : Ys) (L : α → List AV) : List AV → List α → Nat → Int
  | _, [], _ => -1
  | s, t :: r, k => if (feed Y s (L t)).2 then visI Y L (feed Y s (L t)).1 r (k + 1) else k

theorem lst_mem_wt : ∀ t : Ty, ∀ s ∈ lst t, s.length < wt t := by
  intro t
  induction t using Ty.ind with
  | h n ts p ih =>
    intro s hs
    simp only [lst, List.mem_cons] at hs
    rcases hs with rfl | hs
    · simp only [wt]; omega
    · rw [lsts_flat] at hs
      obtain ⟨l, hl, hs⟩ := List.mem_flatten.1 hs
      obtain ⟨t, ht, rfl⟩ := List.mem_map.1 hl
      have h1 := ih t ht s hs
      have h2 := wts_mem ht
      simp only [wt]; omega
def rightT (t : Ty) : Bool := (lst t).all isName

theorem Valid.gl {P : Program} {gl gl' : Gl} {f : FuncId} {args : List AV} {r : AV} (h : Valid P gl f args r) (hg : gl'.g = gl.g) : Valid P gl' f args r := by
  obtain ⟨h1, h2⟩ := h
  exact ⟨h1, fun lim w cargs hgl => h2 lim w cargs (fun g c hc => hgl g c (by rw [hg]; exact hc))⟩

def feedG (go : List AV → AV → Bool) : List AV → List AV → List AV × Bool
  | s, [] => (s, true)
  | s, x :: r => if go s x then feedG go (s ++ [x]) r else (s ++ [x], false)
def elP (L s : List AV) (x : AV) : Prop := ∃ r, s ++ x :: r = L
def goN (_ : List AV) (x : AV) : Bool := match x with | .str s => isName s | _ => true
def awB : Ty := .mk [98] [] 0
def awT : Ty := .mk [77, 97, 112] [.mk [97] [] 0, .mk [76, 105, 115, 116] [awB] 0] 0
def awI : Ty := .mk [73, 110, 116] [] 0
def awS : Ty := .mk [77, 97, 112] [.mk [97] [] 0, .mk [76, 105, 115, 116] [awI] 0] 0

end Go.Pv
end

section
/- From what a statement's row says of a call's arguments to values without memory, and back to what the row asks behind the call. -/
namespace Go.Pv
open Go Go.ChangeShapes Go.WideShapes Go.RowKit

mutual
def avOf {H : Type} : DataW H → List AV
  | .lit (.bool b) => [.bool b]
  | .lit (.int k n) => [.int k n]
  | .lit (.string s) => [.str s]
  | .nil => [.slice []]
  | .slice es _ => [.slice (avRows es)]
  | .agg ps => avFlat ps
  | _ => []
def avRows {H : Type} : List (DataW H) → List (List AV)
  | [] => []
  | d :: r => avOf d :: avRows r
def avFlat {H : Type} : List (DataW H) → List AV
  | [] => []
  | d :: r => avOf d ++ avFlat r
end
theorem avRows_map {H : Type} (l : List (DataW H)) : avRows l = l.map avOf := by
  induction l with
  | nil => rfl
  | cons d l ih => simp [avRows, ih]
theorem avFlat_flat {H : Type} (l : List (DataW H)) : avFlat l = (l.map avOf).flatten := by
  induction l with
  | nil => rfl
  | cons d l ih => simp [avFlat, ih]

def contig (P : Program) : List Field → Nat → Option Nat
  | [], o => some o
  | f :: r, o => if f.offset = o then contig P r (o + P.cellsOf f.type) else none
def plainT (P : Program) (T : List Nat) (t : Nat) : Bool :=
  match P.underlying t with
  | some .bool | some .string => true
  | some (.int _) => true
  | some (.slice e) => T.contains e && decide (0 < P.cellsOf e)
  | some (.struct fs) => (fs.toList.all fun f => T.contains f.type) && contig P fs.toList 0 == some (P.cellsOf t)
  | some (.array n e) => T.contains e && (n * P.cellsOf e == P.cellsOf t)
  | _ => false
def ftypes (P : Program) (t : Nat) : Option (List Nat) :=
  match P.underlying t with
  | some (.struct fs) => some (fs.toList.map (·.type))
  | _ => none
theorem ftypes_spec {P : Program} {t : Nat} {l : List Nat} (h : ftypes P t = some l) : ∃ fs, P.underlying t = some (.struct fs) ∧ fs.toList.map (·.type) = l := by
  unfold ftypes at h
  split at h
  · injection h with h; exact ⟨_, by assumption, h⟩
  · cases h

def typed {H : Type} (P : Program) : Nat → Nat → DataW H → Prop
  | 0, _, _ => False
  | n + 1, t, d =>
    match P.underlying t with
    | some .bool => ∃ b, d = .lit (.bool b)
    | some (.int k) => ∃ m, d = .lit (.int k m) ∧ (Lit.int k m).wf = true
    | some .string => ∃ s, d = .lit (.string s)
    | some (.slice e) => d = .nil ∨ ∃ es sp, d = .slice es sp ∧ ∀ x ∈ es, typed P n e x
    | some (.struct fs) => ∃ ps : List (DataW H), d = .agg ps ∧ ps.length = fs.size ∧ ∀ (i : Nat) (f : Field) (x : DataW H), fs[i]? = some f → ps[i]? = some x → typed P n f.type x
    | some (.array m e) => ∃ ps : List (DataW H), d = .agg ps ∧ ps.length = m ∧ ∀ x ∈ ps, typed P n e x
    | _ => False

abbrev allL : Lim := fun _ => .all
theorem allL_ok (b o : Nat) : allL.ok b o := fun n h => by cases h

theorem cells_get {w : World} {base : Nat} {a : Addr} {n : Nat} {cs : List Value} (h : w.cells? base a n = some cs) : cs.length = n ∧ ∀ j, j < n → a.spot = none ∧ cellAt w.heap a.block (a.off + j) = cs[j]? ∨ (j ≠ 0 ∧ cellAt w.heap a.block (a.off + j) = cs[j]?) := by
  unfold World.cells? at h
  split at h
  · have h1 := mapM_some_length h
    have h2 := mapM_some_get h
    refine ⟨by simpa using h1, fun j hj => ?_⟩
    have h3 := h2 j j (by simp [hj])
    have hlt : j < cs.length := by rw [h1]; simpa using hj
    rw [List.getElem?_eq_getElem hlt] at h3
    unfold Addr.add at h3
    by_cases h0 : j = 0
    · subst h0
      simp only [if_true] at h3
      left
      have hs : a.spot = none := by
        unfold World.cell? at h3
        split at h3
        · split at h3
          · cases h3
          · rename_i hq; simpa using hq
        · cases h3
      refine ⟨hs, ?_⟩
      obtain ⟨b, o, sp⟩ := a
      simp only at hs; subst hs
      rw [cell?_eq] at h3
      simpa [List.getElem?_eq_getElem hlt] using h3
    · simp only [h0, if_false] at h3
      right
      refine ⟨h0, ?_⟩
      rw [cell?_eq] at h3
      rw [h3, List.getElem?_eq_getElem hlt]
  · cases h

theorem cells_spot {w : World} {base : Nat} {a : Addr} {n : Nat} {cs : List Value} (h : w.cells? base a n = some cs) (hn : 0 < n) : a.spot = none := by
  rcases (cells_get h).2 0 hn with h1 | h1
  · exact h1.1
  · exact absurd rfl h1.1
theorem cells_at {w : World} {base : Nat} {a : Addr} {n : Nat} {cs : List Value} (h : w.cells? base a n = some cs) {j : Nat} (hj : j < n) : cellAt w.heap a.block (a.off + j) = cs[j]? := by
  rcases (cells_get h).2 j hj with h1 | h1
  · exact h1.2
  · exact h1.2

theorem repL_contig {lim : Lim} {h : Array Obj} {P : Program} {cs : List Value} {A : Nat → List AV} : ∀ (fs : List Field) (i o m : Nat), contig P fs o = some m → m = cs.length →
    (∀ (j : Nat) (f : Field), fs[j]? = some f → RepL lim h ((cs.drop f.offset).take (P.cellsOf f.type)) (A (i + j))) → RepL lim h (cs.drop o) ((List.range fs.length).map fun j => A (i + j)).flatten
  | [], i, o, m, hc, hm, _ => by
    simp only [contig, Option.some.injEq] at hc
    subst hc; subst hm
    simpa using RepL.nil lim h
  | f :: fs, i, o, m, hc, hm, hf => by
    simp only [contig] at hc
    split at hc
    · rename_i ho
      subst ho
      have h1 := hf 0 f rfl
      have h2 := repL_contig (A := A) fs (i + 1) _ m hc hm (fun j g hg => by
        have := hf (j + 1) g (by simpa using hg)
        rwa [show i + 1 + j = i + (j + 1) by omega])
      have e : (List.range (f :: fs).length).map (fun j => A (i + j)) = A i :: (List.range fs.length).map (fun j => A (i + 1 + j)) := by
        rw [List.length_cons, List.range_succ_eq_map, List.map_cons, List.map_map]
        simp only [Nat.add_zero, Function.comp_def, Nat.succ_eq_add_one]
        congr 1
        apply List.map_congr_left
        intro j _
        rw [show i + (j + 1) = i + 1 + j by omega]
      rw [e, List.flatten_cons]
      have e2 : cs.drop f.offset = (cs.drop f.offset).take (P.cellsOf f.type) ++ cs.drop (f.offset + P.cellsOf f.type) := by
        rw [← List.drop_drop, List.take_append_drop]
      rw [e2]
      exact RepL.append (by simpa using h1) h2
    · cases hc

theorem repL_rows {lim : Lim} {h : Array Obj} {cs : List Value} {A : Nat → List AV} {k n : Nat} (hl : cs.length = n * k) (hf : ∀ i, i < n → RepL lim h ((cs.drop (i * k)).take k) (A i)) :
    ∀ m i, i + m = n → RepL lim h (cs.drop (i * k)) ((List.range m).map fun j => A (i + j)).flatten
  | 0, i, hi => by
    have : cs.drop (i * k) = [] := List.drop_eq_nil_of_le (by rw [hl, show i = n by omega]; exact Nat.le_refl _)
    rw [this]; exact RepL.nil _ _
  | m + 1, i, hi => by
    have h2 := repL_rows hl hf m (i + 1) (by omega)
    have e : (List.range (m + 1)).map (fun j => A (i + j)) = A i :: (List.range m).map (fun j => A (i + 1 + j)) := by
      rw [List.range_succ_eq_map, List.map_cons, List.map_map]
      simp only [Nat.add_zero, Function.comp_def, Nat.succ_eq_add_one]
      congr 1
      apply List.map_congr_left
      intro j _
      rw [show i + (j + 1) = i + 1 + j by omega]
    have e2 : cs.drop (i * k) = (cs.drop (i * k)).take k ++ cs.drop ((i + 1) * k) := by
      rw [Nat.add_mul, Nat.one_mul, ← List.drop_drop, List.take_append_drop]
    rw [e, List.flatten_cons, e2]
    exact RepL.append (hf i (by omega)) h2

theorem trod_rep {H : Type} {enc : TypeId × Value → H} {P : Program} {w : World} {base : Nat} {sp : Nat → Bool} {hd : Bool} {T : List Nat} (hT : (T.all fun t => plainT P T t) = true) :
    ∀ (n : Nat) (t : Nat) (cs : List Value) (d : DataW H) (ps : List MemPlace), T.contains t = true → DataW.trod enc P w base sp hd n t cs = some (d, ps) → RepL allL w.heap cs (avOf d) ∧ typed P n t d := by
  intro n
  induction n with
  | zero => intro t cs d ps _ h; simp [DataW.trod] at h
  | succ n ih =>
    intro t cs d ps ht h
    have hp : plainT P T t = true := List.all_eq_true.1 hT t (by simpa using ht)
    have hp' := hp
    unfold plainT at hp
    unfold typed
    split at hp
    · rename_i hu
      obtain ⟨b, rfl, hx⟩ := DataW.trod_bool hu h
      simp only [Prod.mk.injEq] at hx
      obtain ⟨rfl, rfl⟩ := hx
      rw [hu]
      exact ⟨.cons (.bool b) (.nil _ _), b, rfl⟩
    · rename_i hu
      obtain ⟨s, rfl, hx, _⟩ := DataW.trod_string hu h
      simp only [Prod.mk.injEq] at hx
      obtain ⟨rfl, rfl⟩ := hx
      rw [hu]
      exact ⟨.cons (.str s.data.toList) (.nil _ _), _, rfl⟩
    · rename_i k hu
      obtain ⟨m, rfl, hx, hw⟩ := DataW.trod_int hu h
      simp only [Prod.mk.injEq] at hx
      obtain ⟨rfl, rfl⟩ := hx
      rw [hu]
      exact ⟨.cons (.int k m) (.nil _ _), m, rfl, hw⟩
    · rename_i e hu
      simp only [Bool.and_eq_true, decide_eq_true_eq] at hp
      rw [hu]
      rcases DataW.trod_slice hu h with ⟨rfl, hx⟩ | ⟨a, len, cap, elems, rest, m, hm, rfl, hx, _, hlc, _, hel, hat, _, _⟩
      · simp only [Prod.mk.injEq] at hx
        obtain ⟨rfl, rfl⟩ := hx
        exact ⟨.cons (.slice0 _ _) (.nil _ _), .inl rfl⟩
      · simp only [Prod.mk.injEq] at hx
        obtain ⟨rfl, rfl⟩ := hx
        injection hm with hm; subst hm
        have hrow : ∀ i, i < len → ∃ ci x, w.cells? base (a.add (i * P.cellsOf e)) (P.cellsOf e) = some ci ∧ DataW.trod enc P w base sp hd n e ci = some x ∧ elems[i]? = some x ∧ RepL allL w.heap ci (avOf x.1) ∧ typed P n e x.1 := by
          intro i hi
          have h1 := hat i hi
          rw [List.getElem?_eq_getElem (by omega)] at h1
          obtain ⟨ci, h2, h3⟩ := Option.bind_eq_some_iff.1 h1
          obtain ⟨h4, h5⟩ := ih e ci _ _ hp.1 h3
          exact ⟨ci, _, h2, h3, List.getElem?_eq_getElem (by omega), h4, h5⟩
        refine ⟨?_, .inr ⟨_, _, rfl, fun x hx => ?_⟩⟩
        · refine .cons ?_ (.nil _ _)
          rw [avRows_map, List.map_map]
          subst hel
          rcases Nat.eq_zero_or_pos elems.length with h0 | h0
          · have : elems = [] := List.eq_nil_of_length_eq_zero h0
            subst this
            exact .slice0 _ _
          · obtain ⟨c0, x0, hc0, -⟩ := hrow 0 h0
            have hspot := cells_spot hc0 hp.2
            simp only [Nat.zero_mul, Addr.add, if_true] at hspot
            obtain ⟨b, off, s⟩ := a
            simp only at hspot; subst hspot
            have hlen : (elems.map (avOf ∘ fun x => x.1)).length = elems.length := by simp
            have key := Rep.slice (lim := allL) (h := w.heap) b off cap (P.cellsOf e) (elems.map (avOf ∘ fun x => x.1)) (fun j => (cellAt w.heap b (off + j)).getD undef) (by simpa using hlc) (fun i r hr => ?_) (fun j hj => ?_) (fun i j r x h2 h3 => ?_)
            · rwa [hlen] at key
            · rw [List.getElem?_map] at hr
              have hi : i < elems.length := by
                rcases Nat.lt_or_ge i elems.length with h | h
                · exact h
                · rw [List.getElem?_eq_none h] at hr; cases hr
              obtain ⟨ci, xi, h2, -, h4, h5, -⟩ := hrow i hi
              rw [h4] at hr
              simp only [Option.map_some, Option.some.injEq, Function.comp] at hr
              subst hr
              rw [← h5.1, (cells_get h2).1]
            · refine ⟨allL_ok _ _, ?_⟩
              simp only [List.length_map] at hj
              have hd0 : 0 < P.cellsOf e := hp.2
              have hi : j / P.cellsOf e < elems.length := Nat.div_lt_of_lt_mul (by rwa [Nat.mul_comm])
              obtain ⟨ci, xi, h2, -⟩ := hrow _ hi
              have h3 := cells_at h2 (Nat.mod_lt j hd0)
              have hlt : j % P.cellsOf e < ci.length := by rw [(cells_get h2).1]; exact Nat.mod_lt _ hd0
              have ha : (({ block := b, off := off } : Addr).add (j / P.cellsOf e * P.cellsOf e)).block = b ∧ (({ block := b, off := off } : Addr).add (j / P.cellsOf e * P.cellsOf e)).off = off + j / P.cellsOf e * P.cellsOf e := by
                unfold Addr.add; split <;> simp_all
              rw [ha.1, ha.2, show off + j / P.cellsOf e * P.cellsOf e + j % P.cellsOf e = off + j by rw [Nat.add_assoc, Nat.div_add_mod' j]] at h3
              rw [h3, List.getElem?_eq_getElem hlt]; rfl
            · rw [List.getElem?_map] at h2
              have hi : i < elems.length := by
                rcases Nat.lt_or_ge i elems.length with h | h
                · exact h
                · rw [List.getElem?_eq_none h] at h2; cases h2
              obtain ⟨ci, xi, g2, -, g4, g5, -⟩ := hrow i hi
              rw [g4] at h2
              simp only [Option.map_some, Option.some.injEq, Function.comp] at h2
              subst h2
              have hj : j < P.cellsOf e := by
                have := (List.getElem?_eq_some_iff.1 h3).1
                rw [← g5.1, (cells_get g2).1] at this
                exact this
              have g6 := cells_at g2 hj
              have ha : (({ block := b, off := off } : Addr).add (i * P.cellsOf e)).block = b ∧ (({ block := b, off := off } : Addr).add (i * P.cellsOf e)).off = off + i * P.cellsOf e := by
                unfold Addr.add; split <;> simp_all
              rw [ha.1, ha.2, Nat.add_assoc] at g6
              have g7 := g5.2 j x h3
              rw [List.getD_eq_getElem?_getD, ← g6] at g7
              exact g7
        · obtain ⟨y, hy, rfl⟩ := List.mem_map.1 hx
          obtain ⟨i, hi⟩ := List.getElem?_of_mem hy
          have hlt := (List.getElem?_eq_some_iff.1 hi).1
          obtain ⟨ci, xi, -, -, g4, -, g6⟩ := hrow i (by omega)
          rw [hi] at g4; injection g4 with g4; subst g4
          exact g6
    · rename_i fs hu
      simp only [Bool.and_eq_true, beq_iff_eq] at hp
      rw [hu]
      obtain ⟨xs, m, hm, hx, hl, hlen, hf⟩ := DataW.trod_struct hu h
      simp only [Prod.mk.injEq] at hx
      obtain ⟨rfl, rfl⟩ := hx
      injection hm with hm; subst hm
      have hin : ∀ (i : Nat) (f : Field), fs[i]? = some f → T.contains f.type = true := fun i f hi => List.all_eq_true.1 hp.1 f (by
        have := Array.mem_of_getElem? hi
        simpa using this)
      have hfi : ∀ (i : Nat) (f : Field), fs[i]? = some f → ∃ x, xs[i]? = some x ∧ RepL allL w.heap ((cs.drop f.offset).take (P.cellsOf f.type)) (avOf x.1) ∧ typed P n f.type x.1 := by
        intro i f hi
        have h1 := hf i f hi
        have hlt : i < xs.length := by rw [hlen]; exact (Array.getElem?_eq_some_iff.1 hi).1
        rw [List.getElem?_eq_getElem hlt] at h1
        obtain ⟨h2, h3⟩ := ih f.type _ _ _ (hin i f hi) h1
        exact ⟨_, List.getElem?_eq_getElem hlt, h2, h3⟩
      refine ⟨?_, _, rfl, by simpa using hlen, fun i f x hi hx => ?_⟩
      · have key := repL_contig (lim := allL) (h := w.heap) (P := P) (cs := cs) (A := fun i => ((xs[i]?).map fun x => avOf x.1).getD []) fs.toList 0 0 _ hp.2 hl.symm (fun j f hj => by
          obtain ⟨x, h1, h2, -⟩ := hfi j f (by simpa using hj)
          simpa [h1] using h2)
        have e : avOf (DataW.agg (xs.map (·.1))) = ((List.range fs.toList.length).map fun j => ((xs[0 + j]?).map fun x => avOf x.1).getD []).flatten := by
          simp only [avOf, avFlat_flat, List.map_map]
          congr 1
          apply List.ext_getElem?
          intro i
          simp only [List.getElem?_map, Nat.zero_add]
          rcases Nat.lt_or_ge i xs.length with hi | hi
          · rw [List.getElem?_range (by simpa [hlen] using hi), List.getElem?_eq_getElem hi]
            simp [List.getElem?_eq_getElem hi]
          · rw [List.getElem?_eq_none hi, List.getElem?_eq_none (by simpa [hlen] using hi)]; rfl
        rw [e]
        simpa using key
      · rw [List.getElem?_map] at hx
        obtain ⟨y, h1, -, h3⟩ := hfi i f hi
        rw [h1] at hx
        simp only [Option.map_some, Option.some.injEq] at hx
        subst hx
        exact h3
    · rename_i m e hu
      simp only [Bool.and_eq_true, beq_iff_eq] at hp
      rw [hu]
      obtain ⟨xs, q, hm, hx, hlen, hl, hel⟩ := DataW.trod_array hu h
      simp only [Prod.mk.injEq] at hx
      obtain ⟨rfl, rfl⟩ := hx
      injection hm with hm; subst hm
      have hrow : ∀ i, i < m → ∃ x, xs[i]? = some x ∧ RepL allL w.heap ((cs.drop (i * P.cellsOf e)).take (P.cellsOf e)) (avOf x.1) ∧ typed P n e x.1 := by
        intro i hi
        have h1 := hel i hi
        rw [List.getElem?_eq_getElem (by omega)] at h1
        obtain ⟨h2, h3⟩ := ih e _ _ _ hp.1 h1
        exact ⟨_, List.getElem?_eq_getElem (by omega), h2, h3⟩
      refine ⟨?_, _, rfl, by simpa using hl, fun x hx => ?_⟩
      · have key := repL_rows (lim := allL) (h := w.heap) (cs := cs) (k := P.cellsOf e) (n := m) (A := fun i => ((xs[i]?).map fun x => avOf x.1).getD []) (by rw [hlen, hp.2]) (fun i hi => by
          obtain ⟨x, h1, h2, -⟩ := hrow i hi
          simpa [h1] using h2) m 0 (by omega)
        have e : avOf (DataW.agg (xs.map (·.1))) = ((List.range m).map fun j => ((xs[0 + j]?).map fun x => avOf x.1).getD []).flatten := by
          simp only [avOf, avFlat_flat, List.map_map]
          congr 1
          apply List.ext_getElem?
          intro i
          simp only [List.getElem?_map, Nat.zero_add]
          rcases Nat.lt_or_ge i xs.length with hi | hi
          · rw [List.getElem?_range (by omega), List.getElem?_eq_getElem hi]
            simp [List.getElem?_eq_getElem hi]
          · rw [List.getElem?_eq_none hi, List.getElem?_eq_none (by simp; omega)]; rfl
        rw [e]
        simpa using key
      · obtain ⟨y, hy, rfl⟩ := List.mem_map.1 hx
        obtain ⟨i, hi⟩ := List.getElem?_of_mem hy
        have hlt := (List.getElem?_eq_some_iff.1 hi).1
        obtain ⟨z, g4, -, g6⟩ := hrow i (by omega)
        rw [hi] at g4; injection g4 with g4; subst g4
        exact g6
    · cases hp

def argAV {H : Type} (P : Program) (t : Nat) (d : DataW H) : AV :=
  match P.underlying t with
  | some (.struct _) => .agg (avOf d)
  | some (.array _ _) => .agg (avOf d)
  | _ => (avOf d).headD (.bool false)

theorem arg_rep {H : Type} {enc : TypeId × Value → H} {P : Program} {w W : World} {T : List Nat} {r : Go.Reach} {b0 : Nat} (hT : (T.all fun t => plainT P T t) = true) {t : Nat} (ht : T.contains t = true) {v : Value} {d : DataW H} {ps : List MemPlace} {base : Nat} {sp : Nat → Bool} {hd : Bool}
    (hok : Value.okWide P W r b0 t v) (h : DataW.Trod enc P w base sp hd t v d ps) : Rep allL w.heap v (argAV P t d) ∧ ∃ n, typed P n t d := by
  obtain ⟨n, h⟩ := h
  obtain ⟨h1, h2⟩ := trod_rep hT n t _ _ _ ht h
  refine ⟨?_, n, h2⟩
  have hp : plainT P T t = true := List.all_eq_true.1 hT t (by simpa using ht)
  unfold argAV
  unfold Value.okWide at hok
  unfold plainT at hp
  cases hu : P.underlying t with
  | none => rw [hu] at hp; simp at hp
  | some ty =>
    rw [hu] at hok hp
    have one : ∀ {v : Value}, v.cells = #[v] → RepL allL w.heap v.cells.toList (avOf d) → Rep allL w.heap v ((avOf d).headD (.bool false)) := by
      intro v hv hr
      rw [hv] at hr
      have h3 := hr.1
      cases hq : avOf d with
      | nil => rw [hq] at h3; simp at h3
      | cons x l => rw [hq] at hr; exact hr.head
    cases ty with
    | struct fs =>
      obtain ⟨cs, rfl, -⟩ := hok
      exact Rep.agg_iff.2 ⟨cs, rfl, by simpa [Value.cells] using h1⟩
    | bool =>
      refine one ?_ h1
      cases n with
      | zero => exact h2.elim
      | succ n =>
        unfold typed at h2
        rw [hu] at h2
        obtain ⟨b, rfl⟩ := h2
        cases v <;> first | rfl | (simp [Cell.okWide, Cell.ok, hu] at hok)
    | int k =>
      refine one ?_ h1
      cases v <;> first | rfl | (simp [Cell.okWide, Cell.ok, hu] at hok)
    | string =>
      refine one ?_ h1
      cases v <;> first | rfl | (simp [Cell.okWide, Cell.ok, hu] at hok)
    | slice e =>
      refine one ?_ h1
      cases v <;> first | rfl | (simp [Cell.okWide, Cell.ok, hu] at hok)
    | array m e =>
      obtain ⟨cs, rfl, -⟩ := hok
      exact Rep.agg_iff.2 ⟨cs, rfl, by simpa [Value.cells] using h1⟩
    | _ => simp at hp

def typedAll {H : Type} (P : Program) : List Nat → List (DataW H) → Prop
  | [], [] => True
  | t :: ts, d :: ds => (∃ n, typed P n t d) ∧ typedAll P ts ds
  | _, _ => False
def argAVs {H : Type} (P : Program) : List Nat → List (DataW H) → List AV
  | t :: ts, d :: ds => argAV P t d :: argAVs P ts ds
  | _, _ => []

theorem args_rep {H : Type} {enc : TypeId × Value → H} {P : Program} {w W : World} {T : List Nat} {r : Go.Reach} {b0 : Nat} {base : Nat} {sp : Nat → Bool} {hd : Bool} (hT : (T.all fun t => plainT P T t) = true) :
    ∀ (ts : List Nat) (vs : List Value) (ds : List (DataW H)) (ps : List MemPlace), (ts.all fun t => T.contains t) = true → (∀ (j : Nat) t v, ts[j]? = some t → vs[j]? = some v → Value.okWide P W r b0 t v) →
    DataW.TrodAll enc P w base sp hd ts vs ds ps → RepL allL w.heap vs (argAVs P ts ds) ∧ typedAll P ts ds
  | [], [], [], _, _, _, _ => ⟨RepL.nil _ _, trivial⟩
  | t :: ts, v :: vs, d :: ds, _, hc, hok, h => by
    obtain ⟨p, q, h1, h2, -⟩ := h
    simp only [List.all_cons, Bool.and_eq_true] at hc
    obtain ⟨g1, g2⟩ := arg_rep hT hc.1 (hok 0 t v rfl rfl) h1
    obtain ⟨g3, g4⟩ := args_rep hT ts vs ds q hc.2 (fun j t v a b => hok (j + 1) t v (by simpa using a) (by simpa using b)) h2
    exact ⟨.cons g1 g3, g2, g4⟩
  | [], [], _ :: _, _, _, _, h => h.elim
  | [], _ :: _, _, _, _, _, h => by cases h
  | _ :: _, [], _, _, _, _, h => by cases h
  | _ :: _, _ :: _, [], _, _, _, h => by cases h

theorem keep_args {H : Type} {enc : TypeId × Value → H} {P : Program} (hl : laidOutB P = true) {W W' : World} (hb : Below W.heap.size W W') :
    ∀ (ts : List TypeId) (vs : List Value) (ds : List (DataW H)) (ps : List MemPlace), (∀ t ∈ ts, P.readableRec t = true ∧ t < P.types.size) → DataW.TrodAll enc P W 0 (fun _ => true) true ts vs ds ps → (∀ p ∈ ps, p.block < W.heap.size) →
    ∀ sp : Nat → Bool, (∀ p ∈ ps, sp p.block = true) → DataW.TrodAll enc P W' 0 sp true ts vs ds ps
  | [], [], [], _, _, h, _, _, _ => h
  | t :: ts, v :: vs, d :: ds, _, hr, h, hlt, sp, hs => by
    obtain ⟨p, q, h1, h2, rfl⟩ := h
    refine ⟨p, q, ?_, keep_args hl hb ts vs ds q (fun t ht => hr t (by simp [ht])) h2 (fun x hx => hlt x (by simp [hx])) sp (fun x hx => hs x (by simp [hx])), rfl⟩
    obtain ⟨g1, g2⟩ := hr t (by simp)
    exact WideElems.Trod_stays hl g1 g2 h1 (fun x hx => hb.same (hlt x (by simp [hx]))) (fun x hx => hs x (by simp [hx]))
  | [], [], _ :: _, _, _, h, _, _, _ => h.elim
  | [], _ :: _, _, _, _, h, _, _, _ => by cases h
  | _ :: _, [], _, _, _, h, _, _, _ => by cases h
  | _ :: _, _ :: _, [], _, _, h, _, _, _ => by cases h

theorem law_calls {H : Type} {enc : TypeId × Value → H} {P : Program} {fn : Func} {f : FuncId} {s : ChangeSpec} {T : List Nat} {gl : Gl} {W : World} {base : Nat} {args : Array Value} {ds gs : List (DataW H)} {before : List MemPlace} {tb : TypeId} {fresh handsOn again : Bool}
    (hT : (T.all fun t => plainT P T t) = true) (hlaid : laidOutB P = true) (hpar : (fn.params.toList.all fun t => T.contains t && P.readableRec t && decide (t < P.types.size)) = true) (hres : fn.resultTypes = #[tb]) (hb : P.underlying tb = some .bool) (hvars : s.vars = [])
    (hval : ∀ (j : Nat) t v, fn.params[j]? = some t → args[j]? = some v → Value.okWide P W .any base t v)
    (hW : DataW.Whole enc P fn.params.toList s.vars false W args.toList ds gs before) (hgl : GlOk gl allL W.heap) (hvt : s.plain.varTypes P = [])
    (hwt : (DataW.weightsEach P (fn.params.toList ++ s.plain.varTypes P) (ds ++ gs)).all (· ≤ reachBytes) = true)
    (hv : typedAll P fn.params.toList ds → (DataW.weightsEach P fn.params.toList ds).all (· ≤ reachBytes) = true → Valid P gl f (argAVs P fn.params.toList ds) (.bool true))
    (hspec : typedAll P fn.params.toList ds → s.fn H (ds ++ []) = { results := [.lit (.bool true)], args := ds }) :
    Calls P f args W fun e W' => ∃ v, e = .returned v ∧ s.post enc P fn false fresh handsOn again W args v W' := by
  have hW0 := hW
  obtain ⟨p, q, hA, hV, rfl, hfz, hnd⟩ := hW
  rw [hvars] at hV
  obtain ⟨rfl, rfl⟩ : gs = [] ∧ q = [] := by
    cases gs with
    | nil => exact ⟨rfl, hV⟩
    | cons g r => exact hV.elim
  have hpar' : ∀ t ∈ fn.params.toList, T.contains t = true ∧ P.readableRec t = true ∧ t < P.types.size := fun t ht => by
    have := List.all_eq_true.1 hpar t ht
    simp only [Bool.and_eq_true, decide_eq_true_eq] at this
    exact ⟨this.1.1, this.1.2, this.2⟩
  obtain ⟨hrep, hty⟩ := args_rep (w := W) hT fn.params.toList args.toList ds p (List.all_eq_true.2 fun t ht => (hpar' t ht).1) (fun j t v a b => hval j t v (by simpa using a) (by simpa using b)) hA
  obtain ⟨-, hcall⟩ := hv hty (by simpa [hvt] using hwt)
  refine (hcall allL W args.toList hgl hrep (fun b c h => by cases h)).mono fun e W' => ?_
  rintro ⟨v, r, sh', lim', rfl, hf, hlim, hr, -, ⟨rfl, rfl⟩, -, -⟩
  have hbv := rep_bool hr
  subst hbv
  have hbel : Below W.heap.size W W' := ⟨hf.os, hf.tape, hf.output, hf.size, fun k hk => hf.block k hk (by simp [look])⟩
  have e1 := hspec hty
  simp only [List.append_nil] at hW0 ⊢
  have hlt : ∀ x ∈ p, x.block < W.heap.size := fun x hx => hW0.lt x hx
  have hold : ∀ x ∈ p, (fun b => decide (b < W.heap.size)) x.block = true := fun x hx => by simpa using hlt x hx
  have hresT : ∀ (b : Nat) (sp : Nat → Bool) (hd : Bool), DataW.TrodAll enc P W' b sp hd fn.resultTypes.toList ((Value.bool true).resultList fn.resultTypes.size) (s.fn H (ds ++ [])).results [] := fun b sp hd => by
    rw [e1, hres]
    exact trodAll_mk1 (shut_bool hb true)
  have hargs : ∀ sp : Nat → Bool, (∀ x ∈ p, sp x.block = true) → DataW.TrodAll enc P W' 0 sp true fn.params.toList args.toList (s.fn H (ds ++ [])).args p := fun sp hsp => by
    rw [e1]
    exact keep_args hlaid hbel fn.params.toList args.toList ds p (fun t ht => (hpar' t ht).2) hA hlt sp hsp
  refine ⟨_, rfl, ds, [], p, [], p, [], by simpa using hW0, hresT _ _ _, hargs _ hold, ?_, World.keptBut_mono (fun x hx => hx.elim) (hbel.frame fun _ => False), fun _ => ⟨fun j t' r hj hv => ?_, ?_⟩⟩
  · rw [hvars, e1]; rfl
  · rw [hres] at hj hv
    match j, hj, hv with
    | 0, hj, hv =>
      simp only [List.getElem?_toArray, List.getElem?_cons_zero, Option.some.injEq] at hj
      subst hj
      simp only [List.size_toArray, List.length_cons, List.length_nil, Value.resultList] at hv
      injection hv with hv; subst hv
      exact okWide_bool_mk hb true
  · refine ⟨_, [], ([] ++ p) ++ [], ⟨[] ++ p, [], trodAll_append (hargs (fun _ => true) (fun _ _ => rfl)) (hresT 0 (fun _ => true) true), by rw [hvars]; rfl, rfl, fun b off hx => ?_, fun h => by cases h⟩, fun x hx _ => ?_⟩
    · skip
      rw [hbel.frozen (hlt _ (by simpa using hx))]
      exact hfz b off (by simpa using hx)
    · simpa using hx

theorem typed_succ {H : Type} {P : Program} {n t : Nat} {d : DataW H} (h : typed P n t d) : ∃ m, n = m + 1 := by
  cases n with
  | zero => exact h.elim
  | succ n => exact ⟨n, rfl⟩
theorem typed_str {H : Type} {P : Program} {n t : Nat} {d : DataW H} (hu : P.underlying t = some .string) (h : typed P n t d) : ∃ s, d = .lit (.string s) := by
  obtain ⟨m, rfl⟩ := typed_succ h
  unfold typed at h; rw [hu] at h; exact h
theorem typed_int {H : Type} {P : Program} {n t : Nat} {k : IntKind} {d : DataW H} (hu : P.underlying t = some (.int k)) (h : typed P n t d) : ∃ m, d = .lit (.int k m) ∧ (Lit.int k m).wf = true := by
  obtain ⟨m, rfl⟩ := typed_succ h
  unfold typed at h; rw [hu] at h; exact h
theorem typed_slice {H : Type} {P : Program} {n t e : Nat} {d : DataW H} (hu : P.underlying t = some (.slice e)) (h : typed P n t d) : ∃ m, n = m + 1 ∧ (d = .nil ∨ ∃ es sp, d = .slice es sp ∧ ∀ x ∈ es, typed P m e x) := by
  obtain ⟨m, rfl⟩ := typed_succ h
  unfold typed at h; rw [hu] at h; exact ⟨m, rfl, h⟩
def typedEach {H : Type} (P : Program) (n : Nat) : List Nat → List (DataW H) → Prop
  | [], [] => True
  | t :: ts, d :: ds => typed P n t d ∧ typedEach P n ts ds
  | _, _ => False
theorem typed_struct {H : Type} {P : Program} {n t : Nat} {l : List Nat} {d : DataW H} (hu : ftypes P t = some l) (h : typed P n t d) : ∃ m ps, n = m + 1 ∧ d = .agg ps ∧ typedEach P m l ps ∧ d.weights P t = DataW.weightsEach P l ps := by
  obtain ⟨m, rfl⟩ := typed_succ h
  obtain ⟨fs, hu2, rfl⟩ := ftypes_spec hu
  clear hu
  have hu := hu2
  unfold typed at h; rw [hu] at h
  obtain ⟨ps, rfl, hl, hf⟩ := h
  refine ⟨m, ps, rfl, rfl, ?_, by simp [DataW.weights, hu]⟩
  have key : ∀ (l : List Field) (ps : List (DataW H)), ps.length = l.length → (∀ (i : Nat) (f : Field) (x : DataW H), l[i]? = some f → ps[i]? = some x → typed P m f.type x) → typedEach P m (l.map (·.type)) ps := by
    intro l
    induction l with
    | nil => intro ps hl _; cases ps with
      | nil => trivial
      | cons x r => simp at hl
    | cons f l ih => intro ps hl hf; cases ps with
      | nil => simp at hl
      | cons x r => exact ⟨hf 0 f x rfl rfl, ih r (by simpa using hl) (fun i g y a b => hf (i + 1) g y (by simpa using a) (by simpa using b))⟩
  exact key fs.toList ps (by simpa using hl) (fun i f x a b => hf i f x (by simpa using a) b)
theorem weights_slice {H : Type} {P : Program} {t e : Nat} {es sp : List (DataW H)} (hu : P.underlying t = some (.slice e)) (hb : 0 < P.bytesOf e) (h : ((DataW.slice es sp).weights P t).all (· ≤ reachBytes) = true) :
    es.length ≤ 140737488355328 ∧ ∀ x ∈ es, (x.weights P e).all (· ≤ reachBytes) = true := by
  simp only [DataW.weights, hu, List.all_cons, List.all_append, Bool.and_eq_true, decide_eq_true_eq] at h
  obtain ⟨h1, h2, -⟩ := h
  refine ⟨?_, ?_⟩
  · have : (es.length + sp.length) * 1 ≤ (es.length + sp.length) * P.bytesOf e := Nat.mul_le_mul_left _ hb
    have h3 : reachBytes ≤ 140737488355328 := by decide
    omega
  · clear h1
    induction es with
    | nil => intro x hx; cases hx
    | cons y es ih =>
      simp only [DataW.weightsAll, List.all_append, Bool.and_eq_true] at h2
      intro x hx
      rcases List.mem_cons.1 hx with rfl | hx
      · exact h2.1
      · exact ih h2.2 x hx
theorem rows_of {H : Type} {α : Type} {enc : α → List AV} {good : α → Prop} : ∀ (es : List (DataW H)), (∀ x ∈ es, ∃ a, avOf x = enc a ∧ good a) → ∃ l : List α, avRows es = l.map enc ∧ l.length = es.length ∧ ∀ a ∈ l, good a
  | [], _ => ⟨[], rfl, rfl, fun a ha => by cases ha⟩
  | x :: es, h => by
    obtain ⟨a, h1, h2⟩ := h x (by simp)
    obtain ⟨l, h3, h4, h5⟩ := rows_of es (fun y hy => h y (by simp [hy]))
    refine ⟨a :: l, by simp [avRows, h1, h3], by simp [h4], fun b hb => ?_⟩
    rcases List.mem_cons.1 hb with rfl | hb
    · exact h2
    · exact h5 b hb
theorem str_of {H : Type} {P : Program} {S n : Nat} (hS : P.underlying S = some .string) {d : DataW H} (h : typed P n S d) (hw : (d.weights P S).all (· ≤ reachBytes) = true) : ∃ s, avOf d = [.str s] ∧ s.length ≤ 140737488355328 := by
  obtain ⟨s, rfl⟩ := typed_str hS h
  simp only [DataW.weights, List.all_cons, List.all_nil, Bool.and_true, decide_eq_true_eq] at hw
  have h3 : reachBytes ≤ 140737488355328 := by decide
  exact ⟨s, rfl, by omega⟩
theorem fits_all {l : List Ty} (h : ∀ t ∈ l, fit t) : fits l := by
  induction l with
  | nil => trivial
  | cons t l ih => exact ⟨h t (by simp), ih (fun x hx => h x (by simp [hx]))⟩
theorem weightsEach_cons {H : Type} {P : Program} {t : Nat} {ts : List Nat} {d : DataW H} {ds : List (DataW H)} (h : (DataW.weightsEach P (t :: ts) (d :: ds)).all (· ≤ reachBytes) = true) : (d.weights P t).all (· ≤ reachBytes) = true ∧ (DataW.weightsEach P ts ds).all (· ≤ reachBytes) = true := by
  simpa [DataW.weightsEach] using h

section
variable {H : Type} {P : Program} {S I L T : Nat} (hS : P.underlying S = some .string) (hI : P.underlying I = some (.int .i64)) (hL : P.underlying L = some (.slice T)) (hF : ftypes P T = some [S, L, I]) (hb : 0 < P.bytesOf T)
include hS hI hL hF hb
theorem ty_of : ∀ (n : Nat) (d : DataW H), typed P n T d → (d.weights P T).all (· ≤ reachBytes) = true → ∃ t : Ty, avOf d = encTy t ∧ fit t := by
  intro n
  induction n using Nat.strongRecOn with
  | _ n ih =>
    intro d h hw
    obtain ⟨m, ps, rfl, rfl, hps, hwe⟩ := typed_struct hF h
    rw [hwe] at hw
    match ps, hps with
    | [a, b, c], ⟨ha, hb', hc, _⟩ =>
      obtain ⟨w1, hw⟩ := weightsEach_cons hw
      obtain ⟨w2, hw⟩ := weightsEach_cons hw
      obtain ⟨s, hs1, hs2⟩ := str_of hS ha w1
      obtain ⟨p, rfl, -⟩ := typed_int hI hc
      obtain ⟨q, rfl, hq⟩ := typed_slice hL hb'
      rcases hq with rfl | ⟨es, sp, rfl, hq⟩
      · exact ⟨.mk s [] p, by simp [avOf, avFlat, hs1, encTy_mk], by simp [fit, fits, hs2]⟩
      · obtain ⟨g1, g2⟩ := weights_slice hL hb w2
        obtain ⟨l, e1, e2, e3⟩ := rows_of (enc := encTy) (good := fit) es (fun x hx => ih q (by omega) x (hq x hx) (g2 x hx))
        exact ⟨.mk s l p, by simp [avOf, avFlat, hs1, encTy_mk, e1], by rw [fit]; exact ⟨hs2, by omega, fits_all e3⟩⟩
end
theorem argAV_agg {H : Type} {P : Program} {t : Nat} {l : List Nat} {d : DataW H} (h : ftypes P t = some l) : argAV P t d = .agg (avOf d) := by
  obtain ⟨fs, hu, -⟩ := ftypes_spec h
  simp [argAV, hu]
theorem laid_head {P : Program} {T : List Nat} (hT : (T.all fun t => plainT P T t) = true) {n : String} {d : DataW Unit} {r : List (String × DataW Unit)} {w : World} {g t : Nat} (hg : P.globalNamed n = some g) (ht : (P.globals[g]?).map (·.type) = some t) (hc : T.contains t = true)
    (h : laidMet P ((n, d) :: r) w) : GlAt allL w.heap g (avOf d) := by
  obtain ⟨ps, ⟨g', t', cs, fuel, p, q, h1, h2, h3, h4, -, -⟩, -, -⟩ := h
  obtain rfl := Option.some.inj (hg.symm.trans h1)
  obtain rfl := Option.some.inj (ht.symm.trans h2)
  obtain ⟨h5, -⟩ := trod_rep hT fuel t _ _ _ hc h4
  refine ⟨Rep.ro_iff.2 ⟨g, 0, cs.toList, rfl, h5, fun j u hu => ⟨allL_ok _ _, ?_⟩⟩, fun _ => ⟨allL_ok _ _, ?_⟩⟩
  · have := World.var?_cell hg h3 j
    rw [cell?_eq] at this
    rw [Nat.zero_add, this]
    simpa using hu
  · have := World.var?_cell hg h3 (avOf d).length
    rw [cell?_eq] at this
    rw [this, ← h5.1]
    simp

theorem glAt_err {P : Program} {n : String} {w : World} {g tp : Nat} {a : Addr} {v : Value} (hg : P.globalNamed n = some g) (h : w.var? P n = some #[.iface tp (.pointer (some a))]) (hc : w.cell? a = some v) : GlAt allL w.heap g [.iface tp (.ro [])] := by
  have hs : a.spot = none := by
    unfold World.cell? at hc
    split at hc
    · split at hc
      · cases hc
      · rename_i hq; simpa using hq
    · cases hc
  obtain ⟨b, o, s⟩ := a
  simp only at hs; subst hs
  have hcell : ∀ i, cellAt w.heap g i = (#[Value.iface tp (.pointer (some ⟨b, o, none⟩))] : Array Value)[i]? := fun i => by
    have := World.var?_cell hg h i
    rwa [cell?_eq] at this
  refine ⟨Rep.ro_iff.2 ⟨g, 0, [.iface tp (.pointer (some ⟨b, o, none⟩))], rfl, .cons (.iface _ _ _ (rep_any _ _ _ _)) (.nil _ _), fun j u hu => ⟨allL_ok _ _, ?_⟩⟩, fun _ => ⟨allL_ok _ _, ?_⟩⟩
  · rw [Nat.zero_add, hcell]; simpa using hu
  · rw [hcell]; rfl

theorem tab_of {P : Program} {n : String} {g : Nat} {k : IntKind} {zs : List Int} {lim : Lim} {w : World} (hg : P.globalNamed n = some g) (hz : zs ≠ []) (h : GlAt lim w.heap g (zs.map (AV.int k))) : Lib.TabIs P w n k zs := by
  obtain ⟨b, off, vs, hp, hv, hc⟩ := Rep.ro_iff.1 h.1
  simp only [Value.pointer.injEq, Option.some.injEq, Addr.mk.injEq, and_true] at hp
  obtain ⟨rfl, rfl⟩ := hp
  obtain ⟨-, h2⟩ := h.2 (by simpa using hz)
  have hl : vs.length = zs.length := by rw [hv.1]; simp
  have h0 : 0 < vs.length := by rw [hl]; exact List.length_pos_iff.2 hz
  obtain ⟨cs, e, z, hb⟩ := cellAt_B (hc 0 vs[0] (by simp [h0])).2
  have hcell : ∀ j, cellAt w.heap g j = cs[j]? := fun j => by unfold cellAt; rw [hb]
  have hsz : cs.size = zs.length := by
    rw [hcell] at h2
    simp only [List.length_map, getElem?_eq_none_iff] at h2
    have h3 := (hc (vs.length - 1) vs[vs.length - 1] (by rw [List.getElem?_eq_getElem (by omega)])).2
    rw [Nat.zero_add, hcell] at h3
    have h4 := (Array.getElem?_eq_some_iff.1 h3).1
    simp at h2
    omega
  unfold Lib.TabIs World.var?
  rw [hg]
  simp only [Option.bind_some, hb]
  congr 1
  apply Array.ext
  · simp [hsz]
  · intro i h1 h3
    have h4 : i < vs.length := by omega
    have h5 := (hc i vs[i] (by simp [h4])).2
    rw [Nat.zero_add, hcell, Array.getElem?_eq_getElem h1] at h5
    injection h5 with h5
    have h6 := hv.2 i (.int k (zs[i]'(by omega))) (by rw [List.getElem?_map, List.getElem?_eq_getElem (by omega)]; rfl)
    rw [List.getD_eq_getElem?_getD, List.getElem?_eq_getElem h4] at h6
    have h7 := rep_int h6
    simp only [Option.getD_some] at h7
    rw [h5, h7]
    simp

end Go.Pv
end

section
/- Plain laws on types: sizes, orders. -/
namespace Go.Pv
open Go

mutual
def csum : Ty → Nat | .mk n ts _ => 1 + n.length / 50 + csums ts
def csums : List Ty → Nat | [] => 0 | t :: r => csum t + csums r
end
theorem cnt_sum : ∀ t : Ty, ∀ k : Nat, k ≤ cnt t k ∧ (cnt t k ≤ 2000 → cnt t k = k + csum t) := by
  intro t
  induction t using Ty.ind with
  | h n ts p ih =>
    intro k
    have key : ∀ l : List Ty, (∀ t ∈ l, ∀ k : Nat, k ≤ cnt t k ∧ (cnt t k ≤ 2000 → cnt t k = k + csum t)) → ∀ k, k ≤ cnts l k ∧ (cnts l k ≤ 2000 → cnts l k = k + csums l) := by
      intro l
      induction l with
      | nil => intro _ k; simp [cnts, csums]
      | cons t l ihl =>
        intro h k
        have h1 := h t (by simp) k
        have h2 := ihl (fun x hx => h x (by simp [hx])) (cnt t k)
        rw [cnts_cons, csums]
        split
        · refine ⟨by omega, fun h3 => ?_⟩
          have h4 := h2.2 h3
          have h5 := h1.2 (by omega)
          omega
        · exact ⟨Nat.le_refl _, fun h3 => by omega⟩
    have h1 := key ts ih (k + 1 + n.length / 50)
    simp only [cnt, csum]
    exact ⟨by omega, fun h => by have := h1.2 h; omega⟩
theorem wt_sum : ∀ t : Ty, wt t ≤ 50 * csum t := by
  intro t
  induction t using Ty.ind with
  | h n ts p ih =>
    have key : ∀ l : List Ty, (∀ t ∈ l, wt t ≤ 50 * csum t) → wts l ≤ 50 * csums l := by
      intro l
      induction l with
      | nil => intro _; simp [wts, csums]
      | cons t l ihl =>
        intro h
        have h1 := h t (by simp)
        have h2 := ihl (fun x hx => h x (by simp [hx]))
        simp only [wts, csums]; omega
    have h1 := key ts ih
    simp only [wt, csum]
    omega
theorem few_wt {t : Ty} (h : cnt t 0 ≤ 200) : wt t ≤ 10000 := by
  have h1 := (cnt_sum t 0).2 (by omega)
  have h2 := wt_sum t
  omega
theorem cnts_sum : ∀ (l : List Ty) (k : Nat), k ≤ cnts l k ∧ (cnts l k ≤ 2000 → cnts l k = k + csums l) := by
  intro l
  induction l with
  | nil => intro k; simp [cnts, csums]
  | cons t l ihl =>
    intro k
    have h1 := cnt_sum t k
    have h2 := ihl (cnt t k)
    rw [cnts_cons, csums]
    split
    · refine ⟨by omega, fun h3 => ?_⟩
      have h4 := h2.2 h3
      have h5 := h1.2 (by omega)
      omega
    · exact ⟨Nat.le_refl _, fun h3 => by omega⟩
theorem csum_pos (t : Ty) : 1 ≤ csum t := by cases t; simp [csum]; omega
end Go.Pv
namespace Go.Pv
open Go
def idTy (n : Str) : Ty := .mk n [] 77
end Go.Pv
namespace Go.Pv
open Go
end Go.Pv
namespace Go.Pv
open Go
def goM (m : Int) (s : List AV) (_ : AV) : Bool := decide ((s.length : Int) + 1 ≤ m)
def elM (L : List AV) (m : Int) (s : List AV) (x : AV) : Prop := elP L s x ∧ (s.length : Int) ≤ m
end Go.Pv
end

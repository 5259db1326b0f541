import Derived.Test.YtocmdbojefgpbaaGreatDoorPvS
import Derived.Lib.Join
import Derived.Below
set_option linter.all false
section
/- The library's contracts, as contracts of this kind. -/
namespace Go.Pv
open Go Go.RowKit

theorem valid_calls {P : Program} {gl : Gl} {f : FuncId} {args : List AV} {r : AV} (hok : fnOk P f = true)
    (h : ∀ (lim : Lim) (w : World) (cargs : List Value), RepL lim w.heap cargs args → Calls P f cargs.toArray w fun e w' => ∃ v, e = .returned v ∧ Below w.heap.size w w' ∧ ∀ lim', (∀ b, b < w.heap.size → lim' b = lim b) → Rep lim' w'.heap v r) : Valid P gl f args r := by
  refine ⟨hok, fun lim w cargs _ hargs _ => (h lim w cargs hargs).mono fun e w' => ?_⟩
  rintro ⟨v, rfl, hb, hr⟩
  exact ⟨v, r, [], lim, rfl, ⟨hb.os, hb.tape, hb.output, hb.size, fun k hk _ => hb.block k hk⟩, fun _ _ => rfl, hr lim (fun _ _ => rfl), fun b c h => (by cases h), ⟨rfl, rfl⟩, fun _ h => h, fun b h => (by cases h)⟩

theorem valid_callsG {P : Program} {gl : Gl} {f : FuncId} {args : List AV} {r : AV} (hok : fnOk P f = true)
    (h : ∀ (lim : Lim) (w : World) (cargs : List Value), GlOk gl lim w.heap → RepL lim w.heap cargs args → Calls P f cargs.toArray w fun e w' => ∃ v, e = .returned v ∧ Below w.heap.size w w' ∧ ∀ lim', (∀ b, b < w.heap.size → lim' b = lim b) → Rep lim' w'.heap v r) : Valid P gl f args r := by
  refine ⟨hok, fun lim w cargs hgl hargs _ => (h lim w cargs hgl hargs).mono fun e w' => ?_⟩
  rintro ⟨v, rfl, hb, hr⟩
  exact ⟨v, r, [], lim, rfl, ⟨hb.os, hb.tape, hb.output, hb.size, fun k hk _ => hb.block k hk⟩, fun _ _ => rfl, hr lim (fun _ _ => rfl), fun b c h => (by cases h), ⟨rfl, rfl⟩, fun _ h => h, fun b h => (by cases h)⟩

theorem rep_any (lim : Lim) (h : Array Obj) (b off : Nat) : Rep lim h (.pointer (some ⟨b, off, none⟩)) (.ro []) := .ro b off [] (fun _ => undef) (fun j hj => absurd hj (Nat.not_lt_zero _)) (fun j x hx => by simp at hx)

theorem strs_cells {lim : Lim} {w : World} {v : Value} {l : List Str} (r : Rep lim w.heap v (.slice (l.map encS))) (hl : l ≠ []) :
    ∃ b off cap, v = .slice (some ⟨b, off, none⟩) l.length cap ∧ l.length ≤ cap ∧ b < w.heap.size ∧ ∀ (j : Nat) (x : ByteArray), (l.map fun s => (⟨s.toArray⟩ : ByteArray))[j]? = some x → w.cell? ⟨b, off + j, none⟩ = some (Value.string x) := by
  obtain ⟨p, cap, hv, hcap⟩ := r.slice_form
  rw [hv] at r
  obtain ⟨b, off, vs, hp, hvl, hvr, hvc⟩ := r.slice_cells (sz := 1) (fun x hx => by obtain ⟨s, _, rfl⟩ := List.mem_map.1 hx; rfl) (by simpa using hl)
  have hflat : (l.map encS).flatten = l.map AV.str := by
    clear r hv hcap hvl hvr hl
    induction l with
    | nil => rfl
    | cons x l ih => simp [encS, ih]
  have hget : ∀ (j : Nat) (s : Str), l[j]? = some s → vs[j]? = some (Value.string ⟨s.toArray⟩) := by
    intro j s hs
    rw [hflat] at hvr
    obtain ⟨u, hu, hru⟩ := hvr.get (j := j) (x := .str s) (by simp [hs])
    rw [hu, rep_str hru]
  refine ⟨b, off, cap, by rw [hv, hp]; simp, by simpa using hcap, ?_, fun j x hx => ?_⟩
  · cases l with
    | nil => exact absurd rfl hl
    | cons s l => exact cellAt_lt (hvc 0 _ (hget 0 s rfl)).2
  · rw [List.getElem?_map] at hx
    cases hs : l[j]? with
    | none => rw [hs] at hx; cases hx
    | some s =>
      rw [hs] at hx
      injection hx with hx
      subst hx
      rw [cell?_eq]
      exact (hvc j _ (hget j s hs)).2

theorem join_valid {P : Program} {gl : Gl} {f : FuncId} (hok : fnOk P f = true)
    (h0 : ∀ (a : Option Addr) (c : Nat) (sep : ByteArray) (w : World), Calls P f #[.slice a 0 c, .string sep] w fun e w' => e = .returned (.string ⟨#[]⟩) ∧ w' = w)
    (h1 : ∀ (bk o c : Nat) (xs : List ByteArray) (sep : ByteArray) (w : World), (∀ (j : Nat) x, xs[j]? = some x → w.cell? ⟨bk, o + j, none⟩ = some (Value.string x)) → bk < w.heap.size → xs.length ≤ 140737488355328 → xs.length ≤ c → (Lib.join (xs.map (·.data.toList)) sep.data.toList).length ≤ 140737488355328 →
      Calls P f #[.slice (some ⟨bk, o, none⟩) xs.length c, .string sep] w fun e w' => e = .returned (.string ⟨(Lib.join (xs.map (·.data.toList)) sep.data.toList).toArray⟩) ∧ Below w.heap.size w w')
    (l : List Str) (sep : Str) (hn : l.length ≤ 140737488355328) (hlen : (Lib.join l sep).length ≤ 140737488355328) : Valid P gl f [.slice (l.map encS), .str sep] (.str (Lib.join l sep)) := by
  refine valid_calls hok fun lim w cargs hargs => ?_
  obtain ⟨v, u, rfl⟩ : ∃ v u, cargs = [v, u] := by
    have := hargs.1
    match cargs, this with
    | [v, u], _ => exact ⟨v, u, rfl⟩
  have hv := hargs.head
  have hu := rep_str hargs.tail.head
  subst hu
  by_cases hl : l = []
  · subst hl
    obtain ⟨p, cap, hv', -⟩ := Rep.slice_form (l := []) hv
    rw [hv']
    refine (h0 p cap ⟨sep.toArray⟩ w).mono fun e w' => ?_
    rintro ⟨rfl, rfl⟩
    exact ⟨_, rfl, Below.refl _ _, fun _ _ => .str []⟩
  · obtain ⟨b, off, cap, rfl, hcap, hb, hc⟩ := strs_cells hv hl
    have := h1 b off cap (l.map fun s => ⟨s.toArray⟩) ⟨sep.toArray⟩ w hc hb (by simpa using hn) (by simpa using hcap) (by simpa [Function.comp_def] using hlen)
    simp only [List.length_map, List.map_map, Function.comp_def, List.map_id'] at this
    refine this.mono fun e w' => ?_
    rintro ⟨rfl, hbel⟩
    exact ⟨_, rfl, hbel, fun _ _ => .str _⟩

end Go.Pv
end

section
/- What the functions on types compute, as plain functions. -/
namespace Go.Pv
open Go

mutual
def wt : Ty → Nat | .mk n ts _ => n.length + 1 + wts ts
def wts : List Ty → Nat | [] => 0 | t :: r => wt t + wts r
end
mutual
def dep : Ty → Nat | .mk _ ts _ => deps ts + 1
def deps : List Ty → Nat | [] => 0 | t :: r => max (dep t) (deps r)
end
mutual
def lst : Ty → List Str | .mk n ts _ => n :: lsts ts
def lsts : List Ty → List Str | [] => [] | t :: r => lst t ++ lsts r
end
mutual
def txt : Ty → Str | .mk n ts _ => if ts.isEmpty then n else n ++ [91] ++ Lib.join (txts ts) [44, 32] ++ [93]
def txts : List Ty → List Str | [] => [] | t :: r => txt t :: txts r
end
mutual
def cnt : Ty → Nat → Nat | .mk n ts _, k => cnts ts (k + 1 + n.length / 50)
def cnts : List Ty → Nat → Nat | [], k => k | t :: r, k => if k ≤ 2000 then cnts r (cnt t k) else k
end

def cmpS (a b : Str) : Int := if Op.bytesLess a b then -1 else if a = b then 0 else 1

mutual
def cmpT : Ty → Ty → Int | .mk n ts _, u => if cmpS n u.name = 0 then cmpTs ts u.args else cmpS n u.name
def cmpTs : List Ty → List Ty → Int
  | [], us => if us.isEmpty then 0 else -1
  | t :: r, us => match us with
    | [] => 1
    | u :: s => if cmpT t u = 0 then cmpTs r s else cmpT t u
end

def Ty.at_ (p : Int) : Ty → Ty | .mk n ts _ => .mk n ts p

def idxF : List Str → Str → Nat → Int | [], _, _ => -1 | x :: r, s, k => if s = x then k else idxF r s (k + 1)

mutual
def sub (ns : List Str) (as : List Ty) : Ty → Ty
  | .mk n ts p => if ts.isEmpty then (if 0 ≤ idxF ns n 0 then (match as[(idxF ns n 0).toNat]? with | some a => a.at_ p | none => .mk n [] p) else .mk n [] p) else .mk n (subs ns as ts) p
def subs (ns : List Str) (as : List Ty) : List Ty → List Ty
  | [] => []
  | t :: r => sub ns as t :: subs ns as r
end

mutual
def eqT : Ty → Ty → Bool | .mk n ts p, u => n == u.name && p == u.pos && eqTs ts u.args
def eqTs : List Ty → List Ty → Bool
  | [], us => us.isEmpty
  | t :: r, us => match us with
    | [] => false
    | u :: s => eqT t u && eqTs r s
end

theorem subs_map (ns : List Str) (as : List Ty) (l : List Ty) : subs ns as l = l.map (sub ns as) := by
  induction l with
  | nil => rfl
  | cons t l ih => simp [subs, ih]
theorem lsts_flat (l : List Ty) : lsts l = (l.map lst).flatten := by
  induction l with
  | nil => rfl
  | cons t l ih => simp [lsts, ih]

theorem take_get {α : Type} (l : List α) (k : Nat) (h : k < l.length) : l.take (k + 1) = l.take k ++ [l[k]] := by
  rw [List.take_add_one, List.getElem?_eq_getElem h]; rfl

theorem wts_app (a b : List Ty) : wts (a ++ b) = wts a + wts b := by
  induction a with
  | nil => simp [wts]
  | cons t a ih => simp [wts, ih, Nat.add_assoc]
theorem lsts_app (a b : List Ty) : lsts (a ++ b) = lsts a ++ lsts b := by simp [lsts_flat]
theorem lsts_take (l : List Ty) (k : Nat) (h : k < l.length) : lsts (l.take (k + 1)) = lsts (l.take k) ++ lst l[k] := by rw [take_get l k h, lsts_app]; simp [lsts]
theorem map_take {α β : Type} (f : α → β) (l : List α) (k : Nat) (h : k < l.length) : (l.take (k + 1)).map f = (l.take k).map f ++ [f l[k]] := by rw [take_get l k h, List.map_append]; rfl
theorem wt_pos (t : Ty) : 0 < wt t := by cases t; simp [wt]; omega
theorem wts_len (l : List Ty) : l.length ≤ wts l := by
  induction l with
  | nil => simp
  | cons t l ih => simp [wts]; have := wt_pos t; omega
theorem wts_mem {l : List Ty} {t : Ty} (h : t ∈ l) : wt t ≤ wts l := by
  induction l with
  | nil => cases h
  | cons x l ih =>
    simp only [wts]
    rcases List.mem_cons.1 h with rfl | h
    · omega
    · have := ih h; omega
theorem wts_take (l : List Ty) (k : Nat) : wts (l.take k) ≤ wts l := by
  have := wts_app (l.take k) (l.drop k)
  rw [List.take_append_drop] at this
  omega

theorem cmpS_nil : cmpS [] [] = 0 := by simp [cmpS, Op.bytesLess]
theorem cmpS_nil_cons (y : UInt8) (b : Str) : cmpS [] (y :: b) = -1 := by simp [cmpS, Op.bytesLess]
theorem cmpS_cons_nil (x : UInt8) (a : Str) : cmpS (x :: a) [] = 1 := by simp [cmpS, Op.bytesLess]
theorem cmpS_cons (x y : UInt8) (a b : Str) : cmpS (x :: a) (y :: b) = if x.toNat < y.toNat then -1 else if y.toNat < x.toNat then 1 else cmpS a b := by
  have hl : ∀ u v : UInt8, (u < v) = (u.toNat < v.toNat) := fun _ _ => rfl
  simp only [cmpS, Op.bytesLess, hl]
  by_cases h1 : x.toNat < y.toNat
  · simp [h1]
  · by_cases h2 : y.toNat < x.toNat
    · have : x ≠ y := fun h => by subst h; exact h1 h2
      simp [h1, h2, this]
    · have : x = y := UInt8.toNat_inj.1 (by omega)
      subst this
      simp

theorem cmpS_end (a b : Str) (k : Nat) (h : a.length ≤ k ∨ b.length ≤ k) (ha : k ≤ a.length) (hb : k ≤ b.length) : cmpS (a.drop k) (b.drop k) = if a.length < b.length then -1 else if b.length < a.length then 1 else 0 := by
  cases hx : a.drop k with
  | nil =>
    have h1 : a.length ≤ k := by simpa using hx
    cases hy : b.drop k with
    | nil =>
      have h2 : b.length ≤ k := by simpa using hy
      rw [cmpS_nil, if_neg (by omega), if_neg (by omega)]
    | cons y b' =>
      have h2 : k < b.length := by
        have := congrArg List.length hy
        simp at this; omega
      rw [cmpS_nil_cons, if_pos (by omega)]
  | cons x a' =>
    have h1 : k < a.length := by
      have := congrArg List.length hx
      simp at this; omega
    have h2 : b.length ≤ k := by omega
    rw [List.drop_eq_nil_of_le h2, cmpS_cons_nil, if_neg (by omega), if_pos (by omega)]

theorem bytesLess_irrefl : ∀ a : Str, Op.bytesLess a a = false
  | [] => rfl
  | x :: a => by
    have : ¬ x < x := fun h => Nat.lt_irrefl _ (show x.toNat < x.toNat from h)
    simp [Op.bytesLess, this, bytesLess_irrefl a]

theorem cmpS_eq (a b : Str) : cmpS a b = 0 ↔ a = b := by
  unfold cmpS
  constructor
  · intro h
    split at h
    · cases h
    · split at h
      · assumption
      · cases h
  · rintro rfl
    simp [bytesLess_irrefl]

theorem cmpTs_cons (t u : Ty) (r s : List Ty) : cmpTs (t :: r) (u :: s) = if cmpT t u = 0 then cmpTs r s else cmpT t u := by simp [cmpTs]

theorem cmpTs_end (a b : List Ty) (k : Nat) (h : a.length ≤ k ∨ b.length ≤ k) (ha : k ≤ a.length) (hb : k ≤ b.length) : cmpTs (a.drop k) (b.drop k) = if a.length < b.length then -1 else if b.length < a.length then 1 else 0 := by
  cases hx : a.drop k with
  | nil =>
    have h1 : a.length ≤ k := by simpa using hx
    cases hy : b.drop k with
    | nil =>
      have h2 : b.length ≤ k := by simpa using hy
      rw [if_neg (by omega), if_neg (by omega)]; simp [cmpTs]
    | cons y b' =>
      have h2 : k < b.length := by
        have := congrArg List.length hy
        simp at this; omega
      rw [if_pos (by omega)]; simp [cmpTs]
  | cons x a' =>
    have h1 : k < a.length := by
      have := congrArg List.length hx
      simp at this; omega
    have h2 : b.length ≤ k := by omega
    rw [List.drop_eq_nil_of_le h2, if_neg (by omega), if_pos (by omega)]; simp [cmpTs]

def encI (x : Int) : List AV := [.int .i64 x]
@[simp] theorem encI_len (s : Int) : (encI s).length = 1 := rfl
@[simp] theorem encI_one (s : Int) : (encI s).all AV.one = true := rfl
@[simp] theorem encI_0 (s : Int) : (encI s)[0]? = some (.int .i64 s) := rfl
@[simp] theorem encI_take (s : Int) : (encI s).take 1 = encI s := rfl
@[simp] theorem encI_g (s : Int) (h : 0 < (encI s).length) : (encI s)[0] = .int .i64 s := rfl
@[simp] theorem encS_g (s : Str) (h : 0 < (encS s).length) : (encS s)[0] = .str s := rfl
@[simp] theorem encI_rows (l : List Int) : Rows 1 (l.map encI) := Rows_map 1 encI (fun _ => ⟨rfl, rfl⟩) l

def orI : List Int → Int | [] => 0 | x :: r => if x = 0 then orI r else x

theorem lst_wt : ∀ t : Ty, (lst t).length ≤ wt t := by
  intro t
  induction t using Ty.ind with
  | h n ts p ih =>
    simp only [lst, wt, List.length_cons]
    have : (lsts ts).length ≤ wts ts := by
      clear p
      induction ts with
      | nil => simp [lsts]
      | cons t ts ih' =>
        have h1 := ih t (by simp)
        have h2 := ih' (fun x hx => ih x (by simp [hx]))
        simp only [lsts, wts, List.length_append]
        omega
    omega
theorem lsts_wts (l : List Ty) : (lsts l).length ≤ wts l := by
  induction l with
  | nil => simp [lsts]
  | cons t l ih => have := lst_wt t; simp only [lsts, wts, List.length_append]; omega

theorem tdiv50 (a : Nat) : (a : Int).tdiv 50 = ((a / 50 : Nat) : Int) := rfl

mutual
def fit : Ty → Prop | .mk n ts _ => n.length ≤ 140737488355328 ∧ ts.length ≤ 140737488355328 ∧ fits ts
def fits : List Ty → Prop | [] => True | t :: r => fit t ∧ fits r
end
theorem fits_mem {l : List Ty} {t : Ty} (h : fits l) (ht : t ∈ l) : fit t := by
  induction l with
  | nil => cases ht
  | cons x l ih =>
    rw [fits] at h
    rcases List.mem_cons.1 ht with rfl | ht
    · exact h.1
    · exact ih h.2 ht

theorem cnts_cons (t : Ty) (r : List Ty) (k : Nat) : cnts (t :: r) k = if k ≤ 2000 then cnts r (cnt t k) else k := by rw [cnts]

theorem join_len (l : List Str) (sep : Str) : (Lib.join l sep).length ≤ (l.map fun s => s.length + sep.length).sum := by
  cases l with
  | nil => simp [Lib.join_nil]
  | cons x r =>
    rw [Lib.join_cons]
    have : ∀ r : List Str, (Lib.joinTail sep r).length = (r.map fun s => s.length + sep.length).sum := by
      intro r
      induction r with
      | nil => simp [Lib.joinTail]
      | cons y r ih =>
        have ih' : ((r.map (sep ++ ·)).flatten).length = (r.map fun s => s.length + sep.length).sum := ih
        simp only [Lib.joinTail, List.map_cons, List.flatten_cons, List.length_append, List.sum_cons, ih']
        omega
    rw [List.length_append, this]
    simp only [List.map_cons, List.sum_cons]
    omega

def txtK (n : Str) (ts : List Ty) (k : Nat) : Str := if k = 0 then n else n ++ [91] ++ Lib.join (txts (ts.take k)) [44, 32]

@[simp] theorem encTy_rows_comp {α : Type} (f : α → Ty) (l : List α) : Rows 3 (l.map (encTy ∘ f)) := Rows_map 3 _ (fun t => ⟨encTy_len (f t), encTy_one (f t)⟩) l
theorem Rows_take {sz : Nat} {l : List (List AV)} (h : Rows sz l) (k : Nat) : Rows sz (l.take k) := fun r hr => h r (List.mem_of_mem_take hr)
@[simp] theorem encTy_rows_take {α : Type} (f : α → Ty) (l : List α) (k : Nat) : Rows 3 (List.take k (l.map (encTy ∘ f))) := Rows_take (encTy_rows_comp f l) k
theorem take_map_succ {α β : Type} (f : α → β) (l : List α) (k : Nat) (h : k < l.length) : List.take (k + 1) (l.map f) = List.take k (l.map f) ++ [f l[k]] := by
  rw [take_get (l.map f) k (by simpa using h)]; simp

@[simp] theorem encTy_rows_take0 (l : List Ty) (k : Nat) : Rows 3 (List.take k (l.map encTy)) := Rows_take (encTys_rows l) k

def clsI (n : Int) : Int := if (97 ≤ n ∧ n ≤ 122) ∨ (65 ≤ n ∧ n ≤ 90) then 1 else if 48 ≤ n ∧ n ≤ 57 then 2 else if n = 95 then 3 else if n = 9 ∨ n = 10 ∨ n = 13 ∨ n = 32 then 4 else 0

theorem cls_cases (n : Int) : (97 ≤ n ∧ n ≤ 122) ∨ (65 ≤ n ∧ n ≤ 90) ∨ (48 ≤ n ∧ n ≤ 57) ∨ n = 95 ∨ n = 9 ∨ n = 10 ∨ n = 13 ∨ n = 32 ∨ 122 < n ∨ (90 < n ∧ n < 97 ∧ n ≠ 95) ∨ (57 < n ∧ n < 65) ∨ (n < 48 ∧ n ≠ 9 ∧ n ≠ 10 ∧ n ≠ 13 ∧ n ≠ 32) := by omega

end Go.Pv
end

section
/- Names, as plain functions on bytes. -/
namespace Go.Pv
open Go

def goodB (b : UInt8) : Bool := decide (1 ≤ clsI b.toNat) && decide (clsI b.toNat ≤ 3)
def reservedL : List Str := [[112, 97, 99, 107, 97, 103, 101], [109, 97, 105, 110], [116, 121, 112, 101], [115, 116, 114, 117, 99, 116], [105, 110, 116, 101, 114, 102, 97, 99, 101], [102, 117, 110, 99], [114, 101, 116, 117, 114, 110]]
def reservedA : List AV := reservedL.map AV.str
def isRes (s : Str) : Bool := reservedL.contains s
def isName (s : Str) : Bool := match s with | [] => false | b :: _ => (clsI b.toNat == 1) && s.all goodB && !isRes s
def wrR (r : Int) : Bool := decide (127 < r) || decide (clsI r < 1) || decide (3 < clsI r)
def badI (s : Str) (k : Nat) : Int := match s with | [] => -1 | b :: r => if goodB b then badI r (k + 1) else k

theorem badI_neg (s : Str) (k : Nat) : decide (0 ≤ badI s k) = !s.all goodB := by
  induction s generalizing k with
  | nil => rfl
  | cons b r ih => simp only [badI, List.all_cons]; by_cases h : goodB b = true <;> simp [h, ih]

theorem clsI_high (n : Int) (h : 127 < n) : clsI n = 0 := by unfold clsI; rw [if_neg (by omega), if_neg (by omega), if_neg (by omega), if_neg (by omega)]
theorem clsI_range (n : Int) : 0 ≤ clsI n ∧ clsI n ≤ 4 := by unfold clsI; repeat (first | omega | split)
theorem good_ascii {b : UInt8} (h : goodB b = true) : b.toNat < 128 := by
  rcases Nat.lt_or_ge b.toNat 128 with h1 | h1
  · exact h1
  · simp [goodB, clsI_high (b.toNat : Int) (by omega)] at h

theorem get_ba (s : Str) (k : Nat) (h : k < s.length) : ((⟨s.toArray⟩ : ByteArray).get! k) = s[k] := by
  show s.toArray[k]! = s[k]
  simp [h]

theorem dec_ascii (s : Str) (k : Nat) (h : k < s.length) (hb : s[k].toNat < 128) : dec s k = (s[k].toNat, 1) := by
  unfold dec Utf8.decode
  simp only [Nat.add_zero, get_ba s k h]
  rw [if_pos hb]

theorem dec_high (s : Str) (k : Nat) (h : k < s.length) (hb : 128 ≤ s[k].toNat) : 127 < (dec s k).1 := by
  unfold dec Utf8.decode
  simp only [Nat.add_zero, get_ba s k h]
  rw [if_neg (by omega)]
  have he : 127 < Utf8.runeError := by decide
  split
  · split
    · rename_i h1; simp only; omega
    · exact he
  · split
    · split
      · rename_i h1
        simp only [Bool.and_eq_true, decide_eq_true_eq] at h1
        simp only; omega
      · exact he
    · split
      · split
        · rename_i h1
          simp only [Bool.and_eq_true, decide_eq_true_eq] at h1
          simp only; omega
        · exact he
      · exact he

theorem dec_bad (s : Str) (k : Nat) (h : k < s.length) (hb : goodB s[k] = false) : ∃ r q, dec s k = (r, q) ∧ wrR r = true := by
  refine ⟨(dec s k).1, (dec s k).2, rfl, ?_⟩
  rcases Nat.lt_or_ge s[k].toNat 128 with h1 | h1
  · rw [dec_ascii s k h h1]
    have hc : (clsI (s[k].toNat : Int) < 1) ∨ (3 < clsI (s[k].toNat : Int)) := by
      simp only [goodB, Bool.and_eq_false_iff, decide_eq_false_iff_not] at hb
      omega
    simp only [wrR, Bool.or_eq_true, decide_eq_true_eq]
    rcases hc with hc | hc
    · exact .inl (.inr hc)
    · exact .inr hc
  · have := dec_high s k h h1
    simp only [wrR, Bool.or_eq_true, decide_eq_true_eq]
    exact .inl (.inl (by omega))

theorem good_wr {b : UInt8} (h : goodB b = true) : wrR (b.toNat : Int) = false := by
  have h1 := good_ascii h
  simp only [goodB, Bool.and_eq_true, decide_eq_true_eq] at h
  simp only [wrR, Bool.or_eq_false_iff, decide_eq_false_iff_not]
  omega

@[simp] theorem succ_beq_zero (n : Nat) : ((n : Int) + 1 == 0) = false := by simp; omega
theorem isName_bad {s : Str} (h : 0 ≤ badI s 0) : isName s = false := by
  have h1 := badI_neg s 0
  rw [decide_eq_true h] at h1
  have h2 : s.all goodB = false := by cases h3 : s.all goodB <;> simp_all
  unfold isName
  split
  · rfl
  · rw [h2]; simp
theorem isName_good {s : Str} (hp : 0 < s.length) (hc : clsI (s[0].toNat : Int) = 1) (h : badI s 0 = -1) : isName s = !isRes s := by
  have h1 := badI_neg s 0
  rw [decide_eq_false (by omega)] at h1
  have h2 : s.all goodB = true := by cases h3 : s.all goodB <;> simp_all
  cases s with
  | nil => simp at hp
  | cons b r =>
    simp only [isName, h2]
    have : clsI (b.toNat : Int) = 1 := hc
    simp [this]
theorem isName_first {s : Str} (hp : 0 < s.length) (hc : clsI (s[0].toNat : Int) ≠ 1) : isName s = false := by
  cases s with
  | nil => simp at hp
  | cons b r =>
    have : clsI (b.toNat : Int) ≠ 1 := hc
    simp [isName, this]

theorem badI_drop (s : Str) (k j : Nat) (h : k < s.length) : badI (s.drop k) j = if goodB s[k] then badI (s.drop (k + 1)) (j + 1) else j := by
  rw [List.drop_eq_getElem_cons h, badI]

theorem idxF_mem (l : List Str) (x : Str) (k : Nat) : 0 ≤ idxF l x k ↔ x ∈ l := by
  induction l generalizing k with
  | nil => simp [idxF]
  | cons y r ih =>
    by_cases h : x = y
    · subst h; simp [idxF]
    · simp [idxF, h, ih]
@[simp] theorem reservedA_len : reservedA.length = 7 := rfl
@[simp] theorem reservedA_take : (reservedA.take 7).map (fun x => [x]) = reservedL.map encS := rfl

end Go.Pv
end

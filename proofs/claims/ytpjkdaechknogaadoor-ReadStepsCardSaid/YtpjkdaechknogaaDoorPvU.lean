import Derived.Test.YtpjkdaechknogaaDoorPvQ
import Derived.Test.YtpjkdaechknogaaDoorPvS
import Derived.Lib.Join
import Derived.Below
set_option linter.all false
section
/- The library's contracts, as contracts of this kind. -/
namespace Go.Pv
open Go Go.RowKit

theorem valid_calls {P : Program} {gl : Gl} {f : FuncId} {args : List AV} {r : AV} (hok : fnOk P f = true)
    (h : ∀ (lim : Lim) (w : World) (cargs : List Value), RepL lim w.heap cargs args → Calls P f cargs.toArray w fun e w' => ∃ v, e = .returned v ∧ Below w.heap.size w w' ∧ ∀ lim', (∀ b, b < w.heap.size → lim' b = lim b) → Rep lim' w'.heap v r) : Valid P gl f args r := by
  refine ⟨hok, fun lim w cargs _ hargs _ => (h lim w cargs hargs).mono fun e w' => ?_⟩
  rintro ⟨v, rfl, hb, hr⟩
  exact ⟨v, r, [], lim, rfl, ⟨hb.os, hb.tape, hb.output, hb.size, fun k hk _ => hb.block k hk⟩, fun _ _ => rfl, hr lim (fun _ _ => rfl), fun b c h => (by cases h), ⟨rfl, rfl⟩, fun _ h => h, fun b h => (by cases h)⟩

theorem valid_callsG {P : Program} {gl : Gl} {f : FuncId} {args : List AV} {r : AV} (hok : fnOk P f = true)
    (h : ∀ (lim : Lim) (w : World) (cargs : List Value), GlOk gl lim w.heap → RepL lim w.heap cargs args → Calls P f cargs.toArray w fun e w' => ∃ v, e = .returned v ∧ Below w.heap.size w w' ∧ ∀ lim', (∀ b, b < w.heap.size → lim' b = lim b) → Rep lim' w'.heap v r) : Valid P gl f args r := by
  refine ⟨hok, fun lim w cargs hgl hargs _ => (h lim w cargs hgl hargs).mono fun e w' => ?_⟩
  rintro ⟨v, rfl, hb, hr⟩
  exact ⟨v, r, [], lim, rfl, ⟨hb.os, hb.tape, hb.output, hb.size, fun k hk _ => hb.block k hk⟩, fun _ _ => rfl, hr lim (fun _ _ => rfl), fun b c h => (by cases h), ⟨rfl, rfl⟩, fun _ h => h, fun b h => (by cases h)⟩

end Go.Pv
end

section
/- What the functions on types compute, as plain functions. -/
namespace Go.Pv
open Go

mutual
def wt : Ty → Nat | .mk n ts _ => n.length + 1 + wts ts
def wts : List Ty → Nat | [] => 0 | t :: r => wt t + wts r
end
mutual
def dep : Ty → Nat | .mk _ ts _ => deps ts + 1
def deps : List Ty → Nat | [] => 0 | t :: r => max (dep t) (deps r)
end
mutual
def lst : Ty → List Str | .mk n ts _ => n :: lsts ts
def lsts : List Ty → List Str | [] => [] | t :: r => lst t ++ lsts r
end
mutual
def txt : Ty → Str | .mk n ts _ => if ts.isEmpty then n else n ++ [91] ++ Lib.join (txts ts) [44, 32] ++ [93]
def txts : List Ty → List Str | [] => [] | t :: r => txt t :: txts r
end
mutual
def cnt : Ty → Nat → Nat | .mk n ts _, k => cnts ts (k + 1 + n.length / 50)
def cnts : List Ty → Nat → Nat | [], k => k | t :: r, k => if k ≤ 2000 then cnts r (cnt t k) else k
end

def cmpS (a b : Str) : Int := if Op.bytesLess a b then -1 else if a = b then 0 else 1

mutual
def cmpT : Ty → Ty → Int | .mk n ts _, u => if cmpS n u.name = 0 then cmpTs ts u.args else cmpS n u.name
def cmpTs : List Ty → List Ty → Int
  | [], us => if us.isEmpty then 0 else -1
  | t :: r, us => match us with
    | [] => 1
    | u :: s => if cmpT t u = 0 then cmpTs r s else cmpT t u
end

def Ty.at_ (p : Int) : Ty → Ty | .mk n ts _ => .mk n ts p

def idxF : List Str → Str → Nat → Int | [], _, _ => -1 | x :: r, s, k => if s = x then k else idxF r s (k + 1)

mutual
def sub (ns : List Str) (as : List Ty) : Ty → Ty
  | .mk n ts p => if ts.isEmpty then (if 0 ≤ idxF ns n 0 then (match as[(idxF ns n 0).toNat]? with | some a => a.at_ p | none => .mk n [] p) else .mk n [] p) else .mk n (subs ns as ts) p
def subs (ns : List Str) (as : List Ty) : List Ty → List Ty
  | [] => []
  | t :: r => sub ns as t :: subs ns as r
end

mutual
def eqT : Ty → Ty → Bool | .mk n ts p, u => n == u.name && p == u.pos && eqTs ts u.args
def eqTs : List Ty → List Ty → Bool
  | [], us => us.isEmpty
  | t :: r, us => match us with
    | [] => false
    | u :: s => eqT t u && eqTs r s
end

theorem txts_map (l : List Ty) : txts l = l.map txt := by
  induction l with
  | nil => rfl
  | cons t l ih => simp [txts, ih]
theorem take_get {α : Type} (l : List α) (k : Nat) (h : k < l.length) : l.take (k + 1) = l.take k ++ [l[k]] := by
  rw [List.take_add_one, List.getElem?_eq_getElem h]; rfl

theorem wts_app (a b : List Ty) : wts (a ++ b) = wts a + wts b := by
  induction a with
  | nil => simp [wts]
  | cons t a ih => simp [wts, ih, Nat.add_assoc]
theorem map_take {α β : Type} (f : α → β) (l : List α) (k : Nat) (h : k < l.length) : (l.take (k + 1)).map f = (l.take k).map f ++ [f l[k]] := by rw [take_get l k h, List.map_append]; rfl
theorem wt_pos (t : Ty) : 0 < wt t := by cases t; simp [wt]; omega
theorem wts_len (l : List Ty) : l.length ≤ wts l := by
  induction l with
  | nil => simp
  | cons t l ih => simp [wts]; have := wt_pos t; omega
theorem wts_mem {l : List Ty} {t : Ty} (h : t ∈ l) : wt t ≤ wts l := by
  induction l with
  | nil => cases h
  | cons x l ih =>
    simp only [wts]
    rcases List.mem_cons.1 h with rfl | h
    · omega
    · have := ih h; omega
theorem wts_take (l : List Ty) (k : Nat) : wts (l.take k) ≤ wts l := by
  have := wts_app (l.take k) (l.drop k)
  rw [List.take_append_drop] at this
  omega

def encI (x : Int) : List AV := [.int .i64 x]
@[simp] theorem encI_len (s : Int) : (encI s).length = 1 := rfl
@[simp] theorem encI_one (s : Int) : (encI s).all AV.one = true := rfl
@[simp] theorem encI_0 (s : Int) : (encI s)[0]? = some (.int .i64 s) := rfl
@[simp] theorem encI_take (s : Int) : (encI s).take 1 = encI s := rfl
@[simp] theorem encI_g (s : Int) (h : 0 < (encI s).length) : (encI s)[0] = .int .i64 s := rfl
@[simp] theorem encS_g (s : Str) (h : 0 < (encS s).length) : (encS s)[0] = .str s := rfl
@[simp] theorem encI_rows (l : List Int) : Rows 1 (l.map encI) := Rows_map 1 encI (fun _ => ⟨rfl, rfl⟩) l

def orI : List Int → Int | [] => 0 | x :: r => if x = 0 then orI r else x

mutual
def fit : Ty → Prop | .mk n ts _ => n.length ≤ 140737488355328 ∧ ts.length ≤ 140737488355328 ∧ fits ts
def fits : List Ty → Prop | [] => True | t :: r => fit t ∧ fits r
end
theorem join_snoc (l : List Str) (x sep : Str) : Lib.join (l ++ [x]) sep = if l = [] then x else Lib.join l sep ++ sep ++ x := by
  cases l with
  | nil => simp [Lib.join_one]
  | cons y r =>
    simp only [List.cons_append, Lib.join_cons, reduceCtorEq, if_false]
    simp [Lib.joinTail, List.append_assoc]

theorem join_len (l : List Str) (sep : Str) : (Lib.join l sep).length ≤ (l.map fun s => s.length + sep.length).sum := by
  cases l with
  | nil => simp [Lib.join_nil]
  | cons x r =>
    rw [Lib.join_cons]
    have : ∀ r : List Str, (Lib.joinTail sep r).length = (r.map fun s => s.length + sep.length).sum := by
      intro r
      induction r with
      | nil => simp [Lib.joinTail]
      | cons y r ih =>
        have ih' : ((r.map (sep ++ ·)).flatten).length = (r.map fun s => s.length + sep.length).sum := ih
        simp only [Lib.joinTail, List.map_cons, List.flatten_cons, List.length_append, List.sum_cons, ih']
        omega
    rw [List.length_append, this]
    simp only [List.map_cons, List.sum_cons]
    omega

theorem txts_sum : ∀ l : List Ty, (∀ t ∈ l, (txt t).length + 2 ≤ 4 * wt t) → ((txts l).map fun s => s.length + 2).sum ≤ 4 * wts l
  | [], _ => by simp [txts]
  | t :: l, h => by
    have h1 := h t (by simp)
    have h2 := txts_sum l (fun x hx => h x (by simp [hx]))
    simp only [txts, wts, List.map_cons, List.sum_cons]
    omega

theorem txt_wt : ∀ t : Ty, (txt t).length + 2 ≤ 4 * wt t := by
  intro t
  induction t using Ty.ind with
  | h n ts p ih =>
    have h1 := txts_sum ts ih
    have h2 := join_len (txts ts) [44, 32]
    have h3 : ([44, 32] : Str).length = 2 := rfl
    rw [h3] at h2
    rw [txt, wt]
    split
    · omega
    · simp only [List.length_append, List.length_cons, List.length_nil]
      omega

theorem txts_take_len (l : List Ty) (k : Nat) : (Lib.join (txts (l.take k)) [44, 32]).length ≤ 4 * wts l := by
  have h1 := txts_sum (l.take k) (fun t _ => txt_wt t)
  have h2 := join_len (txts (l.take k)) [44, 32]
  have h3 : ([44, 32] : Str).length = 2 := rfl
  rw [h3] at h2
  have h4 := wts_take l k
  omega

def txtK (n : Str) (ts : List Ty) (k : Nat) : Str := if k = 0 then n else n ++ [91] ++ Lib.join (txts (ts.take k)) [44, 32]

theorem txtK_succ (n : Str) (ts : List Ty) (k : Nat) (h : k < ts.length) : txtK n ts (k + 1) = (if k = 0 then txtK n ts k ++ [91] else txtK n ts k ++ [44, 32]) ++ txt ts[k] := by
  unfold txtK
  rw [if_neg (by omega), txts_map, map_take _ _ _ h, join_snoc]
  by_cases hk : k = 0
  · subst hk; simp
  · have : (ts.take k).map txt ≠ [] := by
      intro he
      have := congrArg List.length he
      simp at this
      rcases this with h1 | h1
      · exact hk h1
      · subst h1; simp at h
    rw [if_neg hk, if_neg hk, if_neg this, txts_map]
    simp [List.append_assoc]

theorem txtK_len (n : Str) (ts : List Ty) (k : Nat) : (txtK n ts k).length ≤ n.length + 1 + 4 * wts ts := by
  unfold txtK
  have := txts_take_len ts k
  split
  · omega
  · simp only [List.length_append, List.length_cons, List.length_nil]; omega

theorem txt_end (n : Str) (ts : List Ty) (p : Int) (k : Nat) (hk : k = ts.length) : (0 < ts.length → txtK n ts k ++ [93] = txt (.mk n ts p)) ∧ (ts.length = 0 → txtK n ts k = txt (.mk n ts p)) := by
  subst hk
  cases ts with
  | nil => simp [txtK, txt]
  | cons t r => simp [txtK, txt]

@[simp] theorem encTy_rows_comp {α : Type} (f : α → Ty) (l : List α) : Rows 3 (l.map (encTy ∘ f)) := Rows_map 3 _ (fun t => ⟨encTy_len (f t), encTy_one (f t)⟩) l
theorem Rows_take {sz : Nat} {l : List (List AV)} (h : Rows sz l) (k : Nat) : Rows sz (l.take k) := fun r hr => h r (List.mem_of_mem_take hr)
@[simp] theorem encTy_rows_take {α : Type} (f : α → Ty) (l : List α) (k : Nat) : Rows 3 (List.take k (l.map (encTy ∘ f))) := Rows_take (encTy_rows_comp f l) k
@[simp] theorem encTy_rows_take0 (l : List Ty) (k : Nat) : Rows 3 (List.take k (l.map encTy)) := Rows_take (encTys_rows l) k

def clsI (n : Int) : Int := if (97 ≤ n ∧ n ≤ 122) ∨ (65 ≤ n ∧ n ≤ 90) then 1 else if 48 ≤ n ∧ n ≤ 57 then 2 else if n = 95 then 3 else if n = 9 ∨ n = 10 ∨ n = 13 ∨ n = 32 then 4 else 0

theorem cls_cases (n : Int) : (97 ≤ n ∧ n ≤ 122) ∨ (65 ≤ n ∧ n ≤ 90) ∨ (48 ≤ n ∧ n ≤ 57) ∨ n = 95 ∨ n = 9 ∨ n = 10 ∨ n = 13 ∨ n = 32 ∨ 122 < n ∨ (90 < n ∧ n < 97 ∧ n ≠ 95) ∨ (57 < n ∧ n < 65) ∨ (n < 48 ∧ n ≠ 9 ∧ n ≠ 10 ∧ n ≠ 13 ∧ n ≠ 32) := by omega

end Go.Pv
end

import Derived.Test.YtocmdbojefgpbaaGreatDoorPvY
import Derived.Test.YtocmdbojefgpbaaGreatDoorPvLb
import Derived.Test.YtocmdbojefgpbaaGreatDoorPvKb
set_option linter.all false
section
/- Listed variables that hold a type's handle; lists of tokens as arguments. -/
namespace Go.Pv
open Go Go.ChangeShapes Go.WideShapes Go.RowKit

end Go.Pv
end

section
/- Expressions as plain data, as values, and what the functions on them compute. -/
namespace Go.Pv
open Go

inductive Exp where
  | mk (kind : Int) (name : Str) (ty : Ty) (ta : List Ty) (kids : List Exp) (pos : Int)

@[simp] def Exp.kind : Exp → Int | .mk k _ _ _ _ _ => k
@[simp] def Exp.name : Exp → Str | .mk _ n _ _ _ _ => n
@[simp] def Exp.ty : Exp → Ty | .mk _ _ t _ _ _ => t
@[simp] def Exp.ta : Exp → List Ty | .mk _ _ _ a _ _ => a
@[simp] def Exp.kids : Exp → List Exp | .mk _ _ _ _ l _ => l
@[simp] def Exp.pos : Exp → Int | .mk _ _ _ _ _ p => p

mutual
def encE : Exp → List AV
  | .mk k n t a l p => [.int .i64 k, .str n, .str t.name, .slice (t.args.map encTy), .int .i64 t.pos, .slice (a.map encTy), .slice (encEs l), .int .i64 p]
def encEs : List Exp → List (List AV)
  | [] => []
  | e :: r => encE e :: encEs r
end
theorem encEs_map (l : List Exp) : encEs l = l.map encE := by
  induction l with
  | nil => rfl
  | cons t r ih => simp [encEs, ih]
theorem encE_mk (k : Int) (n : Str) (t : Ty) (a : List Ty) (l : List Exp) (p : Int) : encE (.mk k n t a l p) = [.int .i64 k, .str n, .str t.name, .slice (t.args.map encTy), .int .i64 t.pos, .slice (a.map encTy), .slice (l.map encE), .int .i64 p] := by rw [encE, encEs_map]
theorem encE_def (e : Exp) : encE e = [.int .i64 e.kind, .str e.name, .str e.ty.name, .slice (e.ty.args.map encTy), .int .i64 e.ty.pos, .slice (e.ta.map encTy), .slice (e.kids.map encE), .int .i64 e.pos] := by
  cases e; rw [encE_mk]; rfl
theorem encE_app (e : Exp) : encE e = [.int .i64 e.kind, .str e.name] ++ encTy e.ty ++ [.slice (e.ta.map encTy), .slice (e.kids.map encE), .int .i64 e.pos] := by
  rw [encE_def, encTy_def]; rfl
@[simp] theorem encE_len (e : Exp) : (encE e).length = 8 := by rw [encE_def]; rfl
@[simp] theorem encE_one (e : Exp) : (encE e).all AV.one = true := by rw [encE_def]; rfl
@[simp] theorem encE_0 (e : Exp) : (encE e)[0]? = some (.int .i64 e.kind) := by rw [encE_def]; rfl
@[simp] theorem encE_1 (e : Exp) : (encE e)[1]? = some (.str e.name) := by rw [encE_def]; rfl
@[simp] theorem encE_2 (e : Exp) : (encE e)[2]? = some (.str e.ty.name) := by rw [encE_def]; rfl
@[simp] theorem encE_3 (e : Exp) : (encE e)[3]? = some (.slice (e.ty.args.map encTy)) := by rw [encE_def]; rfl
@[simp] theorem encE_4 (e : Exp) : (encE e)[4]? = some (.int .i64 e.ty.pos) := by rw [encE_def]; rfl
@[simp] theorem encE_5 (e : Exp) : (encE e)[5]? = some (.slice (e.ta.map encTy)) := by rw [encE_def]; rfl
@[simp] theorem encE_6 (e : Exp) : (encE e)[6]? = some (.slice (e.kids.map encE)) := by rw [encE_def]; rfl
@[simp] theorem encE_7 (e : Exp) : (encE e)[7]? = some (.int .i64 e.pos) := by rw [encE_def]; rfl
section
variable (e : Exp)
@[simp] theorem encE_g0 (h : 0 < (encE e).length) : (encE e)[0] = .int .i64 e.kind := by have := encE_0 e; rw [List.getElem?_eq_getElem h] at this; injection this
@[simp] theorem encE_g1 (h : 1 < (encE e).length) : (encE e)[1] = .str e.name := by have := encE_1 e; rw [List.getElem?_eq_getElem h] at this; injection this
@[simp] theorem encE_g2 (h : 2 < (encE e).length) : (encE e)[2] = .str e.ty.name := by have := encE_2 e; rw [List.getElem?_eq_getElem h] at this; injection this
@[simp] theorem encE_g3 (h : 3 < (encE e).length) : (encE e)[3] = .slice (e.ty.args.map encTy) := by have := encE_3 e; rw [List.getElem?_eq_getElem h] at this; injection this
@[simp] theorem encE_g4 (h : 4 < (encE e).length) : (encE e)[4] = .int .i64 e.ty.pos := by have := encE_4 e; rw [List.getElem?_eq_getElem h] at this; injection this
@[simp] theorem encE_g5 (h : 5 < (encE e).length) : (encE e)[5] = .slice (e.ta.map encTy) := by have := encE_5 e; rw [List.getElem?_eq_getElem h] at this; injection this
@[simp] theorem encE_g6 (h : 6 < (encE e).length) : (encE e)[6] = .slice (e.kids.map encE) := by have := encE_6 e; rw [List.getElem?_eq_getElem h] at this; injection this
@[simp] theorem encE_g7 (h : 7 < (encE e).length) : (encE e)[7] = .int .i64 e.pos := by have := encE_7 e; rw [List.getElem?_eq_getElem h] at this; injection this
@[simp] theorem encE_take : (encE e).take 8 = encE e := by rw [encE_def]; rfl
@[simp] theorem encE_drop : (encE e).drop 8 = [] := by rw [encE_def]; rfl
@[simp] theorem encE_type : ((encE e).drop 2).take 3 = encTy e.ty := by rw [encE_app, encTy_def]; rfl
end
@[simp] theorem encEs_rows (l : List Exp) : Rows 8 (l.map encE) := Rows_map 8 encE (fun t => ⟨encE_len t, encE_one t⟩) l
@[simp] theorem encEs_rows_take (l : List Exp) (k : Nat) : Rows 8 (List.take k (l.map encE)) := Rows_take (encEs_rows l) k
@[simp] theorem encE_rows_comp {α : Type} (f : α → Exp) (l : List α) : Rows 8 (l.map (encE ∘ f)) := Rows_map 8 _ (fun t => ⟨encE_len (f t), encE_one (f t)⟩) l
@[simp] theorem encE_rows_ctake {α : Type} (f : α → Exp) (l : List α) (k : Nat) : Rows 8 (List.take k (l.map (encE ∘ f))) := Rows_take (encE_rows_comp f l) k

theorem Exp.ind {p : Exp → Prop} (h : ∀ k n t a l q, (∀ e ∈ l, p e) → p (.mk k n t a l q)) : ∀ e, p e := by
  intro e
  exact Exp.rec (motive_1 := p) (motive_2 := fun l => ∀ e ∈ l, p e) (fun k n t a l q ih => h k n t a l q ih) (fun e he => by cases he)
    (fun e r he hr x hx => by
      rcases List.mem_cons.1 hx with rfl | hx
      · exact he
      · exact hr x hx) e

def ty0 : Ty := .mk [] [] 0
def ex0 : Exp := .mk 0 [] ty0 [] [] 0
mutual
def wtE : Exp → Nat | .mk _ n t a l _ => n.length + 1 + wt t + wts a + wtEs l
def wtEs : List Exp → Nat | [] => 0 | e :: r => wtE e + wtEs r
end
theorem wtE_mk (k : Int) (n : Str) (t : Ty) (a : List Ty) (l : List Exp) (p : Int) : wtE (.mk k n t a l p) = n.length + 1 + wt t + wts a + wtEs l := by rw [wtE]
theorem wtEs_mem {l : List Exp} {e : Exp} (h : e ∈ l) : wtE e ≤ wtEs l := by
  induction l with
  | nil => cases h
  | cons x l ih =>
    simp only [wtEs]
    rcases List.mem_cons.1 h with rfl | h
    · omega
    · have := ih h; omega
theorem wtE_pos (e : Exp) : 0 < wtE e := by cases e; rw [wtE_mk]; omega
theorem wtEs_len (l : List Exp) : l.length ≤ wtEs l := by
  induction l with
  | nil => simp [wtEs]
  | cons x l ih => have := wtE_pos x; simp only [wtEs, List.length_cons]; omega
def sameTs : List Ty → List Ty → Bool
  | [], [] => true
  | t :: r, u :: s => cmpT t u == 0 && sameTs r s
  | _, _ => false
mutual
def sameE : Exp → Exp → Bool | .mk k n t a l _, f => k == f.kind && n == f.name && cmpT t f.ty == 0 && sameTs a f.ta && sameEs l f.kids
def sameEs : List Exp → List Exp → Bool
  | [], [] => true
  | e :: r, f :: s => sameE e f && sameEs r s
  | _, _ => false
end
mutual
def eqE : Exp → Exp → Bool | .mk k n t a l p, f => p == f.pos && k == f.kind && n == f.name && eqT t f.ty && eqTs a f.ta && eqEs l f.kids
def eqEs : List Exp → List Exp → Bool
  | [], [] => true
  | e :: r, f :: s => eqE e f && eqEs r s
  | _, _ => false
end
def typedE (k : Int) : Bool := k == 3 || k == 5
mutual
def rightE : Exp → Bool | .mk k n t a l _ => rightEs l && (a.isEmpty || (k == 2 && a.all rightT)) &&
  (if typedE k then rightT t && n.isEmpty else t.name.isEmpty && t.args.isEmpty && isName n) &&
  (if k == 1 then l.isEmpty else if k == 2 then !l.isEmpty else if k == 3 then true else if k == 4 || k == 5 then l.length == 1 else false)
def rightEs : List Exp → Bool | [] => true | e :: r => rightE e && rightEs r
end
mutual
def depE : Exp → Nat | .mk k _ t a l _ => max (max (if typedE k then dep t else 0) (deps a)) (depEs l) + 1
def depEs : List Exp → Nat | [] => 0 | e :: r => max (depE e) (depEs r)
end
mutual
def valE : Exp → Bool | .mk k _ _ _ l _ => k == 3 && valEs l
def valEs : List Exp → Bool | [] => true | e :: r => valE e && valEs r
end
mutual
def lstE : Exp → List Exp | .mk k n t a l p => .mk k n t a l p :: lstEs l
def lstEs : List Exp → List Exp | [] => [] | e :: r => lstE e ++ lstEs r
end
def shapeE : Exp → Bool | .mk k n t a l _ => (a.isEmpty || (k == 2 && a.all rightT)) &&
  (if typedE k then rightT t && n.isEmpty else t.name.isEmpty && t.args.isEmpty && isName n) &&
  (if k == 1 then l.isEmpty else if k == 2 then !l.isEmpty else if k == 3 then true else if k == 4 || k == 5 then l.length == 1 else false)
mutual
def txtE : Exp → Str
  | .mk k n t a l _ =>
    if k = 3 then txt t ++ [123] ++ Lib.join (txtEs l) [44, 32] ++ [125]
    else match txtEs l with
      | [] => n
      | x :: r => if k = 2 then x ++ [46] ++ n ++ txt (.mk [] a 0) ++ [40] ++ Lib.join r [44, 32] ++ [41]
        else if k = 4 then x ++ [46] ++ n
        else if k = 5 then x ++ [46, 40] ++ txt t ++ [41]
        else n
def txtEs : List Exp → List Str
  | [] => []
  | e :: r => txtE e :: txtEs r
end
mutual
def subE (ns : List Str) (as : List Ty) : Exp → Exp | .mk k n t a l p => .mk k n (sub ns as t) (subs ns as a) (subEs ns as l) p
def subEs (ns : List Str) (as : List Ty) : List Exp → List Exp | [] => [] | e :: r => subE ns as e :: subEs ns as r
end
theorem subEs_map (ns : List Str) (as : List Ty) (l : List Exp) : subEs ns as l = l.map (subE ns as) := by
  induction l with
  | nil => rfl
  | cons t r ih => simp [subEs, ih]
theorem sub_nil : ∀ t : Ty, sub [] [] t = t := by
  intro t
  induction t using Ty.ind with
  | h n ts p ih =>
    rw [sub, subs_map]
    have : ts.map (sub [] []) = ts := by
      conv => rhs; rw [← List.map_id ts]
      exact List.map_congr_left (fun t ht => ih t ht)
    rw [this]
    split
    · rename_i h; simp [idxF, List.isEmpty_iff.1 h]
    · rfl
theorem subE_nil : ∀ e : Exp, subE [] [] e = e := by
  intro e
  induction e using Exp.ind with
  | h k n t a l q ih =>
    rw [subE, subEs_map, subs_map, sub_nil]
    have h1 : a.map (sub [] []) = a := by
      conv => rhs; rw [← List.map_id a]
      exact List.map_congr_left (fun t _ => sub_nil t)
    have h2 : l.map (subE [] []) = l := by
      conv => rhs; rw [← List.map_id l]
      exact List.map_congr_left (fun t ht => ih t ht)
    rw [h1, h2]
mutual
def repE (vs : List Str) (xs : List Exp) : Exp → Exp
  | .mk k n t a l p => if k = 1 ∧ 0 ≤ idxF vs n 0 ∧ idxF vs n 0 < xs.length then xs.getD (idxF vs n 0).toNat ex0 else .mk k n t a (repEs vs xs l) p
def repEs (vs : List Str) (xs : List Exp) : List Exp → List Exp
  | [] => []
  | e :: r => repE vs xs e :: repEs vs xs r
end
mutual
def cntE : Exp → Nat → Nat | .mk _ n t a l _, j => cntEs l (cnts a (cnt t (j + n.length / 50)))
def cntEs : List Exp → Nat → Nat | [], j => j | e :: r, j => if j ≤ 2000 then cntEs r (cntE e j) else j
end
mutual
def fitE : Exp → Prop | .mk _ n t a l _ => n.length ≤ 140737488355328 ∧ fit t ∧ (a.length ≤ 140737488355328 ∧ fits a) ∧ l.length ≤ 140737488355328 ∧ fitEs l
def fitEs : List Exp → Prop | [] => True | e :: r => fitE e ∧ fitEs r
end
theorem fitEs_mem {l : List Exp} {e : Exp} (h : fitEs l) (he : e ∈ l) : fitE e := by
  induction l with
  | nil => cases he
  | cons x l ih =>
    rcases List.mem_cons.1 he with rfl | he
    · exact h.1
    · exact ih h.2 he
theorem cntEs_cons (e : Exp) (r : List Exp) (j : Nat) : cntEs (e :: r) j = if j ≤ 2000 then cntEs r (cntE e j) else j := by rw [cntEs]
def txtEK (s : Str) (l : List Exp) (k : Nat) : Str := s ++ Lib.join (txtEs (l.take k)) [44, 32]
mutual
def mapE (F : Exp → Exp) : Exp → Exp
  | .mk k n t a l p => F (.mk k n t a (mapEs F l) p)
def mapEs (F : Exp → Exp) : List Exp → List Exp
  | [] => []
  | e :: r => mapE F e :: mapEs F r
end
theorem mapEs_map (F : Exp → Exp) (l : List Exp) : mapEs F l = l.map (mapE F) := by
  induction l with
  | nil => rfl
  | cons t r ih => simp [mapEs, ih]
theorem mapE_mk (F : Exp → Exp) (k : Int) (n : Str) (t : Ty) (a : List Ty) (l : List Exp) (p : Int) : mapE F (.mk k n t a l p) = F (.mk k n t a (l.map (mapE F)) p) := by rw [mapE, mapEs_map]
def subF (ns : List Str) (as : List Ty) : Exp → Exp
  | .mk k n t a l p => .mk k n (sub ns as t) (subs ns as a) l p
theorem mapE_sub (ns : List Str) (as : List Ty) : ∀ e : Exp, mapE (subF ns as) e = subE ns as e := by
  intro e
  induction e using Exp.ind with
  | h k n t a l q ih =>
    rw [mapE_mk, subE, subF, subEs_map]
    congr 1
    exact List.map_congr_left ih
def repF (vs : List Str) (xs : List Exp) : Exp → Exp
  | .mk k n t a l p => if k = 1 ∧ 0 ≤ idxF vs n 0 ∧ idxF vs n 0 < xs.length then xs.getD (idxF vs n 0).toNat ex0 else .mk k n t a l p
section
variable (e : Exp)
theorem encE_take6 : (encE e).take 6 = [.int .i64 e.kind, .str e.name, .str e.ty.name, .slice (e.ty.args.map encTy), .int .i64 e.ty.pos, .slice (e.ta.map encTy)] := by rw [encE_def]; rfl
theorem encE_drop7 : (encE e).drop 7 = [.int .i64 e.pos] := by rw [encE_def]; rfl
end
end Go.Pv
end

section
/- Expressions with names. -/
namespace Go.Pv
open Go
mutual
def mgE : Exp → Exp | .mk k n t ta l p => .mk k (if k = 2 then mgM n ta else n) (if k = 3 ∨ k = 5 then .mk (mgT t) [] t.pos else t) (if k = 2 then [] else ta) (mgEs l) p
def mgEs : List Exp → List Exp | [] => [] | e :: r => mgE e :: mgEs r
end
theorem mgEs_map (l : List Exp) : mgEs l = l.map mgE := by
  induction l with
  | nil => rfl
  | cons e r ih => simp [mgEs, ih]
theorem mgE_mk (k : Int) (n : Str) (t : Ty) (ta : List Ty) (l : List Exp) (p : Int) : mgE (.mk k n t ta l p) = .mk k (if k = 2 then mgM n ta else n) (if k = 3 ∨ k = 5 then .mk (mgT t) [] t.pos else t) (if k = 2 then [] else ta) (l.map mgE) p := by rw [mgE, mgEs_map]
end Go.Pv
end

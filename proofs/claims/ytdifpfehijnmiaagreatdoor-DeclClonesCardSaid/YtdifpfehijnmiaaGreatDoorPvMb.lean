import Derived.Test.YtdifpfehijnmiaaGreatDoorPvY
import Derived.Test.YtdifpfehijnmiaaGreatDoorPvLb
set_option linter.all false
section
/- Listed variables that hold a type's handle; lists of tokens as arguments. -/
namespace Go.Pv
open Go Go.ChangeShapes Go.WideShapes Go.RowKit

end Go.Pv
end

section
/- Expressions as plain data, as values, and what the functions on them compute. -/
namespace Go.Pv
open Go

inductive Exp where
  | mk (kind : Int) (name : Str) (ty : Ty) (ta : List Ty) (kids : List Exp) (pos : Int)

@[simp] def Exp.kind : Exp → Int | .mk k _ _ _ _ _ => k
@[simp] def Exp.name : Exp → Str | .mk _ n _ _ _ _ => n
@[simp] def Exp.ty : Exp → Ty | .mk _ _ t _ _ _ => t
@[simp] def Exp.ta : Exp → List Ty | .mk _ _ _ a _ _ => a
@[simp] def Exp.kids : Exp → List Exp | .mk _ _ _ _ l _ => l
@[simp] def Exp.pos : Exp → Int | .mk _ _ _ _ _ p => p

mutual
def encE : Exp → List AV
  | .mk k n t a l p => [.int .i64 k, .str n, .str t.name, .slice (t.args.map encTy), .int .i64 t.pos, .slice (a.map encTy), .slice (encEs l), .int .i64 p]
def encEs : List Exp → List (List AV)
  | [] => []
  | e :: r => encE e :: encEs r
end
theorem encEs_map (l : List Exp) : encEs l = l.map encE := by
  induction l with
  | nil => rfl
  | cons t r ih => simp [encEs, ih]
theorem encE_mk (k : Int) (n : Str) (t : Ty) (a : List Ty) (l : List Exp) (p : Int) : encE (.mk k n t a l p) = [.int .i64 k, .str n, .str t.name, .slice (t.args.map encTy), .int .i64 t.pos, .slice (a.map encTy), .slice (l.map encE), .int .i64 p] := by rw [encE, encEs_map]
theorem encE_def (e : Exp) : encE e = [.int .i64 e.kind, .str e.name, .str e.ty.name, .slice (e.ty.args.map encTy), .int .i64 e.ty.pos, .slice (e.ta.map encTy), .slice (e.kids.map encE), .int .i64 e.pos] := by
  cases e; rw [encE_mk]; rfl
theorem encE_app (e : Exp) : encE e = [.int .i64 e.kind, .str e.name] ++ encTy e.ty ++ [.slice (e.ta.map encTy), .slice (e.kids.map encE), .int .i64 e.pos] := by
  rw [encE_def, encTy_def]; rfl
@[simp] theorem encE_len (e : Exp) : (encE e).length = 8 := by rw [encE_def]; rfl
@[simp] theorem encE_one (e : Exp) : (encE e).all AV.one = true := by rw [encE_def]; rfl
@[simp] theorem encE_0 (e : Exp) : (encE e)[0]? = some (.int .i64 e.kind) := by rw [encE_def]; rfl
@[simp] theorem encE_1 (e : Exp) : (encE e)[1]? = some (.str e.name) := by rw [encE_def]; rfl
@[simp] theorem encE_2 (e : Exp) : (encE e)[2]? = some (.str e.ty.name) := by rw [encE_def]; rfl
@[simp] theorem encE_3 (e : Exp) : (encE e)[3]? = some (.slice (e.ty.args.map encTy)) := by rw [encE_def]; rfl
@[simp] theorem encE_4 (e : Exp) : (encE e)[4]? = some (.int .i64 e.ty.pos) := by rw [encE_def]; rfl
@[simp] theorem encE_5 (e : Exp) : (encE e)[5]? = some (.slice (e.ta.map encTy)) := by rw [encE_def]; rfl
@[simp] theorem encE_6 (e : Exp) : (encE e)[6]? = some (.slice (e.kids.map encE)) := by rw [encE_def]; rfl
@[simp] theorem encE_7 (e : Exp) : (encE e)[7]? = some (.int .i64 e.pos) := by rw [encE_def]; rfl
section
variable (e : Exp)
@[simp] theorem encE_g0 (h : 0 < (encE e).length) : (encE e)[0] = .int .i64 e.kind := by have := encE_0 e; rw [List.getElem?_eq_getElem h] at this; injection this
@[simp] theorem encE_g1 (h : 1 < (encE e).length) : (encE e)[1] = .str e.name := by have := encE_1 e; rw [List.getElem?_eq_getElem h] at this; injection this
@[simp] theorem encE_g2 (h : 2 < (encE e).length) : (encE e)[2] = .str e.ty.name := by have := encE_2 e; rw [List.getElem?_eq_getElem h] at this; injection this
@[simp] theorem encE_g3 (h : 3 < (encE e).length) : (encE e)[3] = .slice (e.ty.args.map encTy) := by have := encE_3 e; rw [List.getElem?_eq_getElem h] at this; injection this
@[simp] theorem encE_g4 (h : 4 < (encE e).length) : (encE e)[4] = .int .i64 e.ty.pos := by have := encE_4 e; rw [List.getElem?_eq_getElem h] at this; injection this
@[simp] theorem encE_g5 (h : 5 < (encE e).length) : (encE e)[5] = .slice (e.ta.map encTy) := by have := encE_5 e; rw [List.getElem?_eq_getElem h] at this; injection this
@[simp] theorem encE_g6 (h : 6 < (encE e).length) : (encE e)[6] = .slice (e.kids.map encE) := by have := encE_6 e; rw [List.getElem?_eq_getElem h] at this; injection this
@[simp] theorem encE_g7 (h : 7 < (encE e).length) : (encE e)[7] = .int .i64 e.pos := by have := encE_7 e; rw [List.getElem?_eq_getElem h] at this; injection this
@[simp] theorem encE_take : (encE e).take 8 = encE e := by rw [encE_def]; rfl
@[simp] theorem encE_drop : (encE e).drop 8 = [] := by rw [encE_def]; rfl
@[simp] theorem encE_type : ((encE e).drop 2).take 3 = encTy e.ty := by rw [encE_app, encTy_def]; rfl
end
@[simp] theorem encEs_rows (l : List Exp) : Rows 8 (l.map encE) := Rows_map 8 encE (fun t => ⟨encE_len t, encE_one t⟩) l
@[simp] theorem encEs_rows_take (l : List Exp) (k : Nat) : Rows 8 (List.take k (l.map encE)) := Rows_take (encEs_rows l) k
@[simp] theorem encE_rows_comp {α : Type} (f : α → Exp) (l : List α) : Rows 8 (l.map (encE ∘ f)) := Rows_map 8 _ (fun t => ⟨encE_len (f t), encE_one (f t)⟩) l
@[simp] theorem encE_rows_ctake {α : Type} (f : α → Exp) (l : List α) (k : Nat) : Rows 8 (List.take k (l.map (encE ∘ f))) := Rows_take (encE_rows_comp f l) k

theorem Exp.ind {p : Exp → Prop} (h : ∀ k n t a l q, (∀ e ∈ l, p e) → p (.mk k n t a l q)) : ∀ e, p e := by
  intro e
  exact Exp.rec (motive_1 := p) (motive_2 := fun l => ∀ e ∈ l, p e) (fun k n t a l q ih => h k n t a l q ih) (fun e he => by cases he)
    (fun e r he hr x hx => by
      rcases List.mem_cons.1 hx with rfl | hx
      · exact he
      · exact hr x hx) e

def ty0 : Ty := .mk [] [] 0
def ex0 : Exp := .mk 0 [] ty0 [] [] 0
theorem enc_ex0 : encE ex0 = [.int .i64 0, .str [], .str [], .slice [], .int .i64 0, .slice [], .slice [], .int .i64 0] := rfl
mutual
def wtE : Exp → Nat | .mk _ n t a l _ => n.length + 1 + wt t + wts a + wtEs l
def wtEs : List Exp → Nat | [] => 0 | e :: r => wtE e + wtEs r
end
theorem wtE_mk (k : Int) (n : Str) (t : Ty) (a : List Ty) (l : List Exp) (p : Int) : wtE (.mk k n t a l p) = n.length + 1 + wt t + wts a + wtEs l := by rw [wtE]
theorem wtEs_app (a b : List Exp) : wtEs (a ++ b) = wtEs a + wtEs b := by
  induction a with
  | nil => simp [wtEs]
  | cons x a ih => simp [wtEs, ih]; omega
theorem wtEs_mem {l : List Exp} {e : Exp} (h : e ∈ l) : wtE e ≤ wtEs l := by
  induction l with
  | nil => cases h
  | cons x l ih =>
    simp only [wtEs]
    rcases List.mem_cons.1 h with rfl | h
    · omega
    · have := ih h; omega
theorem wtE_pos (e : Exp) : 0 < wtE e := by cases e; rw [wtE_mk]; omega
theorem wtEs_len (l : List Exp) : l.length ≤ wtEs l := by
  induction l with
  | nil => simp [wtEs]
  | cons x l ih => have := wtE_pos x; simp only [wtEs, List.length_cons]; omega
theorem wtEs_take (l : List Exp) (k : Nat) : wtEs (l.take k) ≤ wtEs l := by
  conv => rhs; rw [← List.take_append_drop k l]
  rw [wtEs_app]; omega

def sameTs : List Ty → List Ty → Bool
  | [], [] => true
  | t :: r, u :: s => cmpT t u == 0 && sameTs r s
  | _, _ => false
mutual
def sameE : Exp → Exp → Bool | .mk k n t a l _, f => k == f.kind && n == f.name && cmpT t f.ty == 0 && sameTs a f.ta && sameEs l f.kids
def sameEs : List Exp → List Exp → Bool
  | [], [] => true
  | e :: r, f :: s => sameE e f && sameEs r s
  | _, _ => false
end
mutual
def eqE : Exp → Exp → Bool | .mk k n t a l p, f => p == f.pos && k == f.kind && n == f.name && eqT t f.ty && eqTs a f.ta && eqEs l f.kids
def eqEs : List Exp → List Exp → Bool
  | [], [] => true
  | e :: r, f :: s => eqE e f && eqEs r s
  | _, _ => false
end
theorem sameTs_cons (t u : Ty) (r s : List Ty) : sameTs (t :: r) (u :: s) = (cmpT t u == 0 && sameTs r s) := rfl
theorem sameEs_cons (t u : Exp) (r s : List Exp) : sameEs (t :: r) (u :: s) = (sameE t u && sameEs r s) := by simp [sameEs]
theorem eqEs_cons (t u : Exp) (r s : List Exp) : eqEs (t :: r) (u :: s) = (eqE t u && eqEs r s) := by simp [eqEs]
theorem sameTs_len : ∀ {a b : List Ty}, a.length ≠ b.length → sameTs a b = false
  | [], [], h => absurd rfl h
  | [], _ :: _, _ => rfl
  | _ :: _, [], _ => rfl
  | x :: a, y :: b, h => by rw [sameTs_cons, sameTs_len (a := a) (b := b) (fun he => h (by simp [he])), Bool.and_false]
theorem sameEs_len : ∀ {a b : List Exp}, a.length ≠ b.length → sameEs a b = false
  | [], [], h => absurd rfl h
  | [], _ :: _, _ => by simp [sameEs]
  | _ :: _, [], _ => by simp [sameEs]
  | x :: a, y :: b, h => by rw [sameEs_cons, sameEs_len (a := a) (b := b) (fun he => h (by simp [he])), Bool.and_false]
theorem eqEs_len : ∀ {a b : List Exp}, a.length ≠ b.length → eqEs a b = false
  | [], [], h => absurd rfl h
  | [], _ :: _, _ => by simp [eqEs]
  | _ :: _, [], _ => by simp [eqEs]
  | x :: a, y :: b, h => by rw [eqEs_cons, eqEs_len (a := a) (b := b) (fun he => h (by simp [he])), Bool.and_false]
theorem cmpT_refl (t : Ty) : cmpT t t = 0 := by have := cmpT_anti t t; omega
theorem sameTs_refl : ∀ a : List Ty, sameTs a a = true
  | [] => rfl
  | x :: a => by rw [sameTs_cons, cmpT_refl, sameTs_refl a]; rfl
theorem sameE_refl : ∀ e : Exp, sameE e e = true := by
  intro e
  induction e using Exp.ind with
  | h k n t a l q ih =>
    have hl : sameEs l l = true := by
      clear t a
      induction l with
      | nil => simp [sameEs]
      | cons x l ih2 => rw [sameEs_cons, ih x (by simp), ih2 (fun e he => ih e (by simp [he]))]; rfl
    simp [sameE, cmpT_refl, sameTs_refl, hl]
theorem eqTs_refl2 (a : List Ty) : eqTs a a = true := by
  induction a with
  | nil => simp [eqTs]
  | cons x a ih => rw [eqTs_cons, eqT_refl, ih]; rfl
theorem eqE_refl : ∀ e : Exp, eqE e e = true := by
  intro e
  induction e using Exp.ind with
  | h k n t a l q ih =>
    have hl : eqEs l l = true := by
      clear t a
      induction l with
      | nil => simp [eqEs]
      | cons x l ih2 => rw [eqEs_cons, ih x (by simp), ih2 (fun e he => ih e (by simp [he]))]; rfl
    simp [eqE, eqT_refl, eqTs_refl2, hl]

def typedE (k : Int) : Bool := k == 3 || k == 5
mutual
def rightE : Exp → Bool | .mk k n t a l _ => rightEs l && (a.isEmpty || (k == 2 && a.all rightT)) &&
  (if typedE k then rightT t && n.isEmpty else t.name.isEmpty && t.args.isEmpty && isName n) &&
  (if k == 1 then l.isEmpty else if k == 2 then !l.isEmpty else if k == 3 then true else if k == 4 || k == 5 then l.length == 1 else false)
def rightEs : List Exp → Bool | [] => true | e :: r => rightE e && rightEs r
end
mutual
def depE : Exp → Nat | .mk k _ t a l _ => max (max (if typedE k then dep t else 0) (deps a)) (depEs l) + 1
def depEs : List Exp → Nat | [] => 0 | e :: r => max (depE e) (depEs r)
end
mutual
def valE : Exp → Bool | .mk k _ _ _ l _ => k == 3 && valEs l
def valEs : List Exp → Bool | [] => true | e :: r => valE e && valEs r
end
mutual
def lstE : Exp → List Exp | .mk k n t a l p => .mk k n t a l p :: lstEs l
def lstEs : List Exp → List Exp | [] => [] | e :: r => lstE e ++ lstEs r
end
theorem lstEs_flat (l : List Exp) : lstEs l = (l.map lstE).flatten := by
  induction l with
  | nil => rfl
  | cons t r ih => simp [lstEs, ih]
theorem lstE_mem_wt : ∀ e : Exp, ∀ x ∈ lstE e, wtE x ≤ wtE e := by
  intro e
  induction e using Exp.ind with
  | h k n t a l q ih =>
    intro x hx
    rw [lstE, List.mem_cons] at hx
    rcases hx with rfl | hx
    · exact Nat.le_refl _
    · rw [lstEs_flat, List.mem_flatten] at hx
      obtain ⟨m, hm, hxm⟩ := hx
      obtain ⟨y, hy, rfl⟩ := List.mem_map.1 hm
      have h1 := ih y hy x hxm
      have h2 := wtEs_mem hy
      rw [wtE_mk]; omega
theorem depE_wt : ∀ e : Exp, depE e ≤ wtE e := by
  intro e
  induction e using Exp.ind with
  | h k n t a l q ih =>
    have hl : depEs l ≤ wtEs l := by
      clear t a
      induction l with
      | nil => simp [depEs, wtEs]
      | cons x l ih2 => have := ih x (by simp); have := ih2 (fun e he => ih e (by simp [he])); simp only [depEs, wtEs]; omega
    have h1 := dep_wt t
    have h2 := deps_wts a
    rw [wtE_mk, depE]
    split <;> omega
theorem depEs_wts (l : List Exp) : depEs l ≤ wtEs l := by
  induction l with
  | nil => simp [depEs, wtEs]
  | cons x l ih => have := depE_wt x; simp only [depEs, wtEs]; omega
theorem depEs_app (a b : List Exp) : depEs (a ++ b) = max (depEs a) (depEs b) := by
  induction a with
  | nil => simp [depEs]
  | cons x a ih => simp only [List.cons_append, depEs, ih]; omega
theorem depEs_take (l : List Exp) (k : Nat) (h : k < l.length) : depEs (l.take (k + 1)) = max (depEs (l.take k)) (depE l[k]) := by rw [take_get l k h, depEs_app]; simp [depEs]
def shapeE : Exp → Bool | .mk k n t a l _ => (a.isEmpty || (k == 2 && a.all rightT)) &&
  (if typedE k then rightT t && n.isEmpty else t.name.isEmpty && t.args.isEmpty && isName n) &&
  (if k == 1 then l.isEmpty else if k == 2 then !l.isEmpty else if k == 3 then true else if k == 4 || k == 5 then l.length == 1 else false)
theorem rightE_all : ∀ e : Exp, rightE e = (lstE e).all shapeE := by
  intro e
  induction e using Exp.ind with
  | h k n t a l q ih =>
    have hl : rightEs l = (lstEs l).all shapeE := by
      clear t a
      induction l with
      | nil => simp [rightEs, lstEs]
      | cons x l ih2 => simp only [rightEs, lstEs, List.all_append, ih x (by simp), ih2 (fun e he => ih e (by simp [he]))]
    rw [rightE, lstE, List.all_cons, hl, shapeE]
    simp only [Bool.and_assoc]
    rw [Bool.and_comm ((lstEs l).all shapeE)]
    simp only [Bool.and_assoc]

mutual
def txtE : Exp → Str
  | .mk k n t a l _ =>
    if k = 3 then txt t ++ [123] ++ Lib.join (txtEs l) [44, 32] ++ [125]
    else match txtEs l with
      | [] => n
      | x :: r => if k = 2 then x ++ [46] ++ n ++ txt (.mk [] a 0) ++ [40] ++ Lib.join r [44, 32] ++ [41]
        else if k = 4 then x ++ [46] ++ n
        else if k = 5 then x ++ [46, 40] ++ txt t ++ [41]
        else n
def txtEs : List Exp → List Str
  | [] => []
  | e :: r => txtE e :: txtEs r
end
mutual
def subE (ns : List Str) (as : List Ty) : Exp → Exp | .mk k n t a l p => .mk k n (sub ns as t) (subs ns as a) (subEs ns as l) p
def subEs (ns : List Str) (as : List Ty) : List Exp → List Exp | [] => [] | e :: r => subE ns as e :: subEs ns as r
end
theorem subEs_map (ns : List Str) (as : List Ty) (l : List Exp) : subEs ns as l = l.map (subE ns as) := by
  induction l with
  | nil => rfl
  | cons t r ih => simp [subEs, ih]
theorem sub_nil : ∀ t : Ty, sub [] [] t = t := by
  intro t
  induction t using Ty.ind with
  | h n ts p ih =>
    rw [sub, subs_map]
    have : ts.map (sub [] []) = ts := by
      conv => rhs; rw [← List.map_id ts]
      exact List.map_congr_left (fun t ht => ih t ht)
    rw [this]
    split
    · rename_i h; simp [idxF, List.isEmpty_iff.1 h]
    · rfl
theorem subE_nil : ∀ e : Exp, subE [] [] e = e := by
  intro e
  induction e using Exp.ind with
  | h k n t a l q ih =>
    rw [subE, subEs_map, subs_map, sub_nil]
    have h1 : a.map (sub [] []) = a := by
      conv => rhs; rw [← List.map_id a]
      exact List.map_congr_left (fun t _ => sub_nil t)
    have h2 : l.map (subE [] []) = l := by
      conv => rhs; rw [← List.map_id l]
      exact List.map_congr_left (fun t ht => ih t ht)
    rw [h1, h2]
mutual
def repE (vs : List Str) (xs : List Exp) : Exp → Exp
  | .mk k n t a l p => if k = 1 ∧ 0 ≤ idxF vs n 0 ∧ idxF vs n 0 < xs.length then xs.getD (idxF vs n 0).toNat ex0 else .mk k n t a (repEs vs xs l) p
def repEs (vs : List Str) (xs : List Exp) : List Exp → List Exp
  | [] => []
  | e :: r => repE vs xs e :: repEs vs xs r
end
mutual
def cntE : Exp → Nat → Nat | .mk _ n t a l _, j => cntEs l (cnts a (cnt t (j + n.length / 50)))
def cntEs : List Exp → Nat → Nat | [], j => j | e :: r, j => if j ≤ 2000 then cntEs r (cntE e j) else j
end
mutual
def fitE : Exp → Prop | .mk _ n t a l _ => n.length ≤ 140737488355328 ∧ fit t ∧ (a.length ≤ 140737488355328 ∧ fits a) ∧ l.length ≤ 140737488355328 ∧ fitEs l
def fitEs : List Exp → Prop | [] => True | e :: r => fitE e ∧ fitEs r
end
theorem fitEs_mem {l : List Exp} {e : Exp} (h : fitEs l) (he : e ∈ l) : fitE e := by
  induction l with
  | nil => cases he
  | cons x l ih =>
    rcases List.mem_cons.1 he with rfl | he
    · exact h.1
    · exact ih h.2 he
theorem cntEs_cons (e : Exp) (r : List Exp) (j : Nat) : cntEs (e :: r) j = if j ≤ 2000 then cntEs r (cntE e j) else j := by rw [cntEs]
def txtEK (s : Str) (l : List Exp) (k : Nat) : Str := s ++ Lib.join (txtEs (l.take k)) [44, 32]
mutual
def mapE (F : Exp → Exp) : Exp → Exp
  | .mk k n t a l p => F (.mk k n t a (mapEs F l) p)
def mapEs (F : Exp → Exp) : List Exp → List Exp
  | [] => []
  | e :: r => mapE F e :: mapEs F r
end
theorem mapEs_map (F : Exp → Exp) (l : List Exp) : mapEs F l = l.map (mapE F) := by
  induction l with
  | nil => rfl
  | cons t r ih => simp [mapEs, ih]
theorem mapE_mk (F : Exp → Exp) (k : Int) (n : Str) (t : Ty) (a : List Ty) (l : List Exp) (p : Int) : mapE F (.mk k n t a l p) = F (.mk k n t a (l.map (mapE F)) p) := by rw [mapE, mapEs_map]
def subF (ns : List Str) (as : List Ty) : Exp → Exp
  | .mk k n t a l p => .mk k n (sub ns as t) (subs ns as a) l p
theorem mapE_sub (ns : List Str) (as : List Ty) : ∀ e : Exp, mapE (subF ns as) e = subE ns as e := by
  intro e
  induction e using Exp.ind with
  | h k n t a l q ih =>
    rw [mapE_mk, subE, subF, subEs_map]
    congr 1
    exact List.map_congr_left ih
def repF (vs : List Str) (xs : List Exp) : Exp → Exp
  | .mk k n t a l p => if k = 1 ∧ 0 ≤ idxF vs n 0 ∧ idxF vs n 0 < xs.length then xs.getD (idxF vs n 0).toNat ex0 else .mk k n t a l p
section
variable (e : Exp)
theorem encE_take6 : (encE e).take 6 = [.int .i64 e.kind, .str e.name, .str e.ty.name, .slice (e.ty.args.map encTy), .int .i64 e.ty.pos, .slice (e.ta.map encTy)] := by rw [encE_def]; rfl
theorem encE_drop7 : (encE e).drop 7 = [.int .i64 e.pos] := by rw [encE_def]; rfl
end
end Go.Pv
end

section
/- Expressions handed out one by one; which one comes first. -/
namespace Go.Pv
open Go

theorem map_inj_on {α β : Type} {f : α → β} : ∀ {a b : List α}, (∀ x ∈ a, ∀ y, f x = f y → x = y) → a.map f = b.map f → a = b
  | [], [], _, _ => rfl
  | [], _ :: _, _, h => by simp at h
  | _ :: _, [], _, h => by simp at h
  | x :: a, y :: b, hx, h => by
    simp only [List.map_cons, List.cons.injEq] at h
    rw [hx x (by simp) y h.1, map_inj_on (fun z hz => hx z (by simp [hz])) h.2]
theorem encTy_inj : ∀ t u : Ty, encTy t = encTy u → t = u := by
  intro t
  induction t using Ty.ind with
  | h n ts p ih =>
    intro u h
    obtain ⟨m, us, q⟩ := u
    rw [encTy_mk, encTy_mk] at h
    simp only [List.cons.injEq, AV.str.injEq, AV.slice.injEq, AV.int.injEq, true_and, and_true] at h
    obtain ⟨rfl, h2, rfl⟩ := h
    rw [map_inj_on (fun x hx y => ih x hx y) h2]
theorem encE_inj : ∀ e f : Exp, encE e = encE f → e = f := by
  intro e
  induction e using Exp.ind with
  | h k n t a l p ih =>
    intro f h
    obtain ⟨k2, n2, t2, a2, l2, p2⟩ := f
    rw [encE_mk, encE_mk] at h
    simp only [List.cons.injEq, AV.str.injEq, AV.slice.injEq, AV.int.injEq, true_and, and_true] at h
    obtain ⟨rfl, rfl, h3, h4, h5, h6, h7, rfl⟩ := h
    have ht : t = t2 := encTy_inj t t2 (by rw [encTy_def, encTy_def, h3, h4, h5])
    rw [ht, map_inj_on (fun x _ y => encTy_inj x y) h6, map_inj_on (fun x hx y => ih x hx y) h7]

def idxQ {α : Type} (q : α → Bool) : List α → Nat → Int
  | [], _ => -1
  | x :: r, k => if q x then k else idxQ q r (k + 1)
theorem idxQ_any {α : Type} (q : α → Bool) (l : List α) (k : Nat) : decide (0 ≤ idxQ q l k) = l.any q := by
  induction l generalizing k with
  | nil => simp [idxQ]
  | cons x r ih =>
    simp only [idxQ, List.any_cons]
    by_cases h : q x = true
    · simp [h]
    · simp [h, ih]

open Classical in
/-- The body goes on at the expressions of which p is true. -/
noncomputable def goE (p : Exp → Bool) (_ : List AV) (x : AV) : Bool := if ∃ e, x = .agg (encE e) ∧ p e = true then true else false
theorem goE_at (p : Exp → Bool) (s : List AV) (e : Exp) : goE p s (.agg (encE e)) = p e := by
  unfold goE
  cases h : p e with
  | true => rw [if_pos ⟨e, rfl, h⟩]
  | false =>
    rw [if_neg]
    rintro ⟨f, hf, hp⟩
    injection hf with hf
    rw [encE_inj e f hf, hp] at h
    cases h
abbrev avE (e : Exp) : AV := .agg (encE e)
theorem feedG_goE (p : Exp → Bool) (s : List AV) (l : List Exp) : (feedG (goE p) s (l.map avE)).2 = l.all p := by
  induction l generalizing s with
  | nil => rfl
  | cons x r ih => simp only [List.map_cons, feedG, goE_at, List.all_cons]; by_cases h : p x = true <;> simp [ih, h]
theorem elP_exp {l : List Exp} {s : List AV} {x : AV} (h : elP (l.map avE) s x) : ∃ e, x = .agg (encE e) ∧ e ∈ l := by
  obtain ⟨r, hr⟩ := h
  have : x ∈ l.map avE := by rw [← hr]; simp
  obtain ⟨n, h1, h2⟩ := List.mem_map.1 this
  exact ⟨n, h2.symm, h1⟩
theorem elP_getE {l : List Exp} {s : List AV} {x : AV} (h : elP (l.map avE) s x) : ∃ hs : s.length < l.length, x = .agg (encE l[s.length]) := by
  obtain ⟨r, hr⟩ := h
  have hl := congrArg List.length hr
  simp only [List.length_append, List.length_cons, List.length_map] at hl
  have hs : s.length < l.length := by omega
  refine ⟨hs, ?_⟩
  have h1 : (l.map avE)[s.length]? = some x := by rw [← hr]; simp
  rw [List.getElem?_map, List.getElem?_eq_getElem hs] at h1
  simpa using h1.symm
theorem len_eq0 {α : Type} (l : List α) : ((l.length : Int) == 0) = l.isEmpty := by
  cases l with
  | nil => rfl
  | cons x r =>
    have : ¬ (((x :: r).length : Int) = 0) := by simp only [List.length_cons]; omega
    rw [List.isEmpty_cons]
    simpa using this
theorem len_eq1 {α : Type} (l : List α) : ((l.length : Int) == 1) = (l.length == 1) := by
  by_cases h : l.length = 1
  · rw [h]; rfl
  · have h2 : ¬ (l.length : Int) = 1 := by omega
    rw [beq_eq_false_iff_ne.2 h2, beq_eq_false_iff_ne.2 h]
theorem cmpT_ty0 (t : Ty) : (cmpT t ty0 == 0) = (t.name.isEmpty && t.args.isEmpty) := by
  obtain ⟨n, ts, p⟩ := t
  have e0 : cmpT (.mk n ts p) ty0 = if cmpS n [] = 0 then cmpTs ts [] else cmpS n [] := by rw [cmpT]; rfl
  rw [e0]
  show _ = (n.isEmpty && ts.isEmpty)
  by_cases h : cmpS n [] = 0
  · rw [if_pos h]
    obtain rfl := (cmpS_eq n []).1 h
    cases ts with
    | nil => simp [cmpTs]
    | cons x r => simp [cmpTs]
  · rw [if_neg h]
    have hn : n ≠ [] := fun e => h (by rw [e]; exact cmpS_nil)
    have h2 : (cmpS n [] == 0) = false := by simpa using h
    rw [h2]
    cases n with
    | nil => exact absurd rfl hn
    | cons a b => rfl
theorem sameTs_nil (a : List Ty) : sameTs a [] = a.isEmpty := by cases a <;> rfl
theorem sameEs_refl (l : List Exp) : sameEs l l = true := by
  induction l with
  | nil => simp [sameEs]
  | cons x l ih => rw [sameEs_cons, sameE_refl, ih]; rfl
section
variable (kd : Int) (n : Str) (t : Ty) (ta : List Ty) (l : List Exp) (p : Int)
theorem same_s1 : sameE (.mk kd n t ta l p) (.mk kd n ty0 [] l 0) = (t.name.isEmpty && t.args.isEmpty && ta.isEmpty) := by simp [sameE, cmpT_ty0, sameTs_nil, sameEs_refl]
theorem same_s2 : sameE (.mk kd n t ta l p) (.mk kd n ty0 ta l 0) = (t.name.isEmpty && t.args.isEmpty) := by simp [sameE, cmpT_ty0, sameTs_refl, sameEs_refl]
theorem same_s3 : sameE (.mk kd n t ta l p) (.mk kd [] t [] l 0) = (n.isEmpty && ta.isEmpty) := by cases n <;> simp [sameE, cmpT_refl, sameTs_nil, sameEs_refl]
theorem enc_s1 : encE (.mk kd n ty0 ta l 0) = [.int .i64 kd, .str n, .str [], .slice [], .int .i64 0, .slice (ta.map encTy), .slice (l.map encE), .int .i64 0] := by rw [encE_mk]; rfl
end
theorem kd_cases (kd : Int) : kd = 1 ∨ kd = 2 ∨ kd = 3 ∨ kd = 4 ∨ kd = 5 ∨ ((kd == 1) = false ∧ (kd == 2) = false ∧ (kd == 3) = false ∧ (kd == 4) = false ∧ (kd == 5) = false) := by
  by_cases h1 : kd = 1
  · exact .inl h1
  by_cases h2 : kd = 2
  · exact .inr (.inl h2)
  by_cases h3 : kd = 3
  · exact .inr (.inr (.inl h3))
  by_cases h4 : kd = 4
  · exact .inr (.inr (.inr (.inl h4)))
  by_cases h5 : kd = 5
  · exact .inr (.inr (.inr (.inr (.inl h5))))
  exact .inr (.inr (.inr (.inr (.inr ⟨by simpa using h1, by simpa using h2, by simpa using h3, by simpa using h4, by simpa using h5⟩))))
theorem any_right (ta : List Ty) : (ta.any fun t => !rightT t) = !ta.all rightT := by
  induction ta with
  | nil => rfl
  | cons x r ih => simp only [List.any_cons, List.all_cons, ih, Bool.not_and]
def bareK : Exp → Exp | .mk k n t a l p => .mk k n t a (List.replicate l.length ex0) p
theorem shape_bareK (e : Exp) : shapeE (bareK e) = shapeE e := by
  obtain ⟨k, n, t, a, l, p⟩ := e
  have h1 : (List.replicate l.length ex0).isEmpty = l.isEmpty := by cases l <;> rfl
  simp only [bareK, shapeE, h1, List.length_replicate]
theorem wt_bareK (e : Exp) : wtE (bareK e) ≤ 2 * wtE e := by
  obtain ⟨k, n, t, a, l, p⟩ := e
  have h0 : wtE ex0 = 2 := by decide
  have h1 : ∀ m, wtEs (List.replicate m ex0) = 2 * m := by
    intro m
    induction m with
    | zero => rfl
    | succ m ih => rw [List.replicate_succ, wtEs, ih, h0]; omega
  have h2 := wtEs_len l
  rw [bareK, wtE_mk, wtE_mk, h1]; omega
def okT (k : Int) (a : List Ty) : Bool := a.isEmpty || (k == 2 && a.all rightT)
def bodyE (k : Int) (n : Str) (t : Ty) : Bool := if typedE k then rightT t && n.isEmpty else t.name.isEmpty && t.args.isEmpty && isName n
def kidsE (k : Int) (l : List Exp) : Bool := if k == 1 then l.isEmpty else if k == 2 then !l.isEmpty else if k == 3 then true else if k == 4 || k == 5 then l.length == 1 else false
theorem shapeE_ok (k : Int) (n : Str) (t : Ty) (a : List Ty) (l : List Exp) (p : Int) : shapeE (.mk k n t a l p) = (okT k a && bodyE k n t && kidsE k l) := by rw [shapeE]; rfl
end Go.Pv
end

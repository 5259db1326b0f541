import Derived.Test.YtjkabaejabibnaaDoorPvLa
import Derived.Below
import Derived.Lib.Bytealg
import Derived.Test.YtjkabaejabibnaaDoorPvY
set_option linter.all false
section
/- Tokens: their cells; which are alike. -/
namespace Go.Pv
open Go

/-- A token: its kind, its text, where it stands. -/
abbrev Tk := Int × List UInt8 × Int
def encK (x : Tk) : List AV := [.int .i64 x.1, .str x.2.1, .int .i64 x.2.2]
theorem encK_cells (x : Tk) : (encK x).length = 3 ∧ (encK x).all AV.one = true := ⟨rfl, rfl⟩
theorem rows_takeK (k : Nat) (a : List Tk) : Rows 3 ((a.map encK).take k) := by rw [← List.map_take]; exact Rows_map _ _ encK_cells _
theorem take_encK (k : Nat) (a : List Tk) (h : k < a.length) : (a.take (k + 1)).map encK = (a.map encK).take k ++ [[.int .i64 a[k].1, .str a[k].2.1, .int .i64 a[k].2.2]] := by
  rw [List.take_succ_eq_append_getElem h, List.map_append, List.map_take]
  rfl
def kq (x y : Tk) : Bool := x.1 == y.1 && x.2.1 == y.2.1
def alk : List Tk → List Tk → Bool
  | [], [] => true
  | x :: a, y :: b => kq x y && alk a b
  | _, _ => false

theorem alk_cons (x y : Tk) (a b : List Tk) : alk (x :: a) (y :: b) = (kq x y && alk a b) := rfl
theorem alk_nil : alk [] [] = true := rfl
theorem kq_refl (x : Tk) : kq x x = true := by simp [kq]
theorem alk_refl : ∀ a : List Tk, alk a a = true
  | [] => rfl
  | x :: a => by rw [alk_cons, kq_refl, alk_refl a]; rfl
theorem alk_len : ∀ {a b : List Tk}, a.length ≠ b.length → alk a b = false
  | [], [], h => absurd rfl h
  | [], _ :: _, _ => rfl
  | _ :: _, [], _ => rfl
  | x :: a, y :: b, h => by
    rw [alk_cons, alk_len (a := a) (b := b) (fun he => h (by simp [he])), Bool.and_false]

/-! ### Library functions of two arguments that write nothing -/
theorem valid_two {P : Program} {gl : Gl} {f : FuncId} {x y r : AV} {vx vy v : Value} (hok : fnOk P f = true) (hx : ∀ lim h u, Rep lim h u x → u = vx) (hy : ∀ lim h u, Rep lim h u y → u = vy) (hr : ∀ lim h, Rep lim h v r)
    (h : ∀ w, Calls P f #[vx, vy] w fun e w' => e = .returned v ∧ w' = w) : Valid P gl f [x, y] r := by
  refine valid_calls hok fun lim w cargs hargs => ?_
  obtain ⟨u, u', rfl⟩ : ∃ u u', cargs = [u, u'] := by
    have := hargs.1
    match cargs, this with
    | [v, u], _ => exact ⟨v, u, rfl⟩
  obtain rfl := hx _ _ _ hargs.head
  obtain rfl := hy _ _ _ hargs.tail.head
  refine (h w).mono fun e w' => ?_
  rintro ⟨rfl, rfl⟩
  exact ⟨_, rfl, RowKit.Below.refl _ _, fun lim' _ => hr lim' _⟩

/-! ### Words -/
def wc (c : UInt8) : Bool := decide (1 ≤ clsI c.toNat) && decide (clsI c.toNat ≤ 3)
def wordN : List UInt8 → Nat
  | [] => 0
  | c :: s => if wc c then 1 + wordN s else 0
theorem wordN_cons (c : UInt8) (s : List UInt8) : wordN (c :: s) = if wc c then 1 + wordN s else 0 := rfl
theorem wordN_le : ∀ s : List UInt8, wordN s ≤ s.length
  | [] => Nat.le_refl _
  | c :: s => by
    rw [wordN_cons]
    have := wordN_le s
    split <;> simp <;> omega

theorem indexByte_lt : ∀ (l : List UInt8) (c : UInt8), Lib.indexByte l c < l.length ∨ l = []
  | [], _ => .inr rfl
  | b :: l, c => by
    left
    unfold Lib.indexByte
    rcases indexByte_lt l c with h | rfl
    · split
      · simp
      · split <;> simp <;> omega
    · split <;> simp [Lib.indexByte]
theorem indexByte_pos (c : UInt8) (r : List UInt8) (h : Lib.hasPrefix (c :: r) [47, 47] = true) : Lib.indexByte (c :: r) 10 ≠ 0 := by
  have hc : c = 47 := by
    simp only [Lib.hasPrefix, List.isPrefixOf, Bool.and_eq_true, beq_iff_eq] at h
    exact h.1.symm
  subst hc
  have := Lib.indexByte_ge r 10
  unfold Lib.indexByte
  rw [if_neg (by decide)]
  split <;> rename_i h1
  · decide
  · simp at h1; omega

/-! ### The lexer -/
def signs : List UInt8 := [40, 41, 91, 93, 123, 125, 46, 44, 59, 61, 95]
/-- The tokens behind those of out, at the place k; none and a place: a byte that begins no token. -/
def lxA : Nat → List Tk → Nat → List UInt8 → Option (List Tk) × Nat
  | 0, _, k, _ => (none, k)
  | _ + 1, out, k, [] => (some (out ++ [(3, [], (k : Int))]), 0)
  | n + 1, out, k, c :: r =>
    if clsI c.toNat = 4 then lxA n out (k + 1) r
    else if Lib.hasPrefix (c :: r) [47, 47] = true then
      if Lib.indexByte (c :: r) 10 < 0 then (some (out ++ [(3, [], ((k + (r.length + 1) : Nat) : Int))]), 0)
      else lxA n out (k + (Lib.indexByte (c :: r) 10).toNat) ((c :: r).drop (Lib.indexByte (c :: r) 10).toNat)
    else if clsI c.toNat = 1 then lxA n (out ++ [(1, (c :: r).take (wordN (c :: r)), (k : Int))]) (k + wordN (c :: r)) ((c :: r).drop (wordN (c :: r)))
    else if 0 ≤ Lib.indexByte signs c then lxA n (out ++ [(2, [c], (k : Int))]) (k + 1) r
    else (none, k)
def lexT (s : List UInt8) : Option (List Tk) × Nat := if s.length ≤ 65536 then lxA (s.length + 1) [] 0 s else (none, 65536)
def lexV (ft : Nat) (x : Option (List Tk) × Nat) : AV := match x.1 with
  | some l => .tup [.slice (l.map encK), .nilIface]
  | none => .tup [.slice [], .iface ft (.agg [.int .i64 1, .int .i64 x.2])]

section
variable {n k : Nat} {out : List Tk} {s : List UInt8}
theorem lxA_sp (h : k < s.length) (h1 : clsI s[k].toNat = 4) : lxA (n + 1) out k (s.drop k) = lxA n out (k + 1) (s.drop (k + 1)) := by
  rw [List.drop_eq_getElem_cons h, lxA, if_pos h1]
theorem lxA_com0 (h : k < s.length) (h1 : ¬ clsI s[k].toNat = 4) (h2 : Lib.hasPrefix (s.drop k) [47, 47] = true) (h3 : Lib.indexByte (s.drop k) 10 < 0) : lxA (n + 1) out k (s.drop k) = (some (out ++ [(3, [], (s.length : Int))]), 0) := by
  have hl : (s.drop (k + 1)).length = s.length - (k + 1) := List.length_drop
  rw [List.drop_eq_getElem_cons h] at h2 h3 ⊢
  rw [lxA, if_neg h1, if_pos h2, if_pos h3, hl, show k + (s.length - (k + 1) + 1) = s.length by omega]
theorem lxA_com (h : k < s.length) (h1 : ¬ clsI s[k].toNat = 4) (h2 : Lib.hasPrefix (s.drop k) [47, 47] = true) (h3 : 0 ≤ Lib.indexByte (s.drop k) 10) : lxA (n + 1) out k (s.drop k) = lxA n out (k + (Lib.indexByte (s.drop k) 10).toNat) (s.drop (k + (Lib.indexByte (s.drop k) 10).toNat)) := by
  rw [← List.drop_drop]
  rw [List.drop_eq_getElem_cons h] at h2 h3 ⊢
  rw [lxA, if_neg h1, if_pos h2, if_neg (by omega)]
theorem lxA_word (h : k < s.length) (h1 : ¬ clsI s[k].toNat = 4) (h2 : Lib.hasPrefix (s.drop k) [47, 47] = false) (h3 : clsI s[k].toNat = 1) : lxA (n + 1) out k (s.drop k) = lxA n (out ++ [(1, (s.drop k).take (wordN (s.drop k)), (k : Int))]) (k + wordN (s.drop k)) (s.drop (k + wordN (s.drop k))) := by
  rw [← List.drop_drop]
  rw [List.drop_eq_getElem_cons h] at h2 ⊢
  rw [lxA, if_neg h1, if_neg (by rw [h2]; decide), if_pos h3]
theorem lxA_sign (h : k < s.length) (h1 : ¬ clsI s[k].toNat = 4) (h2 : Lib.hasPrefix (s.drop k) [47, 47] = false) (h3 : ¬ clsI s[k].toNat = 1) (h4 : 0 ≤ Lib.indexByte signs s[k]) : lxA (n + 1) out k (s.drop k) = lxA n (out ++ [(2, [s[k]], (k : Int))]) (k + 1) (s.drop (k + 1)) := by
  rw [List.drop_eq_getElem_cons h] at h2 ⊢
  rw [lxA, if_neg h1, if_neg (by rw [h2]; decide), if_neg h3, if_pos h4]
theorem lxA_bad (h : k < s.length) (h1 : ¬ clsI s[k].toNat = 4) (h2 : Lib.hasPrefix (s.drop k) [47, 47] = false) (h3 : ¬ clsI s[k].toNat = 1) (h4 : Lib.indexByte signs s[k] < 0) : lxA (n + 1) out k (s.drop k) = (none, k) := by
  rw [List.drop_eq_getElem_cons h] at h2 ⊢
  rw [lxA, if_neg h1, if_neg (by rw [h2]; decide), if_neg h3, if_neg (by omega)]
theorem lxA_end (hk : k ≤ s.length) (h : s.length ≤ k) : lxA (n + 1) out k (s.drop k) = (some (out ++ [(3, [], (s.length : Int))]), 0) := by
  rw [List.drop_eq_nil_of_le h, lxA, show k = s.length by omega]
theorem wordN_pos (h : k < s.length) (h3 : clsI s[k].toNat = 1) : 0 < wordN (s.drop k) := by
  rw [List.drop_eq_getElem_cons h, wordN_cons, if_pos (by simp [wc, h3])]; omega
theorem com_pos (h : k < s.length) (h2 : Lib.hasPrefix (s.drop k) [47, 47] = true) (h3 : 0 ≤ Lib.indexByte (s.drop k) 10) : 0 < (Lib.indexByte (s.drop k) 10).toNat := by
  rw [List.drop_eq_getElem_cons h] at h2 h3 ⊢
  have := indexByte_pos _ _ h2
  omega
end

theorem drop_take_one {s : List UInt8} {k : Nat} (h : k < s.length) : (s.take (k + 1)).drop k = [s[k]] := by
  rw [List.drop_take, Nat.add_sub_cancel_left, List.drop_eq_getElem_cons h]; rfl
theorem drop_take_add (s : List UInt8) (k w : Nat) : (s.take (k + w)).drop k = (s.drop k).take w := by
  rw [List.drop_take, Nat.add_sub_cancel_left]
theorem toNat_add (a b : Nat) : ((a : Int) + (b : Int)).toNat = a + b := by omega

/-! ### Lines -/
def lnS (p : Nat × Nat) (c : UInt8) : Nat × Nat := if c = 10 then (p.1 + 1, 1) else (p.1, p.2 + 1)
def lnR (l : List UInt8) : Nat × Nat := l.foldl lnS (1, 1)
theorem lnR_take {s : List UInt8} {k : Nat} (h : k < s.length) : lnR (s.take (k + 1)) = lnS (lnR (s.take k)) s[k] := by
  unfold lnR
  rw [List.take_succ_eq_append_getElem h, List.foldl_append]; rfl
theorem lnR_le (l : List UInt8) : (lnR l).1 ≤ 1 + l.length ∧ (lnR l).2 ≤ 1 + l.length := by
  unfold lnR
  have : ∀ (l : List UInt8) (p : Nat × Nat), (l.foldl lnS p).1 ≤ p.1 + l.length ∧ (l.foldl lnS p).2 ≤ max p.2 1 + l.length := by
    intro l
    induction l with
    | nil => intro p; simp; omega
    | cons c l ih =>
      intro p
      have := ih (lnS p c)
      rw [List.foldl_cons]
      have h1 : (lnS p c).1 ≤ p.1 + 1 ∧ (lnS p c).2 ≤ max p.2 1 + 1 := by unfold lnS; split <;> simp <;> omega
      simp only [List.length_cons]
      omega
  have := this l (1, 1)
  simp at this
  omega

end Go.Pv
end

section
/- Listed variables that hold a type's handle; lists of tokens as arguments. -/
namespace Go.Pv
open Go Go.ChangeShapes Go.WideShapes Go.RowKit

theorem laidMetH_split {P : Program} {l : List (String × DataW Unit)} {w : World} (h : laidMetH P l w) : laidMet P (l.filter fun x => x.2.handleName?.isNone) w ∧ handlesMet P (l.filter fun x => x.2.handleName?.isSome) w := by
  unfold laidMetH at h
  split at h
  · rename_i hf
    rw [hf]
    refine ⟨?_, fun x hx => by cases hx⟩
    have e : (l.filter fun x => x.2.handleName?.isNone) = l := by
      rw [List.filter_eq_self]
      intro x hx
      cases hn : x.2.handleName? with
      | none => rfl
      | some s =>
        have : x ∈ l.filter fun x => x.2.handleName?.isSome := List.mem_filter.2 ⟨hx, by rw [hn]; rfl⟩
        rw [hf] at this; cases this
    rw [e]; exact h
  · rename_i hf
    rw [hf]; exact h
/-- A type's handle in a variable. -/
theorem glAt_handle {P : Program} {n : String} {w : World} {g rt ty sz gs : Nat} {nm : List UInt8} {d : DataW Unit} (hg : P.globalNamed n = some g) (hd : d.handleName? = some nm) (hdf : d.funcsIn? = none)
    (hrt : (P.cutTypes.find? (·.1 == "internal/reflectlite.rtype")).map (·.2) = some rt) (hsz : P.types.size = sz) (hone : ((List.range sz).filter fun t => P.rowNamed t nm) = [ty]) (hh : typeHandle P ty = .pointer (some ⟨gs, ty, none⟩))
    {l : List (String × DataW Unit)} (hl : handlesMet P l w) (hm : (n, d) ∈ l) : GlAt allL w.heap g [.iface rt (.agg [.gp gs ty])] := by
  have h := hl _ hm
  simp only [hdf] at h
  obtain ⟨name, u, ty', e1, e2, e3, e4, e5⟩ := h
  obtain rfl := Option.some.inj (hd.symm.trans e1)
  obtain rfl := Option.some.inj (hrt.symm.trans e2)
  have hmem : ty' ∈ (List.range sz).filter fun t => P.rowNamed t nm := List.mem_filter.2 ⟨List.mem_range.2 (by rw [← hsz]; exact e3), e4⟩
  rw [hone] at hmem
  obtain rfl := List.mem_singleton.1 hmem
  rw [hh] at e5
  have hcell : ∀ i, cellAt w.heap g i = (#[Value.iface rt (.agg #[.pointer (some ⟨gs, ty', none⟩)])] : Array Value)[i]? := fun i => by
    have := World.var?_cell hg e5 i
    rwa [cell?_eq] at this
  refine ⟨Rep.ro_iff.2 ⟨g, 0, [.iface rt (.agg #[.pointer (some ⟨gs, ty', none⟩)])], rfl, .cons (.iface _ _ _ (Rep.agg_iff.2 ⟨_, rfl, .cons (.gp _ _) (.nil _ _)⟩)) (.nil _ _), fun j u hu => ⟨allL_ok _ _, ?_⟩⟩, fun _ => ⟨allL_ok _ _, ?_⟩⟩
  · rw [Nat.zero_add, hcell]; simpa using hu
  · rw [hcell]; rfl

theorem tok_of {H : Type} {P : Program} {S I T : Nat} (hS : P.underlying S = some .string) (hI : P.underlying I = some (.int .i64)) (hF : ftypes P T = some [I, S, I]) {n : Nat} {d : DataW H} (h : typed P n T d) (hw : (d.weights P T).all (· ≤ reachBytes) = true) : ∃ t : Tk, avOf d = encK t ∧ True := by
  obtain ⟨m, ps, rfl, rfl, hps, hwe⟩ := typed_struct hF h
  rw [hwe] at hw
  match ps, hps with
  | [a, b, c], ⟨ha, hb', hc, _⟩ =>
    obtain ⟨w1, hw⟩ := weightsEach_cons hw
    obtain ⟨w2, hw⟩ := weightsEach_cons hw
    obtain ⟨s, hs1, hs2⟩ := str_of hS hb' w2
    obtain ⟨p, rfl, -⟩ := typed_int hI ha
    obtain ⟨q, rfl, -⟩ := typed_int hI hc
    exact ⟨(p, s, q), by simp [avOf, avFlat, hs1, encK], trivial⟩
theorem toks_of {H : Type} {P : Program} {S I L T : Nat} (hS : P.underlying S = some .string) (hI : P.underlying I = some (.int .i64)) (hL : P.underlying L = some (.slice T)) (hF : ftypes P T = some [I, S, I]) (hb : 0 < P.bytesOf T) (n : Nat) (d : DataW H) (h : typed P n L d) (hw : (d.weights P L).all (· ≤ reachBytes) = true) : ∃ l : List Tk, avOf d = [.slice (l.map encK)] ∧ l.length ≤ 140737488355328 := by
  obtain ⟨q, rfl, hq⟩ := typed_slice hL h
  rcases hq with rfl | ⟨es, sp, rfl, hq⟩
  · exact ⟨[], rfl, by simp⟩
  · obtain ⟨g1, g2⟩ := weights_slice hL hb hw
    obtain ⟨l, e1, e2, -⟩ := rows_of (enc := encK) (good := fun _ => True) es (fun x hx => tok_of hS hI hF (hq x hx) (g2 x hx))
    exact ⟨l, by simp [avOf, e1], by omega⟩
end Go.Pv
end

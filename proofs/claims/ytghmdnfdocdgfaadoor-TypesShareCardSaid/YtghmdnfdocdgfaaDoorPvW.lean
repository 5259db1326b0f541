import Derived.Test.YtghmdnfdocdgfaaDoorPvU
set_option linter.all false
section
/- Names, as plain functions on bytes. -/
namespace Go.Pv
open Go

def goodB (b : UInt8) : Bool := decide (1 ≤ clsI b.toNat) && decide (clsI b.toNat ≤ 3)
def reservedL : List Str := [[112, 97, 99, 107, 97, 103, 101], [109, 97, 105, 110], [116, 121, 112, 101], [115, 116, 114, 117, 99, 116], [105, 110, 116, 101, 114, 102, 97, 99, 101], [102, 117, 110, 99], [114, 101, 116, 117, 114, 110]]
def reservedA : List AV := reservedL.map AV.str
def isRes (s : Str) : Bool := reservedL.contains s
def isName (s : Str) : Bool := match s with | [] => false | b :: _ => (clsI b.toNat == 1) && s.all goodB && !isRes s
def wrR (r : Int) : Bool := decide (127 < r) || decide (clsI r < 1) || decide (3 < clsI r)
def badI (s : Str) (k : Nat) : Int := match s with | [] => -1 | b :: r => if goodB b then badI r (k + 1) else k

theorem badI_neg (s : Str) (k : Nat) : decide (0 ≤ badI s k) = !s.all goodB := by
  induction s generalizing k with
  | nil => rfl
  | cons b r ih => simp only [badI, List.all_cons]; by_cases h : goodB b = true <;> simp [h, ih]

theorem clsI_high (n : Int) (h : 127 < n) : clsI n = 0 := by unfold clsI; rw [if_neg (by omega), if_neg (by omega), if_neg (by omega), if_neg (by omega)]
theorem good_ascii {b : UInt8} (h : goodB b = true) : b.toNat < 128 := by
  rcases Nat.lt_or_ge b.toNat 128 with h1 | h1
  · exact h1
  · simp [goodB, clsI_high (b.toNat : Int) (by omega)] at h

theorem get_ba (s : Str) (k : Nat) (h : k < s.length) : ((⟨s.toArray⟩ : ByteArray).get! k) = s[k] := by
  show s.toArray[k]! = s[k]
  simp [h]

theorem dec_ascii (s : Str) (k : Nat) (h : k < s.length) (hb : s[k].toNat < 128) : dec s k = (s[k].toNat, 1) := by
  unfold dec Utf8.decode
  simp only [Nat.add_zero, get_ba s k h]
  rw [if_pos hb]

theorem dec_high (s : Str) (k : Nat) (h : k < s.length) (hb : 128 ≤ s[k].toNat) : 127 < (dec s k).1 := by
  unfold dec Utf8.decode
  simp only [Nat.add_zero, get_ba s k h]
  rw [if_neg (by omega)]
  have he : 127 < Utf8.runeError := by decide
  split
  · split
    · rename_i h1; simp only; omega
    · exact he
  · split
    · split
      · rename_i h1
        simp only [Bool.and_eq_true, decide_eq_true_eq] at h1
        simp only; omega
      · exact he
    · split
      · split
        · rename_i h1
          simp only [Bool.and_eq_true, decide_eq_true_eq] at h1
          simp only; omega
        · exact he
      · exact he

theorem dec_bad (s : Str) (k : Nat) (h : k < s.length) (hb : goodB s[k] = false) : ∃ r q, dec s k = (r, q) ∧ wrR r = true := by
  refine ⟨(dec s k).1, (dec s k).2, rfl, ?_⟩
  rcases Nat.lt_or_ge s[k].toNat 128 with h1 | h1
  · rw [dec_ascii s k h h1]
    have hc : (clsI (s[k].toNat : Int) < 1) ∨ (3 < clsI (s[k].toNat : Int)) := by
      simp only [goodB, Bool.and_eq_false_iff, decide_eq_false_iff_not] at hb
      omega
    simp only [wrR, Bool.or_eq_true, decide_eq_true_eq]
    rcases hc with hc | hc
    · exact .inl (.inr hc)
    · exact .inr hc
  · have := dec_high s k h h1
    simp only [wrR, Bool.or_eq_true, decide_eq_true_eq]
    exact .inl (.inl (by omega))

theorem good_wr {b : UInt8} (h : goodB b = true) : wrR (b.toNat : Int) = false := by
  have h1 := good_ascii h
  simp only [goodB, Bool.and_eq_true, decide_eq_true_eq] at h
  simp only [wrR, Bool.or_eq_false_iff, decide_eq_false_iff_not]
  omega

@[simp] theorem succ_beq_zero (n : Nat) : ((n : Int) + 1 == 0) = false := by simp; omega
theorem badI_drop (s : Str) (k j : Nat) (h : k < s.length) : badI (s.drop k) j = if goodB s[k] then badI (s.drop (k + 1)) (j + 1) else j := by
  rw [List.drop_eq_getElem_cons h, badI]

theorem idxF_mem (l : List Str) (x : Str) (k : Nat) : 0 ≤ idxF l x k ↔ x ∈ l := by
  induction l generalizing k with
  | nil => simp [idxF]
  | cons y r ih =>
    by_cases h : x = y
    · subst h; simp [idxF]
    · simp [idxF, h, ih]
@[simp] theorem reservedA_len : reservedA.length = 7 := rfl
@[simp] theorem reservedA_take : (reservedA.take 7).map (fun x => [x]) = reservedL.map encS := rfl

end Go.Pv
end

section
/- Iterators: what they hand out, as lists. -/
namespace Go.Pv
open Go

def feed (Y : Ys) : List AV → List AV → List AV × Bool
  | s, [] => (s, true)
  | s, x :: r => if Y.go s x then feed Y (s ++ [x]) r else (s ++ [x], false)

def elOk (Y : Ys) : List AV → List AV → Prop
  | _, [] => True
  | s, x :: r => Y.el s x ∧ (Y.go s x = true → elOk Y (s ++ [x]) r)

theorem feed_app (Y : Ys) (s a b : List AV) : feed Y s (a ++ b) = if (feed Y s a).2 then feed Y (feed Y s a).1 b else feed Y s a := by
  induction a generalizing s with
  | nil => simp [feed]
  | cons x a ih =>
    simp only [List.cons_append, feed]
    split
    · exact ih _
    · simp
theorem elOk_app (Y : Ys) (s a b : List AV) : elOk Y s (a ++ b) ↔ elOk Y s a ∧ ((feed Y s a).2 = true → elOk Y (feed Y s a).1 b) := by
  induction a generalizing s with
  | nil => simp [feed, elOk]
  | cons x a ih =>
    simp only [List.cons_append, feed, elOk]
    by_cases h : Y.go s x = true
    · simp only [h, if_true, true_implies, ih]; exact ⟨fun ⟨a, b, c⟩ => ⟨⟨a, b⟩, c⟩, fun ⟨⟨a, b⟩, c⟩ => ⟨a, b, c⟩⟩
    · simp [h]

def visI {α : Type} (Y : Ys) (L : α → List AV) : List AV → List α → Nat → Int
  | _, [], _ => -1
  | s, t :: r, k => if (feed Y s (L t)).2 then visI Y L (feed Y s (L t)).1 r (k + 1) else k

theorem visI_feed {α : Type} (Y : Ys) (L : α → List AV) (s : List AV) (l : List α) (k : Nat) : decide (0 ≤ visI Y L s l k) = !(feed Y s (l.flatMap L)).2 := by
  induction l generalizing s k with
  | nil => simp [visI, feed]
  | cons t r ih =>
    simp only [visI, List.flatMap_cons, feed_app]
    by_cases h : (feed Y s (L t)).2 = true
    · simp [h, ih]
    · simp [h]

theorem lst_mem_wt : ∀ t : Ty, ∀ s ∈ lst t, s.length < wt t := by
  intro t
  induction t using Ty.ind with
  | h n ts p ih =>
    intro s hs
    simp only [lst, List.mem_cons] at hs
    rcases hs with rfl | hs
    · simp only [wt]; omega
    · rw [lsts_flat] at hs
      obtain ⟨l, hl, hs⟩ := List.mem_flatten.1 hs
      obtain ⟨t, ht, rfl⟩ := List.mem_map.1 hl
      have h1 := ih t ht s hs
      have h2 := wts_mem ht
      simp only [wt]; omega
def rightT (t : Ty) : Bool := (lst t).all isName

theorem Valid.gl {P : Program} {gl gl' : Gl} {f : FuncId} {args : List AV} {r : AV} (h : Valid P gl f args r) (hg : gl'.g = gl.g) : Valid P gl' f args r := by
  obtain ⟨h1, h2⟩ := h
  exact ⟨h1, fun lim w cargs hgl => h2 lim w cargs (fun g c hc => hgl g c (by rw [hg]; exact hc))⟩

def feedG (go : List AV → AV → Bool) : List AV → List AV → List AV × Bool
  | s, [] => (s, true)
  | s, x :: r => if go s x then feedG go (s ++ [x]) r else (s ++ [x], false)
theorem feed_G (Y : Ys) (s l : List AV) : feed Y s l = feedG Y.go s l := by
  induction l generalizing s with
  | nil => rfl
  | cons x r ih => simp only [feed, feedG, ih]
def elP (L s : List AV) (x : AV) : Prop := ∃ r, s ++ x :: r = L
theorem elOk_P {Y : Ys} {L : List AV} (h : Y.el = elP L) : ∀ (r s : List AV), s ++ r = L → elOk Y s r := by
  intro r
  induction r with
  | nil => intro s _; trivial
  | cons x r ih => intro s hs; exact ⟨by rw [h]; exact ⟨r, hs⟩, fun _ => ih _ (by simpa using hs)⟩
theorem feedG_all (L s : List AV) : feedG (fun _ _ => true) s L = (s ++ L, true) := by
  induction L generalizing s with
  | nil => simp [feedG]
  | cons x r ih => simp [feedG, ih]

def goN (_ : List AV) (x : AV) : Bool := match x with | .str s => isName s | _ => true
theorem feedG_goN (s : List AV) (l : List Str) : (feedG goN s (l.map AV.str)).2 = l.all isName := by
  induction l generalizing s with
  | nil => rfl
  | cons x r ih => simp only [List.map_cons, feedG, goN, List.all_cons]; by_cases h : isName x = true <;> simp [ih, h]
theorem elP_str {l : List Str} {s : List AV} {x : AV} (h : elP (l.map AV.str) s x) : ∃ n, x = .str n ∧ n ∈ l := by
  obtain ⟨r, hr⟩ := h
  have : x ∈ l.map AV.str := by rw [← hr]; simp
  obtain ⟨n, h1, h2⟩ := List.mem_map.1 this
  exact ⟨n, h2.symm, h1⟩

def awB : Ty := .mk [98] [] 0
def awT : Ty := .mk [77, 97, 112] [.mk [97] [] 0, .mk [76, 105, 115, 116] [awB] 0] 0
def awI : Ty := .mk [73, 110, 116] [] 0
def awS : Ty := .mk [77, 97, 112] [.mk [97] [] 0, .mk [76, 105, 115, 116] [awI] 0] 0

end Go.Pv
end

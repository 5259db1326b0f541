/- Iterators: what they hand out, as lists. -/
import Derived.Test.YtoehgdamenpclaaDoorPvV
namespace Go.Pv
open Go

/-- Elements are handed out till the body has enough. -/
def feed (Y : Ys) : List AV → List AV → List AV × Bool
  | s, [] => (s, true)
  | s, x :: r => if Y.go s x then feed Y (s ++ [x]) r else (s ++ [x], false)

/-- Each element that is handed out may be handed out. -/
def elOk (Y : Ys) : List AV → List AV → Prop
  | _, [] => True
  | s, x :: r => Y.el s x ∧ (Y.go s x = true → elOk Y (s ++ [x]) r)

theorem feed_app (Y : Ys) (s a b : List AV) : feed Y s (a ++ b) = if (feed Y s a).2 then feed Y (feed Y s a).1 b else feed Y s a := by
  induction a generalizing s with
  | nil => simp [feed]
  | cons x a ih =>
    simp only [List.cons_append, feed]
    split
    · exact ih _
    · simp
theorem elOk_app (Y : Ys) (s a b : List AV) : elOk Y s (a ++ b) ↔ elOk Y s a ∧ ((feed Y s a).2 = true → elOk Y (feed Y s a).1 b) := by
  induction a generalizing s with
  | nil => simp [feed, elOk]
  | cons x a ih =>
    simp only [List.cons_append, feed, elOk]
    by_cases h : Y.go s x = true
    · simp only [h, if_true, true_implies, ih]; exact ⟨fun ⟨a, b, c⟩ => ⟨⟨a, b⟩, c⟩, fun ⟨⟨a, b⟩, c⟩ => ⟨a, b, c⟩⟩
    · simp [h]

/-- Which of the parts has enough. -/
def visI {α : Type} (Y : Ys) (L : α → List AV) : List AV → List α → Nat → Int
  | _, [], _ => -1
  | s, t :: r, k => if (feed Y s (L t)).2 then visI Y L (feed Y s (L t)).1 r (k + 1) else k

theorem visI_feed {α : Type} (Y : Ys) (L : α → List AV) (s : List AV) (l : List α) (k : Nat) : decide (0 ≤ visI Y L s l k) = !(feed Y s (l.flatMap L)).2 := by
  induction l generalizing s k with
  | nil => simp [visI, feed]
  | cons t r ih =>
    simp only [visI, List.flatMap_cons, feed_app]
    by_cases h : (feed Y s (L t)).2 = true
    · simp [h, ih]
    · simp [h]

theorem lst_mem_wt : ∀ t : Ty, ∀ s ∈ lst t, s.length < wt t := by
  intro t
  induction t using Ty.ind with
  | h n ts p ih =>
    intro s hs
    simp only [lst, List.mem_cons] at hs
    rcases hs with rfl | hs
    · simp only [wt]; omega
    · rw [lsts_flat] at hs
      obtain ⟨l, hl, hs⟩ := List.mem_flatten.1 hs
      obtain ⟨t, ht, rfl⟩ := List.mem_map.1 hl
      have h1 := ih t ht s hs
      have h2 := wts_mem ht
      simp only [wt]; omega
/-- All names are names. -/
def rightT (t : Ty) : Bool := (lst t).all isName

theorem Valid.gl {P : Program} {gl gl' : Gl} {f : FuncId} {args : List AV} {r : AV} (h : Valid P gl f args r) (hg : gl'.g = gl.g) : Valid P gl' f args r := by
  obtain ⟨h1, h2⟩ := h
  exact ⟨h1, fun lim w cargs hgl => h2 lim w cargs (fun g c hc => hgl g c (by rw [hg]; exact hc))⟩

/-- The same without the iteration. -/
def feedG (go : List AV → AV → Bool) : List AV → List AV → List AV × Bool
  | s, [] => (s, true)
  | s, x :: r => if go s x then feedG go (s ++ [x]) r else (s ++ [x], false)
theorem feed_G (Y : Ys) (s l : List AV) : feed Y s l = feedG Y.go s l := by
  induction l generalizing s with
  | nil => rfl
  | cons x r ih => simp only [feed, feedG, ih]
/-- What comes stands in the list. -/
def elP (L s : List AV) (x : AV) : Prop := ∃ r, s ++ x :: r = L
theorem elOk_P {Y : Ys} {L : List AV} (h : Y.el = elP L) : ∀ (r s : List AV), s ++ r = L → elOk Y s r := by
  intro r
  induction r with
  | nil => intro s _; trivial
  | cons x r ih => intro s hs; exact ⟨by rw [h]; exact ⟨r, hs⟩, fun _ => ih _ (by simpa using hs)⟩
theorem feedG_all (L s : List AV) : feedG (fun _ _ => true) s L = (s ++ L, true) := by
  induction L generalizing s with
  | nil => simp [feedG]
  | cons x r ih => simp [feedG, ih]

def goN (_ : List AV) (x : AV) : Bool := match x with | .str s => isName s | _ => true
theorem feedG_goN (s : List AV) (l : List Str) : (feedG goN s (l.map AV.str)).2 = l.all isName := by
  induction l generalizing s with
  | nil => rfl
  | cons x r ih => simp only [List.map_cons, feedG, goN, List.all_cons]; by_cases h : isName x = true <;> simp [ih, h]
theorem elP_str {l : List Str} {s : List AV} {x : AV} (h : elP (l.map AV.str) s x) : ∃ n, x = .str n ∧ n ∈ l := by
  obtain ⟨r, hr⟩ := h
  have : x ∈ l.map AV.str := by rw [← hr]; simp
  obtain ⟨n, h1, h2⟩ := List.mem_map.1 this
  exact ⟨n, h2.symm, h1⟩

/-! ### The examples of the documentation -/
def awB : Ty := .mk [98] [] 0
def awT : Ty := .mk [77, 97, 112] [.mk [97] [] 0, .mk [76, 105, 115, 116] [awB] 0] 0
def awI : Ty := .mk [73, 110, 116] [] 0
def awS : Ty := .mk [77, 97, 112] [.mk [97] [] 0, .mk [76, 105, 115, 116] [awI] 0] 0

end Go.Pv

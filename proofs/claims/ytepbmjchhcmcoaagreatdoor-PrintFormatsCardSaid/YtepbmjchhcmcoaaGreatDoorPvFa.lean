import Derived.Test.YtepbmjchhcmcoaaGreatDoorPvEa
import Derived.Test.YtepbmjchhcmcoaaGreatDoorPvPb
import Derived.Test.YtepbmjchhcmcoaaGreatDoorPvP
set_option linter.all false
section
/- The package parse: an error stays; each item takes a token or fails. -/
namespace Go.Pv
open Go

theorem typeC_errS (n : Nat) {c : Cur} (h : c.err.isSome = true) : (typeC n c).2.err.isSome = true := by
  cases n with
  | zero => exact h
  | succ n =>
    have h1 := Cur.err_name h
    rw [typeC, targsC, if_neg (by rw [Cur.err_next h1]; exact Bool.false_ne_true)]
    exact h1
section
variable {rT : Cur → Ty × Cur} (hT : ∀ c, (rT c).2.l <:+ c.l) (hTe : ∀ c : Cur, c.err.isSome = true → (rT c).2.err.isSome = true)
include hTe
theorem itemC_err {c : Cur} (h : c.err.isSome = true) : (itemC rT c).2.err.isSome = true := hTe _ (Cur.err_name h)
theorem pairsC_err (e : Str) (m : Nat) {c : Cur} (h : c.err.isSome = true) : (pairsC rT e m c).2.err.isSome = true := by
  cases m with
  | zero => exact h
  | succ m =>
    have h1 := itemC_err hTe h
    rw [pairsC, if_neg (by rw [Cur.err_next h1]; exact Bool.false_ne_true)]
    exact Cur.err_must h1 e
theorem formalsC_err {c : Cur} (h : c.err.isSome = true) : (formalsC rT c).2.err.isSome = true := by
  rw [formalsC, if_neg (by rw [Cur.err_next h]; exact Bool.false_ne_true)]; exact h
theorem parC_err {c : Cur} (h : c.err.isSome = true) : (parC rT c).2.err.isSome = true := by
  have h1 := Cur.err_must h [40]
  rw [parC, if_neg (by rw [Cur.err_next h1]; exact Bool.false_ne_true)]
  exact pairsC_err hTe _ _ h1
theorem sigC_err2 {c : Cur} (h : c.name.err.isSome = true) : (sigC rT c).2.err.isSome = true := hTe _ (parC_err hTe (formalsC_err hTe h))
include hT
theorem itemC_prog (c : Cur) : (itemC rT c).2.err.isSome = true ∨ (itemC rT c).2.l.length + 1 ≤ c.l.length := by
  rcases c.name_or with h | h
  · exact .inl (hTe _ h)
  · have := (itemC_suf2 hT c).length_le
    right; omega
theorem sigC_prog (c : Cur) : (sigC rT c).2.err.isSome = true ∨ (sigC rT c).2.l.length + 1 ≤ c.l.length := by
  rcases c.name_or with h | h
  · exact .inl (sigC_err2 hTe h)
  · have := (sigC_suf2 hT c).length_le
    right; omega
end
theorem untilC_err {α : Type} (rd : Cur → α × Cur) (m : Nat) {c : Cur} (h : c.err.isSome = true) : untilC rd m c = ([], c) := by
  cases m with
  | zero => rfl
  | succ m => rw [untilC, if_neg (by rw [Cur.err_next h]; exact Bool.false_ne_true), if_pos h]
theorem untilC_end {α : Type} (rd : Cur → α × Cur) (m : Nat) {c : Cur} (h : c.next [125] = true) : untilC rd (m + 1) c = ([], c.adv) := by rw [untilC, if_pos h]
theorem untilC_go {α : Type} (rd : Cur → α × Cur) (m : Nat) {c : Cur} (h : c.next [125] = false) (h2 : c.err.isSome = false) : untilC rd (m + 1) c = ((rd c).1 :: (untilC rd m ((rd c).2.must [59])).1, (untilC rd m ((rd c).2.must [59])).2) := by
  rw [untilC, if_neg (by rw [h]; exact Bool.false_ne_true), if_neg (by rw [h2]; exact Bool.false_ne_true)]
theorem until_next {α : Type} {rd : Cur → α × Cur} {c : Cur} {m : Nat} (hp : (rd c).2.err.isSome = true ∨ (rd c).2.l.length + 1 ≤ c.l.length) (hm : c.l.length < m + 1) : ((rd c).2.must [59]).err.isSome = false → ((rd c).2.must [59]).l.length < m := fun h => by
  rcases hp with h1 | h1
  · rw [Cur.err_must h1] at h; cases h
  · have := Cur.must_len (rd c).2 [59]
    omega
theorem pairsC_count {rT : Cur → Ty × Cur} (e : Str) : ∀ (m : Nat) (c : Cur), (pairsC rT e m c).1.length ≤ m
  | 0, c => Nat.le_refl _
  | m + 1, c => by
    rw [pairsC]
    split
    · have := pairsC_count (rT := rT) e m (itemC rT c).2.adv
      simp; omega
    · simp
theorem untilF_suf {α : Type} {rd : Cur → α × Cur} (h : ∀ c, (rd c).2.l <:+ c.l) (c : Cur) : (untilF rd c).2.l <:+ c.l := untilC_suf h _ _
theorem next_ok {c : Cur} {s : Str} (h : c.next s = true) : c.err.isSome = false := by
  have := (Cur.next_cons h).1
  rw [this]; rfl

end Go.Pv
end

section
/- Functions that read with an object that a frozen box leads to. -/
namespace Go.Pv
open Go

def ValidD (P : Program) (gl : Gl) (f : FuncId) (args : List AV) (b : Nat) (c : List AV) (r : AV) (c' : List AV) : Prop :=
  ValidH P gl f args [(b, c)] fun r' sh' => r' = r ∧ sh' = [(b, c')]

theorem validD_of {P : Program} {gl : Gl} {f : FuncId} {fn : Func} {cd : Code} {args : List AV} {b : Nat} {c c' : List AV} {r : AV} (hint : List (Nat × Nat)) (hf : P.funcs[f]? = some fn) (hb : fn.body = some cd) (hok : fnOk P f = true)
    (h : AT P gl cd (entry fn args [(b, c)] hint) (done P fn fun r' s => r' = r ∧ look b s.sh = some c')) (hy : gl.y = none := by rfl) : ValidD P gl f args b c r c' := by
  refine validH_of hint hf hb hok (AT_mono h fun e s hs => ?_) hy
  have key : (∃ r', resOk P fn s r' ∧ r' = r ∧ look b s.sh = some c') → ∃ r', resOk P fn s r' ∧ ∃ sh', (∀ b' cl, look b' sh' = some cl → look b' s.sh = some cl) ∧ (∀ b', (look b' [(b, c)]).isSome = true → (look b' sh').isSome = true) ∧ r' = r ∧ sh' = [(b, c')] :=
    fun ⟨r', h1, h2, h3⟩ => ⟨r', h1, [(b, c')], fun b' cl h => (by
      simp only [look] at h
      split at h
      · rename_i he; subst he; injection h with h; subst h; exact h3
      · cases h), fun b' h => (by
      simp only [look] at h ⊢
      split
      · rfl
      · rename_i hne; simp [hne] at h), h2, rfl⟩
  cases e with
  | normal => exact key hs
  | ret => exact key hs
  | exit id => exact hs
  | goto l => exact hs
  | panic ch => exact hs
  | outgrown => exact hs

section
variable {P : Program} {gl : Gl} {ops : Array Oper} {o : Oper} {rest : List Oper} {σ : AS} {K : AS → Prop}
theorem RVn_callD {f : FuncId} {args : List AV} {b : Nat} {c c' : List AV} {r : AV} (h : ValidD P gl f args b c r c') (hsh : σ.sh = [(b, c)]) (k : RV P gl ops rest ({ σ with sh := [(b, c')] }.put o.dst (.v r none)) K) (hy : gl.y = none := by rfl) :
    RVn P gl ops true (some true) (.call f args) o rest σ K := by
  unfold RVn
  simp only [orV, true_and]
  exact .inl ⟨hy, [(b, c)], _, id, ⟨fun sh' b' c' h => by rw [look_append]; rw [show look b' sh' = some c' from h]; rfl, fun b' c' h => by rw [hsh]; exact h⟩, h, fun r' sh' hp => by obtain ⟨rfl, rfl⟩ := hp; exact k⟩
end
end Go.Pv
end

section
/- Texts of declarations and programs. -/
namespace Go.Pv
open Go

def txF (f : Fm) : Str := f.name ++ [32] ++ txt f.ty
def fmsT (l : List Fm) : Str := if l.isEmpty then [] else [91] ++ Lib.join (l.map txF) [44, 32] ++ [93]
def varsT (l : List Str) : Str := if l.isEmpty then [] else [91] ++ Lib.join l [44, 32] ++ [93]
def sigT (s : Sg) : Str := s.name ++ fmsT s.fms ++ [40] ++ Lib.join (s.pms.map txF) [44, 32] ++ [41, 32] ++ txt s.res
def lineT (l : Str) : Str := [9] ++ l ++ [10]
def blockT (f : Str) (ls : List Str) : Str := f ++ [32, 123, 10] ++ (ls.map lineT).flatten ++ [125]
def wFn : Str := [102, 117, 110, 99, 32, 40]
def wTy : Str := [116, 121, 112, 101, 32]
def wRet : Str := [114, 101, 116, 117, 114, 110, 32]
def wHead : Str := [112, 97, 99, 107, 97, 103, 101, 32, 109, 97, 105, 110, 59, 10]
def wFm : Str := [102, 117, 110, 99, 32, 109, 97, 105, 110, 40, 41]
def frontT (d : Dc) : Str :=
  if d.kind = 1 then wTy ++ d.name ++ fmsT d.fms ++ [32, 115, 116, 114, 117, 99, 116]
  else if d.kind = 2 then wTy ++ d.name ++ fmsT d.fms ++ [32, 105, 110, 116, 101, 114, 102, 97, 99, 101]
  else wFn ++ d.recv ++ [32] ++ d.name ++ varsT d.vars ++ [41, 32] ++ sigT d.sig
def lnF (f : Fm) : Str := txF f ++ [59]
def lnG (s : Sg) : Str := sigT s ++ [59]
def linesT (d : Dc) : List Str := if d.kind = 1 ∨ d.kind = 2 then d.flds.map lnF ++ d.sigs.map lnG else [wRet ++ txtE d.body]
def declT (d : Dc) : Str := blockT (frontT d) (linesT d) ++ [59, 10]
def mainT (e : Exp) : Str := blockT wFm [[95, 32, 61, 32] ++ txtE e] ++ [10]
def progT (p : Pg) : Str := wHead ++ Lib.join (p.decls.map declT) [] ++ blockT wFm [[95, 32, 61, 32] ++ txtE p.main] ++ [10]

theorem join_len2 (l : List Str) (sep : Str) : (Lib.join l sep).length ≤ (l.map fun s => s.length + sep.length).sum := by
  cases l with
  | nil => simp [Lib.join_nil]
  | cons x r =>
    rw [Lib.join_cons, List.length_append, Lib.joinTail_length]
    have : ∀ r : List Str, sep.length * r.length + Lib.lens r = (r.map fun s => s.length + sep.length).sum := fun r => by
      induction r with
      | nil => simp [Lib.lens]
      | cons y r ih =>
        simp only [Lib.lens, List.map_cons, List.sum_cons, List.length_cons, Nat.mul_succ] at ih ⊢
        omega
    rw [this]
    simp <;> omega
theorem txF_wt (f : Fm) : (txF f).length + 2 ≤ 5 * wtF f := by
  have := txt_wt f.ty
  simp only [txF, List.length_append, List.length_cons, List.length_nil, wtF]
  omega
theorem txFs_wt : ∀ l : List Fm, ((l.map txF).map fun s => s.length + 2).sum ≤ 5 * wtFs l
  | [] => by simp [wtFs]
  | f :: r => by
    have h1 := txFs_wt r
    have h2 := txF_wt f
    simp only [List.map_cons, List.sum_cons, wtFs]
    omega
theorem joinF_wt (l : List Fm) : (Lib.join (l.map txF) [44, 32]).length ≤ 5 * wtFs l := Nat.le_trans (join_len2 _ _) (txFs_wt l)
theorem fmsT_wt (l : List Fm) : (fmsT l).length ≤ 5 * wtFs l + 2 := by
  unfold fmsT
  split
  · simp
  · have := joinF_wt l
    simp; omega
theorem sigT_wt (s : Sg) : (sigT s).length + 4 ≤ 20 * wtG s := by
  have h1 := fmsT_wt s.fms
  have h2 := joinF_wt s.pms
  have h3 := txt_wt s.res
  simp only [sigT, List.length_append, List.length_cons, List.length_nil, wtG]
  omega
theorem varsT_wt (l : List Str) : (Lib.join l [44, 32]).length ≤ 2 * wtSs l := by
  refine Nat.le_trans (join_len2 _ _) ?_
  induction l with
  | nil => simp [wtSs]
  | cons x r ih =>
    simp only [List.map_cons, List.sum_cons, wtSs, List.length_cons, List.length_nil] at ih ⊢
    omega
theorem linesF_wt : ∀ l : List Fm, ((l.map lnF).map lineT).flatten.length ≤ 5 * wtFs l + 3 * l.length
  | [] => by simp [wtFs]
  | f :: r => by
    have h1 := linesF_wt r
    have h2 := txF_wt f
    simp only [List.map_cons, List.flatten_cons, List.length_append, List.length_cons, wtFs]
    have : (lineT (lnF f)).length = (txF f).length + 3 := by simp [lineT, lnF]
    omega
theorem linesG_wt : ∀ l : List Sg, ((l.map lnG).map lineT).flatten.length ≤ 20 * wtGs l
  | [] => by simp [wtGs]
  | f :: r => by
    have h1 := linesG_wt r
    have h2 := sigT_wt f
    simp only [List.map_cons, List.flatten_cons, List.length_append, wtGs]
    have : (lineT (lnG f)).length = (sigT f).length + 3 := by simp [lineT, lnG]
    omega
theorem declT_wt (d : Dc) : (declT d).length ≤ 100 * wtD d := by
  have h1 := fmsT_wt d.fms
  have h2 := linesF_wt d.flds
  have h3 := linesG_wt d.sigs
  have h4 := varsT_wt d.vars
  have h5 := sigT_wt d.sig
  have h6 := txtE_wt d.body
  have h7 := wtFs_len d.flds
  have h8 : (varsT d.vars).length ≤ 2 * wtSs d.vars + 2 := by
    unfold varsT
    split
    · simp
    · simp; omega
  have hf : (frontT d).length + 10 ≤ 50 * wtD d := by
    unfold frontT wtD
    split
    · simp [wTy]; omega
    · split
      · simp [wTy]; omega
      · simp [wFn]; omega
  have hl : ((linesT d).map lineT).flatten.length + 10 ≤ 50 * wtD d := by
    unfold linesT wtD
    split
    · rw [List.map_append, List.flatten_append, List.length_append]; omega
    · simp [lineT, wRet]; omega
  simp only [declT, blockT, List.length_append, List.length_cons, List.length_nil]
  omega
theorem joinD_wt (l : List Dc) : (Lib.join (l.map declT) []).length ≤ 100 * wtDs l := by
  refine Nat.le_trans (join_len2 _ _) ?_
  induction l with
  | nil => simp [wtDs]
  | cons x r ih =>
    have := declT_wt x
    simp only [List.map_cons, List.sum_cons, wtDs, List.length_nil] at ih ⊢
    omega

def bodyLen (ls : List Str) : Nat := (ls.map lineT).flatten.length
@[simp] theorem blockT_len (f : Str) (ls : List Str) : (blockT f ls).length = f.length + 4 + bodyLen ls := by
  simp only [blockT, bodyLen, List.length_append, List.length_cons, List.length_nil]; omega
theorem bodyLen_one (l : Str) : bodyLen [l] = l.length + 2 := by simp [bodyLen, lineT]
theorem bodyLen_d (a : List Fm) (b : List Sg) : bodyLen (a.map lnF ++ b.map lnG) ≤ 5 * wtFs a + 3 * a.length + 20 * wtGs b := by
  have h1 := linesF_wt a
  have h2 := linesG_wt b
  rw [bodyLen, List.map_append, List.flatten_append, List.length_append]; omega
theorem ne_of_isEmpty {α : Type} {l : List α} (h : l.isEmpty = false) : l ≠ [] := fun he => by subst he; cases h
@[simp] theorem rowsS_map {α : Type} (f : α → Str) (l : List α) : Rows 1 (l.map (encS ∘ f)) := fun r hr => by
  obtain ⟨x, -, rfl⟩ := List.mem_map.1 hr
  exact ⟨rfl, rfl⟩
@[simp] theorem rowsS_take {α : Type} (f : α → Str) (l : List α) (k : Nat) : Rows 1 (List.take k (l.map (encS ∘ f))) := fun r hr => by
  obtain ⟨x, -, rfl⟩ := List.mem_map.1 (List.mem_of_mem_take hr)
  exact ⟨rfl, rfl⟩

theorem join_take (l : List Str) (sep : Str) (k : Nat) (hk : k < l.length) : Lib.join (l.take (k + 1)) sep = if k = 0 then l[k] else Lib.join (l.take k) sep ++ sep ++ l[k] := by
  rw [List.take_succ_eq_append_getElem hk, join_snoc]
  by_cases h : k = 0
  · subst h; simp
  · rw [if_neg h, if_neg]
    intro h2
    have := congrArg List.length h2
    rw [List.length_take, List.length_nil] at this
    omega
theorem join_empty (l : List Str) : Lib.join l [] = l.flatten := by
  cases l with
  | nil => rfl
  | cons x r => rw [Lib.join_cons, Lib.joinTail, List.flatten_cons]; simp

end Go.Pv
end

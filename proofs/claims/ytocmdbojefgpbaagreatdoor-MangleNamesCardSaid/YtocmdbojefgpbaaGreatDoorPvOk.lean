import Derived.Test.YtocmdbojefgpbaaGreatDoorPvPb
import Derived.Test.YtocmdbojefgpbaaGreatDoorPvP
set_option linter.all false
section
/- Functions that read with an object that a frozen box leads to. -/
namespace Go.Pv
open Go

def ValidD (P : Program) (gl : Gl) (f : FuncId) (args : List AV) (b : Nat) (c : List AV) (r : AV) (c' : List AV) : Prop :=
  ValidH P gl f args [(b, c)] fun r' sh' => r' = r ∧ sh' = [(b, c')]

section
variable {P : Program} {gl : Gl} {ops : Array Oper} {o : Oper} {rest : List Oper} {σ : AS} {K : AS → Prop}
end
end Go.Pv
end

section
/- Maps with known entries: a function that hands one back, and the range over one. -/
namespace Go.Pv
open Go

def SpecOp (P : Program) (gl : Gl) (ops : Array Oper) (o : Oper) (σ : AS) (S : AS → Prop) : Prop :=
  ∀ (cx : Cx) (ro : Option Nat) (n : Nat) (Q : Exit → Act → World → Prop) (i : Nat) (a : Act) (w : World), cx.P = P → cx.gl = gl → ops[i]? = some o → R cx σ a w → wpOpIn (Fw ro) n cx.P ops Q i (fun a' w' => ∃ σ', S σ' ∧ R cx σ' a' w') a w
def RVx (P : Program) (gl : Gl) (ops : Array Oper) : List Oper → AS → (AS → Prop) → Prop
  | [], σ, K => K σ
  | o :: rest, σ, K => nextV P gl ops o σ (fun σ' => RVx P gl ops rest σ' K) ∨ (∃ S, SpecOp P gl ops o σ S ∧ ∀ σ', S σ' → RVx P gl ops rest σ' K) ∨ RV P gl ops (o :: rest) σ K
theorem RVx_sound {cx : Cx} {ro : Option Nat} {n : Nat} {ops : Array Oper} {Q : Exit → Act → World → Prop} {K : AS → Prop} (hQ : ∀ σ a w, K σ → R cx σ a w → Q .normal a w) :
    ∀ (l : List Oper) (k : Nat) (σ : AS) (a : Act) (w : World), (∀ j, l[j]? = ops[k + j]?) → R cx σ a w → RVx cx.P cx.gl ops l σ K → wpOpsIn (Fw ro) n cx.P ops Q (List.range' k l.length) a w
  | [], k, σ, a, w, _, r, h => hQ σ a w h r
  | o :: l, k, σ, a, w, hl, r, h => by
    have h0 : ops[k]? = some o := by simpa using (hl 0).symm
    have hl' : ∀ j, l[j]? = ops[k + 1 + j]? := fun j => by have := hl (j + 1); simpa [Nat.add_assoc, Nat.add_comm 1 j] using this
    rcases h with h | ⟨S, h1, h2⟩ | h
    · rw [List.length_cons, List.range'_succ, wpOpsIn_cons]
      refine wpOpIn_mono (fun a' w' hh => ?_) (opIn_sound (ro := ro) (n := n) (Q := Q) h0 r h)
      obtain ⟨σ', hk, r'⟩ := hh
      exact RVx_sound hQ l (k + 1) σ' a' w' hl' r' hk
    · rw [List.length_cons, List.range'_succ, wpOpsIn_cons]
      refine wpOpIn_mono (fun a' w' hh => ?_) (h1 cx ro n Q k a w rfl rfl h0 r)
      obtain ⟨σ', hk, r'⟩ := hh
      exact RVx_sound hQ l (k + 1) σ' a' w' hl' r' (h2 σ' hk)
    · exact RV_sound hQ (o :: l) k σ a w hl r h
section
variable {P : Program} {gl : Gl} {σ : AS} {Q : Exit → AS → Prop}
theorem AT_regionX {id : Nat} {l : List Oper} (h : RVx P gl l.toArray l σ (Q .normal)) : AT P gl (.region id l.toArray false) σ Q := by
  intro cx ro n a w hP hg hro r
  subst hP; subst hg
  refine wpIn_region ?_
  have := RVx_sound (ro := ro) (n := n) (K := Q .normal) (Q := fun e a' w' => ∃ σ', Q e σ' ∧ R cx σ' a' w') (fun s a w hk r => ⟨s, hk, r⟩) l.toArray.toList 0 σ a w (by simp) r h
  rw [List.range_eq_range']
  simpa using this
theorem AT_seq_regionX {id : Nat} {l : List Oper} {y : Code} (h : RVx P gl l.toArray l σ fun s => AT P gl y s Q) : AT P gl (.seq (.region id l.toArray false) y) σ Q :=
  AT_seq (AT_regionX h)
end

variable {cx : Cx} {gh : Gh} {σ : AS} {a : Act} {w : World} {o : Oper}
def ValidM (P : Program) (gl : Gl) (f : FuncId) (args : List AV) (es : List (List UInt8 × Nat)) : Prop :=
  fnOk P f = true ∧ ∀ (lim : Lim) (w : World) (cargs : List Value), GlOk gl lim w.heap → RepL lim w.heap cargs args →
    Calls P f cargs.toArray w fun e w' => ∃ r, e = .returned (.map (some r)) ∧ w.heap.size ≤ r ∧ w'.heap[r]? = some (.map (entries es) es.length) ∧ Frm w.heap.size (fun _ => False) w w'
theorem RVx_spec {P : Program} {gl : Gl} {ops : Array Oper} {K : AS → Prop} {o : Oper} {l : List Oper} {σ : AS} {S : AS → Prop} (h : SpecOp P gl ops o σ S) (k : ∀ σ', S σ' → RVx P gl ops l σ' K) : RVx P gl ops (o :: l) σ K := .inr (.inl ⟨S, h, k⟩)
end Go.Pv
end

section
/- A nil slice that is stored into a box's cell, known as nil. -/
namespace Go.Pv
open Go
theorem spec_storeNil {P : Program} {gl : Gl} {ops : Array Oper} {o : Oper} {σ : AS} {t k off : Nat} {x : Operand} {cells : List AV} (ho : o.op = .store t x (.const (.slice none 0 0))) (hdd : o.dst = none) (hg : guardB ops o σ = some true) (hx : Pv.ev gl σ x = .lp k off)
    (hk : look k σ.bx = some cells) (hi : (P.info? t).isSome = true) (hz : esz P t = 1) (hfit : off + 1 ≤ cells.length) (hy : gl.y = none) :
    SpecOp P gl ops o σ fun σ' => σ' = { σ with bx := (k, splice cells off [.nilS]) :: σ.bx, tb := clr σ.tb k off 1 } := by
  intro cx ro n Q i a w hP hgl hi' r
  subst hP; subst hgl
  obtain ⟨gh, r⟩ := r
  have hdefer : ∀ c, o.op ≠ .defer c := fun c hc => by rw [ho] at hc; cases hc
  have hw := wanted_of r hg
  unfold wpOpIn
  simp only [hi']
  rw [hw]
  simp only [if_true]
  have hxv := r.ev x
  rw [hx] at hxv
  have he : a.eval x = .pointer (some ⟨gh.bl k, off, none⟩) := hxv
  obtain ⟨cur, e, hcur, hfit2, r2⟩ := r.store hy k off hk [.slice none 0 0] [.nilS] (RepL.cons .nilS (RepL.nil _ _)) (by simpa using hfit) none (fun p hp => by cases hp)
  have hrun := run_storeVar (P := cx.P) (t := t) (v := .slice none 0 0) hcur (by rw [hz]; rfl) hi (by simpa [Value.cells] using hfit2) (fun u hu => by simp [Value.cells] at hu; subst hu; rfl)
  refine ⟨fun _ _ => trivial, ?_⟩
  rw [Oper.semAt_eq _ _ _ hdefer]
  have hr : (execOp a.eval o).run cx.P w = .ok .skip (w.setRow (gh.bl k) (cur.toList.take off ++ [Value.slice none 0 0] ++ cur.toList.drop (off + 1)).toArray) := by
    have h1 : execOp a.eval o = (do storeVar t ⟨gh.bl k, off, none⟩ (a.eval (.const (.slice none 0 0))); pure .skip) := by simp [execOp, ho, he, Instr.storeAt, Instr.sureAddr]
    rw [h1, show a.eval (.const (.slice none 0 0)) = Value.slice none 0 0 from rfl]
    simp only [Sem.run_bind, hrun, Result.andThen_ok, Sem.run_pure]
    rfl
  rw [hr]
  refine ⟨_, rfl, gh, ?_⟩
  rw [hdd]
  exact r2
end Go.Pv
end

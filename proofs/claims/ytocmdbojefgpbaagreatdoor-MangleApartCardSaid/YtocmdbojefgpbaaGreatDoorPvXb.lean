import Derived.Test.YtocmdbojefgpbaaGreatDoorPvOg
import Derived.Test.YtocmdbojefgpbaaGreatDoorPvMe
import Derived.Test.YtocmdbojefgpbaaGreatDoorPvDb
set_option linter.all false
section
/- A nil slice that is stored into a box's cell, known as nil. -/
namespace Go.Pv
open Go
theorem spec_storeNil {P : Program} {gl : Gl} {ops : Array Oper} {o : Oper} {σ : AS} {t k off : Nat} {x : Operand} {cells : List AV} (ho : o.op = .store t x (.const (.slice none 0 0))) (hdd : o.dst = none) (hg : guardB ops o σ = some true) (hx : Pv.ev gl σ x = .lp k off)
    (hk : look k σ.bx = some cells) (hi : (P.info? t).isSome = true) (hz : esz P t = 1) (hfit : off + 1 ≤ cells.length) (hy : gl.y = none) :
    SpecOp P gl ops o σ fun σ' => σ' = { σ with bx := (k, splice cells off [.nilS]) :: σ.bx, tb := clr σ.tb k off 1 } := by
  intro cx ro n Q i a w hP hgl hi' r
  subst hP; subst hgl
  obtain ⟨gh, r⟩ := r
  have hdefer : ∀ c, o.op ≠ .defer c := fun c hc => by rw [ho] at hc; cases hc
  have hw := wanted_of r hg
  unfold wpOpIn
  simp only [hi']
  rw [hw]
  simp only [if_true]
  have hxv := r.ev x
  rw [hx] at hxv
  have he : a.eval x = .pointer (some ⟨gh.bl k, off, none⟩) := hxv
  obtain ⟨cur, e, hcur, hfit2, r2⟩ := r.store hy k off hk [.slice none 0 0] [.nilS] (RepL.cons .nilS (RepL.nil _ _)) (by simpa using hfit) none (fun p hp => by cases hp)
  have hrun := run_storeVar (P := cx.P) (t := t) (v := .slice none 0 0) hcur (by rw [hz]; rfl) hi (by simpa [Value.cells] using hfit2) (fun u hu => by simp [Value.cells] at hu; subst hu; rfl)
  refine ⟨fun _ _ => trivial, ?_⟩
  rw [Oper.semAt_eq _ _ _ hdefer]
  have hr : (execOp a.eval o).run cx.P w = .ok .skip (w.setRow (gh.bl k) (cur.toList.take off ++ [Value.slice none 0 0] ++ cur.toList.drop (off + 1)).toArray) := by
    have h1 : execOp a.eval o = (do storeVar t ⟨gh.bl k, off, none⟩ (a.eval (.const (.slice none 0 0))); pure .skip) := by simp [execOp, ho, he, Instr.storeAt, Instr.sureAddr]
    rw [h1, show a.eval (.const (.slice none 0 0)) = Value.slice none 0 0 from rfl]
    simp only [Sem.run_bind, hrun, Result.andThen_ok, Sem.run_pure]
    rfl
  rw [hr]
  refine ⟨_, rfl, gh, ?_⟩
  rw [hdd]
  exact r2
end Go.Pv
end

section
/- From data to declarations and programs. -/
namespace Go.Pv
open Go

structure DTys (P : Program) where
  S : Nat
  I : Nat
  L : Nat
  T : Nat
  X : Nat
  E : Nat
  SL : Nat
  FL : Nat
  F : Nat
  QL : Nat
  Q : Nat
  GL : Nat
  G : Nat
  hS : P.underlying S = some .string
  hI : P.underlying I = some (.int .i64)
  hL : P.underlying L = some (.slice T)
  hF : ftypes P T = some [S, L, I]
  hb : 0 < P.bytesOf T
  hX : P.underlying X = some (.slice E)
  hE : ftypes P E = some [I, S, T, L, X, I]
  hbe : 0 < P.bytesOf E
  hSL : P.underlying SL = some (.slice S)
  hbs : 0 < P.bytesOf S
  hFL : P.underlying FL = some (.slice F)
  hFF : ftypes P F = some [S, T, I]
  hbf : 0 < P.bytesOf F
  hQL : P.underlying QL = some (.slice Q)
  hQQ : ftypes P Q = some [S, T, I]
  hbq : 0 < P.bytesOf Q
  hGL : P.underlying GL = some (.slice G)
  hGG : ftypes P G = some [S, FL, QL, T, I]
  hbg : 0 < P.bytesOf G

section
variable {H : Type} {P : Program}

end
end Go.Pv
end

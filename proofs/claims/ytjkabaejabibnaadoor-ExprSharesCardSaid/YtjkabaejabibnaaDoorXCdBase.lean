/- The types, the listed variables and the closed facts that the cards of this translation share. -/
import Derived.Test.YtjkabaejabibnaaDoorRows
import Derived.Test.YtjkabaejabibnaaDoorCards
import Derived.Test.YtjkabaejabibnaaDoorTie
import Derived.Test.YtjkabaejabibnaaDoorPvMb
import Derived.Test.YtjkabaejabibnaaDoorPvY
import Derived.Test.YtjkabaejabibnaaDoorPvLb
import Derived.Test.YtjkabaejabibnaaDoorPvMe
set_option linter.all false
set_option maxRecDepth 100000
namespace Go.Proofs.YtjkabaejabibnaaDoor
open Go Go.Pv Go.ChangeShapes Go.WideShapes Go.RowKit
theorem cdOwn : ownKnob Tryd.prog.godebug = none := by kernel_rfl
def cdT : List Nat := [4, 5, 3, 78, 9, 24, 22, 33, 103, 27, 25]
theorem cdPlain : (cdT.all fun t => plainT Tryd.prog cdT t) = true := by kernel_rfl
theorem cdLaidOut : laidOutB Tryd.prog = true := by kernel_rfl
theorem cdS : Tryd.prog.underlying 9 = some .string := by kernel_rfl
theorem cdI : Tryd.prog.underlying 3 = some (.int .i64) := by kernel_rfl
theorem cdB : Tryd.prog.underlying 4 = some .bool := by kernel_rfl
theorem cdL : Tryd.prog.underlying 22 = some (.slice 24) := by kernel_rfl
theorem cdF : ftypes Tryd.prog 24 = some [9, 22, 3] := by kernel_rfl
theorem cdTb : 0 < Tryd.prog.bytesOf 24 := by rw [show Tryd.prog.bytesOf 24 = 48 by kernel_rfl]; decide
theorem cdLE : Tryd.prog.underlying 25 = some (.slice 27) := by kernel_rfl
theorem cdFE : ftypes Tryd.prog 27 = some [3, 9, 24, 22, 25, 3] := by kernel_rfl
theorem cdEb : 0 < Tryd.prog.bytesOf 27 := by rw [show Tryd.prog.bytesOf 27 = 128 by kernel_rfl]; decide
def cdG : Nat → Option (List AV) := fun i => if i = 0 then some reservedA else none
theorem cdRes : cdG 0 = some reservedA := rfl
theorem cdGl {w : World} (h : laidMetH Tryd.prog Rows.exprSharesRow.laid w) : GlOk (G0 cdG false) allL w.heap := by
  have h0 : laidMet Tryd.prog Rows.exprSharesRow.laid w := by
    rw [MakeChecks.laidMetH_plain _ _ _ (by kernel_rfl)] at h
    exact h
  intro i c hc
  simp only [Gz_g, cdG] at hc
  split at hc
  · rename_i hi
    subst hi
    injection hc with hc
    subst hc
    · exact laid_head cdPlain (t := 103) (by kernel_rfl) (by kernel_rfl) (by kernel_rfl) h0
  cases hc
theorem cdMet (os : Os) (args : Array Value) : laidMetH Tryd.prog Rows.exprSharesRow.laid ((World.doorLaid Tryd.prog 14 os).forCall (fun _ _ => 0) ⟨#[], args, []⟩).memory :=
  laidMetH_of_parts3 (fuel := 8) (laidMet_of_run' 8 (by kernel_rfl) (by kernel_rfl)) (by kernel_rfl) (by kernel_rfl)
end Go.Proofs.YtjkabaejabibnaaDoor

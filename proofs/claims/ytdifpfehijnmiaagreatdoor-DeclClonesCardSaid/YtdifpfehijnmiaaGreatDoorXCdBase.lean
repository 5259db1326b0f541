/- The types, the listed variables and the closed facts that the cards of this translation share. -/
import Derived.Test.YtdifpfehijnmiaaGreatDoorRows
import Derived.Test.YtdifpfehijnmiaaGreatDoorCards
import Derived.Test.YtdifpfehijnmiaaGreatDoorTie
import Derived.Test.YtdifpfehijnmiaaGreatDoorPvMb
import Derived.Test.YtdifpfehijnmiaaGreatDoorPvY
import Derived.Test.YtdifpfehijnmiaaGreatDoorPvLb
import Derived.Test.YtdifpfehijnmiaaGreatDoorPvMe
import Derived.Test.YtdifpfehijnmiaaGreatDoorPvXb
set_option linter.all false
set_option maxRecDepth 100000
namespace Go.Proofs.YtdifpfehijnmiaaGreatDoor
open Go Go.Pv Go.ChangeShapes Go.WideShapes Go.RowKit
theorem cdOwn : ownKnob Tryz.prog.godebug = none := by kernel_rfl
def cdT : List Nat := [4, 5, 3, 148, 9, 28, 26, 25, 122, 33, 31, 51, 22, 53, 23, 30, 24, 35, 38, 40]
theorem cdPlain : (cdT.all fun t => plainT Tryz.prog cdT t) = true := by kernel_rfl
theorem cdLaidOut : laidOutB Tryz.prog = true := by kernel_rfl
theorem cdS : Tryz.prog.underlying 9 = some .string := by kernel_rfl
theorem cdI : Tryz.prog.underlying 3 = some (.int .i64) := by kernel_rfl
theorem cdB : Tryz.prog.underlying 4 = some .bool := by kernel_rfl
theorem cdL : Tryz.prog.underlying 26 = some (.slice 28) := by kernel_rfl
theorem cdF : ftypes Tryz.prog 28 = some [9, 26, 3] := by kernel_rfl
theorem cdTb : 0 < Tryz.prog.bytesOf 28 := by rw [show Tryz.prog.bytesOf 28 = 48 by kernel_rfl]; decide
theorem cdLE : Tryz.prog.underlying 31 = some (.slice 33) := by kernel_rfl
theorem cdFE : ftypes Tryz.prog 33 = some [3, 9, 28, 26, 31, 3] := by kernel_rfl
theorem cdEb : 0 < Tryz.prog.bytesOf 33 := by rw [show Tryz.prog.bytesOf 33 = 128 by kernel_rfl]; decide
def cdDT : DTys Tryz.prog := { S := 9, I := 3, L := 26, T := 28, X := 31, E := 33, SL := 25, FL := 22, F := 51, QL := 23, Q := 53, GL := 24, G := 30, hS := cdS, hI := cdI, hL := cdL, hF := cdF, hb := cdTb, hX := cdLE, hE := cdFE, hbe := cdEb, hSL := by kernel_rfl, hbs := (by rw [show Tryz.prog.bytesOf 9 = 16 by kernel_rfl]; decide), hFL := by kernel_rfl, hFF := by kernel_rfl, hbf := (by rw [show Tryz.prog.bytesOf 51 = 72 by kernel_rfl]; decide), hQL := by kernel_rfl, hQQ := by kernel_rfl, hbq := (by rw [show Tryz.prog.bytesOf 53 = 72 by kernel_rfl]; decide), hGL := by kernel_rfl, hGG := by kernel_rfl, hbg := (by rw [show Tryz.prog.bytesOf 30 = 120 by kernel_rfl]; decide) }
theorem cdDD : ftypes Tryz.prog 35 = some [3, 9, 22, 23, 24, 9, 25, 30, 33, 3] := by kernel_rfl
theorem cdDL : Tryz.prog.underlying 38 = some (.slice 35) := by kernel_rfl
theorem cdDb : 0 < Tryz.prog.bytesOf 35 := (by rw [show Tryz.prog.bytesOf 35 = 392 by kernel_rfl]; decide)
theorem cdZ : ftypes Tryz.prog 40 = some [38, 33] := by kernel_rfl
def cdG : Nat → Option (List AV) := fun i => if i = 0 then some reservedA else none
theorem cdRes : cdG 0 = some reservedA := rfl
theorem cdGl {w : World} (h : laidMetH Tryz.prog Rows.declClonesRow.laid w) : GlOk (G0 cdG false) allL w.heap := by
  have h0 : laidMet Tryz.prog Rows.declClonesRow.laid w := by
    rw [MakeChecks.laidMetH_plain _ _ _ (by kernel_rfl)] at h
    exact h
  intro i c hc
  simp only [Gz_g, cdG] at hc
  split at hc
  · rename_i hi
    subst hi
    injection hc with hc
    subst hc
    · exact laid_head cdPlain (t := 122) (by kernel_rfl) (by kernel_rfl) (by kernel_rfl) h0
  cases hc
theorem cdMet (os : Os) (args : Array Value) : laidMetH Tryz.prog Rows.declClonesRow.laid ((World.doorLaid Tryz.prog 14 os).forCall (fun _ _ => 0) ⟨#[], args, []⟩).memory :=
  laidMetH_of_parts3 (fuel := 8) (laidMet_of_run' 8 (by kernel_rfl) (by kernel_rfl)) (by kernel_rfl) (by kernel_rfl)
end Go.Proofs.YtdifpfehijnmiaaGreatDoor

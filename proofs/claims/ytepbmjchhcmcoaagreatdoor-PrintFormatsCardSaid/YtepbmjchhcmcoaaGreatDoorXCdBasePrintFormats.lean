/- The types, the listed variables and the closed facts that the cards of this translation share. -/
import Derived.Test.YtepbmjchhcmcoaaGreatDoorRows
import Derived.Test.YtepbmjchhcmcoaaGreatDoorCards
import Derived.Test.YtepbmjchhcmcoaaGreatDoorTie
import Derived.Test.YtepbmjchhcmcoaaGreatDoorPvMb
import Derived.Test.YtepbmjchhcmcoaaGreatDoorPvY
import Derived.Test.YtepbmjchhcmcoaaGreatDoorPvLb
import Derived.Test.YtepbmjchhcmcoaaGreatDoorPvMe
import Derived.Test.YtepbmjchhcmcoaaGreatDoorPvXb
set_option linter.all false
set_option maxRecDepth 100000
namespace Go.Proofs.YtepbmjchhcmcoaaGreatDoor
open Go Go.Pv Go.ChangeShapes Go.WideShapes Go.RowKit
theorem cdOwn : ownKnob Tryz.prog.godebug = none := by kernel_rfl
def cdT : List Nat := [4, 5, 3, 9, 25, 23, 39, 220, 75, 121, 28, 26, 69, 36, 65, 37, 41, 38, 43, 22, 30]
theorem cdPlain : (cdT.all fun t => plainT Tryz.prog cdT t) = true := by kernel_rfl
theorem cdLaidOut : laidOutB Tryz.prog = true := by kernel_rfl
theorem cdS : Tryz.prog.underlying 9 = some .string := by kernel_rfl
theorem cdI : Tryz.prog.underlying 3 = some (.int .i64) := by kernel_rfl
theorem cdB : Tryz.prog.underlying 4 = some .bool := by kernel_rfl
theorem cdL : Tryz.prog.underlying 23 = some (.slice 25) := by kernel_rfl
theorem cdF : ftypes Tryz.prog 25 = some [9, 23, 3] := by kernel_rfl
theorem cdTb : 0 < Tryz.prog.bytesOf 25 := by rw [show Tryz.prog.bytesOf 25 = 48 by kernel_rfl]; decide
theorem cdLE : Tryz.prog.underlying 26 = some (.slice 28) := by kernel_rfl
theorem cdFE : ftypes Tryz.prog 28 = some [3, 9, 25, 23, 26, 3] := by kernel_rfl
theorem cdEb : 0 < Tryz.prog.bytesOf 28 := by rw [show Tryz.prog.bytesOf 28 = 128 by kernel_rfl]; decide
def cdDT : DTys Tryz.prog := { S := 9, I := 3, L := 23, T := 25, X := 26, E := 28, SL := 39, FL := 36, F := 69, QL := 37, Q := 65, GL := 38, G := 41, hS := cdS, hI := cdI, hL := cdL, hF := cdF, hb := cdTb, hX := cdLE, hE := cdFE, hbe := cdEb, hSL := by kernel_rfl, hbs := (by rw [show Tryz.prog.bytesOf 9 = 16 by kernel_rfl]; decide), hFL := by kernel_rfl, hFF := by kernel_rfl, hbf := (by rw [show Tryz.prog.bytesOf 69 = 72 by kernel_rfl]; decide), hQL := by kernel_rfl, hQQ := by kernel_rfl, hbq := (by rw [show Tryz.prog.bytesOf 65 = 72 by kernel_rfl]; decide), hGL := by kernel_rfl, hGG := by kernel_rfl, hbg := (by rw [show Tryz.prog.bytesOf 41 = 120 by kernel_rfl]; decide) }
def cdG : Nat → Option (List AV) := fun i => if i = 0 then some [.iface 177 (.agg [.gp 3 45])] else if i = 2 then some reservedA else none
theorem cdHty : cdG 0 = some [.iface 177 (.agg [.gp 3 45])] := rfl
theorem cdRes : cdG 2 = some reservedA := rfl
theorem cdGl {w : World} (h : laidMetH Tryz.prog Rows.printFormatsRow.laid w) : GlOk (G0 cdG false) allL w.heap := by
  obtain ⟨hp, hh⟩ := laidMetH_split h
  have h0 : laidMet Tryz.prog [("castings/name.reserved", Rows.laid_castings_name_reserved)] w := hp
  intro i c hc
  simp only [Gz_g, cdG] at hc
  split at hc
  · rename_i hi
    subst hi
    injection hc with hc
    subst hc
    · exact glAt_handle (sz := 251) (d := Rows.laid_errors_errorType) (nm := [101, 114, 114, 111, 114]) (by kernel_rfl) rfl rfl (by kernel_rfl) (by kernel_rfl) (by kernel_rfl) (by kernel_rfl) hh (List.Mem.head _)
  split at hc
  · rename_i hi
    subst hi
    injection hc with hc
    subst hc
    · exact laid_head cdPlain (t := 220) (by kernel_rfl) (by kernel_rfl) (by kernel_rfl) h0
  cases hc
theorem cdMet (os : Os) (args : Array Value) : laidMetH Tryz.prog Rows.printFormatsRow.laid ((World.doorLaid Tryz.prog 21 os).forCall (fun _ _ => 0) ⟨#[], args, []⟩).memory :=
  laidMetH_of_parts3 (fuel := 8) (laidMet_of_run' 8 (by kernel_rfl) (by kernel_rfl)) (by kernel_rfl) (by kernel_rfl)
end Go.Proofs.YtepbmjchhcmcoaaGreatDoor

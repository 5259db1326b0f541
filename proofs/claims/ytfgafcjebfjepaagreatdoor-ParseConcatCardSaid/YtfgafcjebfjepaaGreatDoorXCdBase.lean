/- The types, the listed variables and the closed facts that the cards of this translation share. -/
import Derived.Test.YtfgafcjebfjepaaGreatDoorRows
import Derived.Test.YtfgafcjebfjepaaGreatDoorCards
import Derived.Test.YtfgafcjebfjepaaGreatDoorTie
import Derived.Test.YtfgafcjebfjepaaGreatDoorPvMc
import Derived.Test.YtfgafcjebfjepaaGreatDoorPvLa
import Derived.Test.YtfgafcjebfjepaaGreatDoorPvLa
import Derived.Test.YtfgafcjebfjepaaGreatDoorPvRb
import Derived.Test.YtfgafcjebfjepaaGreatDoorPvXb
set_option linter.all false
set_option maxRecDepth 100000
namespace Go.Proofs.YtfgafcjebfjepaaGreatDoor
open Go Go.Pv Go.ChangeShapes Go.WideShapes Go.RowKit
theorem cdOwn : ownKnob Tryz.prog.godebug = none := by kernel_rfl
def cdT : List Nat := [4, 5, 3, 240, 9, 26, 24, 38, 199, 56, 88, 29, 27, 107, 39, 111, 40, 43, 41, 45, 23, 31]
theorem cdPlain : (cdT.all fun t => plainT Tryz.prog cdT t) = true := by kernel_rfl
theorem cdLaidOut : laidOutB Tryz.prog = true := by kernel_rfl
theorem cdS : Tryz.prog.underlying 9 = some .string := by kernel_rfl
theorem cdI : Tryz.prog.underlying 3 = some (.int .i64) := by kernel_rfl
theorem cdB : Tryz.prog.underlying 4 = some .bool := by kernel_rfl
theorem cdL : Tryz.prog.underlying 24 = some (.slice 26) := by kernel_rfl
theorem cdF : ftypes Tryz.prog 26 = some [9, 24, 3] := by kernel_rfl
theorem cdTb : 0 < Tryz.prog.bytesOf 26 := by rw [show Tryz.prog.bytesOf 26 = 48 by kernel_rfl]; decide
theorem cdLE : Tryz.prog.underlying 27 = some (.slice 29) := by kernel_rfl
theorem cdFE : ftypes Tryz.prog 29 = some [3, 9, 26, 24, 27, 3] := by kernel_rfl
theorem cdEb : 0 < Tryz.prog.bytesOf 29 := by rw [show Tryz.prog.bytesOf 29 = 128 by kernel_rfl]; decide
theorem cdLS : Tryz.prog.underlying 38 = some (.slice 9) := by kernel_rfl
theorem cdSb : 0 < Tryz.prog.bytesOf 9 := by rw [show Tryz.prog.bytesOf 9 = 16 by kernel_rfl]; decide
def cdDT : DTys Tryz.prog := { S := 9, I := 3, L := 24, T := 26, X := 27, E := 29, SL := 38, FL := 39, F := 107, QL := 40, Q := 111, GL := 41, G := 43, hS := cdS, hI := cdI, hL := cdL, hF := cdF, hb := cdTb, hX := cdLE, hE := cdFE, hbe := cdEb, hSL := by kernel_rfl, hbs := (by rw [show Tryz.prog.bytesOf 9 = 16 by kernel_rfl]; decide), hFL := by kernel_rfl, hFF := by kernel_rfl, hbf := (by rw [show Tryz.prog.bytesOf 107 = 72 by kernel_rfl]; decide), hQL := by kernel_rfl, hQQ := by kernel_rfl, hbq := (by rw [show Tryz.prog.bytesOf 111 = 72 by kernel_rfl]; decide), hGL := by kernel_rfl, hGG := by kernel_rfl, hbg := (by rw [show Tryz.prog.bytesOf 43 = 120 by kernel_rfl]; decide) }
def cdG : Nat → Option (List AV) := fun i => if i = 0 then some [.iface 221 (.agg [.gp 3 49])] else if i = 1 then some reservedA else none
theorem cdHty : cdG 0 = some [.iface 221 (.agg [.gp 3 49])] := rfl
theorem cdRes : cdG 1 = some reservedA := rfl
theorem cdGl {w : World} (h : laidMetH Tryz.prog Rows.parseMatchesReferenceRow.laid w) : GlOk (G0 cdG false) allL w.heap := by
  obtain ⟨hp, hh⟩ := laidMetH_split h
  have h0 : laidMet Tryz.prog [("castings/name.reserved", Rows.laid_castings_name_reserved)] w := hp
  intro i c hc
  simp only [Gz_g, cdG] at hc
  split at hc
  · rename_i hi
    subst hi
    injection hc with hc
    subst hc
    · exact glAt_handle (sz := 275) (d := Rows.laid_errors_errorType) (nm := [101, 114, 114, 111, 114]) (by kernel_rfl) rfl rfl (by kernel_rfl) (by kernel_rfl) (by kernel_rfl) (by kernel_rfl) hh (List.Mem.head _)
  split at hc
  · rename_i hi
    subst hi
    injection hc with hc
    subst hc
    · exact laid_head cdPlain (t := 199) (by kernel_rfl) (by kernel_rfl) (by kernel_rfl) h0
  cases hc
theorem cdMet (os : Os) (args : Array Value) : laidMetH Tryz.prog Rows.parseMatchesReferenceRow.laid ((World.doorLaid Tryz.prog 21 os).forCall (fun _ _ => 0) ⟨#[], args, []⟩).memory :=
  laidMetH_of_parts3 (fuel := 8) (laidMet_of_run' 8 (by kernel_rfl) (by kernel_rfl)) (by kernel_rfl) (by kernel_rfl)
end Go.Proofs.YtfgafcjebfjepaaGreatDoor

/- The types, the listed variables and the closed facts that the cards of this translation share. -/
import Derived.Test.YtpjkdaechknogaaGreatDoorRows
import Derived.Test.YtpjkdaechknogaaGreatDoorCards
import Derived.Test.YtpjkdaechknogaaGreatDoorTie
import Derived.Test.YtpjkdaechknogaaGreatDoorPvMa
import Derived.Test.YtpjkdaechknogaaGreatDoorPvLa
import Derived.Test.YtpjkdaechknogaaGreatDoorPvLa
import Derived.Test.YtpjkdaechknogaaGreatDoorPvMd
set_option linter.all false
set_option maxRecDepth 100000
namespace Go.Proofs.YtpjkdaechknogaaGreatDoor
open Go Go.Pv Go.ChangeShapes Go.WideShapes Go.RowKit
theorem cdOwn : ownKnob Tryz.prog.godebug = none := by kernel_rfl
def cdT : List Nat := [4, 5, 3, 138, 9, 25, 23, 110, 149, 52, 102, 28, 26]
theorem cdPlain : (cdT.all fun t => plainT Tryz.prog cdT t) = true := by kernel_rfl
theorem cdLaidOut : laidOutB Tryz.prog = true := by kernel_rfl
theorem cdS : Tryz.prog.underlying 9 = some .string := by kernel_rfl
theorem cdB : Tryz.prog.underlying 4 = some .bool := by kernel_rfl
def cdG : Nat → Option (List AV) := fun i => if i = 0 then some [.iface 151 (.agg [.gp 3 30])] else if i = 1 then some reservedA else none
theorem cdHty : cdG 0 = some [.iface 151 (.agg [.gp 3 30])] := rfl
theorem cdRes : cdG 1 = some reservedA := rfl
theorem cdGl {w : World} (h : laidMetH Tryz.prog Rows.readMatchesReferenceRow.laid w) : GlOk (G0 cdG false) allL w.heap := by
  obtain ⟨hp, hh⟩ := laidMetH_split h
  have h0 : laidMet Tryz.prog [("castings/name.reserved", Rows.laid_castings_name_reserved)] w := hp
  intro i c hc
  simp only [Gz_g, cdG] at hc
  split at hc
  · rename_i hi
    subst hi
    injection hc with hc
    subst hc
    · exact glAt_handle (sz := 201) (d := Rows.laid_errors_errorType) (nm := [101, 114, 114, 111, 114]) (by kernel_rfl) rfl rfl (by kernel_rfl) (by kernel_rfl) (by kernel_rfl) (by kernel_rfl) hh (List.Mem.head _)
  split at hc
  · rename_i hi
    subst hi
    injection hc with hc
    subst hc
    · exact laid_head cdPlain (t := 149) (by kernel_rfl) (by kernel_rfl) (by kernel_rfl) h0
  cases hc
theorem cdMet (os : Os) (args : Array Value) : laidMetH Tryz.prog Rows.readMatchesReferenceRow.laid ((World.doorLaid Tryz.prog 21 os).forCall (fun _ _ => 0) ⟨#[], args, []⟩).memory :=
  laidMetH_of_parts3 (fuel := 8) (laidMet_of_run' 8 (by kernel_rfl) (by kernel_rfl)) (by kernel_rfl) (by kernel_rfl)
end Go.Proofs.YtpjkdaechknogaaGreatDoor

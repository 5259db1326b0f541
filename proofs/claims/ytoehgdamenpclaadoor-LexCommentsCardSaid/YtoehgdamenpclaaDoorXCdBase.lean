/- The types, the listed variables and the closed facts that the cards of this translation share. -/
import Derived.Test.YtoehgdamenpclaaDoorRows
import Derived.Test.YtoehgdamenpclaaDoorCards
import Derived.Test.YtoehgdamenpclaaDoorTie
import Derived.Test.YtoehgdamenpclaaDoorPvXa
import Derived.Test.YtoehgdamenpclaaDoorPvY
import Derived.Test.YtoehgdamenpclaaDoorPvLa
set_option linter.all false
set_option maxRecDepth 100000
namespace Go.Proofs.YtoehgdamenpclaaDoor
open Go Go.Pv Go.ChangeShapes Go.WideShapes Go.RowKit
theorem cdOwn : ownKnob Tryd.prog.godebug = none := by kernel_rfl
def cdT : List Nat := [4, 5, 3, 9, 58, 28, 44]
theorem cdPlain : (cdT.all fun t => plainT Tryd.prog cdT t) = true := by kernel_rfl
theorem cdLaidOut : laidOutB Tryd.prog = true := by kernel_rfl
theorem cdS : Tryd.prog.underlying 9 = some .string := by kernel_rfl
theorem cdI : Tryd.prog.underlying 3 = some (.int .i64) := by kernel_rfl
theorem cdB : Tryd.prog.underlying 4 = some .bool := by kernel_rfl
theorem cdU : Tryd.prog.underlying 5 = some (.int .u8) := by kernel_rfl
theorem cdLS : Tryd.prog.underlying 58 = some (.slice 9) := by kernel_rfl
theorem cdSb : 0 < Tryd.prog.bytesOf 9 := by rw [show Tryd.prog.bytesOf 9 = 16 by kernel_rfl]; decide
theorem cdLK : Tryd.prog.underlying 28 = some (.slice 44) := by kernel_rfl
theorem cdFK : ftypes Tryd.prog 44 = some [3, 9, 3] := by kernel_rfl
theorem cdKb : 0 < Tryd.prog.bytesOf 44 := by rw [show Tryd.prog.bytesOf 44 = 32 by kernel_rfl]; decide
def cdG : Nat → Option (List AV) := fun i => if i = 0 then some [.iface 89 (.agg [.gp 2 25])] else none
theorem cdHty : cdG 0 = some [.iface 89 (.agg [.gp 2 25])] := rfl
theorem cdGl {w : World} (h : laidMetH Tryd.prog Rows.lexMatchesReferenceRow.laid w) : GlOk (G0 cdG false) allL w.heap := by
  obtain ⟨hp, hh⟩ := laidMetH_split h
  have h0 : laidMet Tryd.prog [] w := hp
  intro i c hc
  simp only [Gz_g, cdG] at hc
  split at hc
  · rename_i hi
    subst hi
    injection hc with hc
    subst hc
    · exact glAt_handle (sz := 136) (d := Rows.laid_errors_errorType) (nm := [101, 114, 114, 111, 114]) (by kernel_rfl) rfl rfl (by kernel_rfl) (by kernel_rfl) (by kernel_rfl) (by kernel_rfl) hh (List.Mem.head _)
  cases hc
theorem cdMet (os : Os) (args : Array Value) : laidMetH Tryd.prog Rows.lexMatchesReferenceRow.laid ((World.doorLaid Tryd.prog 16 os).forCall (fun _ _ => 0) ⟨#[], args, []⟩).memory :=
  laidMetH_of_parts3 (fuel := 8) (laidMet_of_run' 8 (by kernel_rfl) (by kernel_rfl)) (by kernel_rfl) (by kernel_rfl)
end Go.Proofs.YtoehgdamenpclaaDoor

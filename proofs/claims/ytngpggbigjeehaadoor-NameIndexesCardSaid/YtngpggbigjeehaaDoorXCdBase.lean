/- The types, the listed variables and the closed facts that the cards of this translation share. -/
import Derived.Test.YtngpggbigjeehaaDoorRows
import Derived.Test.YtngpggbigjeehaaDoorCards
import Derived.Test.YtngpggbigjeehaaDoorTie
import Derived.Test.YtngpggbigjeehaaDoorPvX
import Derived.Test.YtngpggbigjeehaaDoorPvY
import Derived.Test.YtngpggbigjeehaaDoorPvLa
set_option linter.all false
set_option maxRecDepth 100000
namespace Go.Proofs.YtngpggbigjeehaaDoor
open Go Go.Pv Go.ChangeShapes Go.WideShapes Go.RowKit
theorem cdOwn : ownKnob Tryd.prog.godebug = none := by kernel_rfl
def cdT : List Nat := [4, 5, 3, 58, 9, 36, 37, 72]
theorem cdPlain : (cdT.all fun t => plainT Tryd.prog cdT t) = true := by kernel_rfl
theorem cdLaidOut : laidOutB Tryd.prog = true := by kernel_rfl
theorem cdS : Tryd.prog.underlying 9 = some .string := by kernel_rfl
theorem cdI : Tryd.prog.underlying 3 = some (.int .i64) := by kernel_rfl
theorem cdB : Tryd.prog.underlying 4 = some .bool := by kernel_rfl
theorem cdU : Tryd.prog.underlying 5 = some (.int .u8) := by kernel_rfl
theorem cdLS : Tryd.prog.underlying 36 = some (.slice 9) := by kernel_rfl
theorem cdSb : 0 < Tryd.prog.bytesOf 9 := by rw [show Tryd.prog.bytesOf 9 = 16 by kernel_rfl]; decide
theorem cdStar : "*" ++ "errors.errorString" = "*errors.errorString" := by decide
theorem cdErr (u : TypeId) (h : Tryd.prog.typeName? 3 u = some "*errors.errorString") : u = 78 :=
  typeName_ptr_named (nm := "errors.errorString") (by rw [cdStar]; kernel_rfl) (by kernel_rfl) (by decide) u (by rw [cdStar]; exact h)
def cdG : Nat → Option (List AV) := fun i => if i = 0 then some reservedA else if i = 1 then some [.iface 78 (.ro [])] else if i = 2 then some [.iface 78 (.ro [])] else if i = 3 then some pow10A else none
theorem cdRes : cdG 0 = some reservedA := rfl
theorem cdErr1 : cdG 1 = some [.iface 78 (.ro [])] := rfl
theorem cdErr2 : cdG 2 = some [.iface 78 (.ro [])] := rfl
theorem cdTab : cdG 3 = some pow10A := rfl
theorem cdEr : ∃ x, cdG 2 = some [.iface 78 x] := ⟨_, rfl⟩
theorem cdEs : ∃ x, cdG 1 = some [.iface 78 x] := ⟨_, rfl⟩
theorem cdGl {w : World} (h : laidMetH Tryd.prog Rows.nameMatchesReferenceRow.laid w) : GlOk (G0 cdG false) allL w.heap := by
  have h0 : laidMet Tryd.prog Rows.nameMatchesReferenceRow.laid w := by
    rw [MakeChecks.laidMetH_plain _ _ _ (by kernel_rfl)] at h
    exact h
  have h1 := laidMet.tail h0
  have h2 := laidMet.tail h1
  have h3 := laidMet.tail h2
  have h4 := laidMet.tail h3
  have h5 := laidMet.tail h4
  intro i c hc
  simp only [Gz_g, cdG] at hc
  split at hc
  · rename_i hi
    subst hi
    injection hc with hc
    subst hc
    · exact laid_head cdPlain (t := 37) (by kernel_rfl) (by kernel_rfl) (by kernel_rfl) h5
  split at hc
  · rename_i hi
    subst hi
    injection hc with hc
    subst hc
    · obtain ⟨a, s, hv, hc, -, -⟩ := laid_sentinel (g := 1) h4 (by kernel_rfl) (by kernel_rfl) Tryd.underlying41 cdErr Tryd.underlying78 Tryd.underlying80 rfl rfl Tryd.underlying9 (by kernel_rfl) (by kernel_rfl)
      exact glAt_err (by kernel_rfl) hv hc
  split at hc
  · rename_i hi
    subst hi
    injection hc with hc
    subst hc
    · obtain ⟨a, s, hv, hc, -, -⟩ := laid_sentinel (g := 2) h3 (by kernel_rfl) (by kernel_rfl) Tryd.underlying41 cdErr Tryd.underlying78 Tryd.underlying80 rfl rfl Tryd.underlying9 (by kernel_rfl) (by kernel_rfl)
      exact glAt_err (by kernel_rfl) hv hc
  split at hc
  · rename_i hi
    subst hi
    injection hc with hc
    subst hc
    · have e := laid_head cdPlain (g := 3) (t := 72) (by kernel_rfl) (by kernel_rfl) (by kernel_rfl) h2
      rwa [show avOf (Rows.laid_internal_strconv_uint64pow10 (H := Unit)) = pow10A by kernel_rfl] at e
  cases hc
theorem cdMet (os : Os) (args : Array Value) : laidMetH Tryd.prog Rows.nameMatchesReferenceRow.laid ((World.doorLaid Tryd.prog 67 os).forCall (fun _ _ => 0) ⟨#[], args, []⟩).memory :=
  laidMetH_of_parts3 (fuel := 8) (laidMet_of_run' 8 (by kernel_rfl) (by kernel_rfl)) (by kernel_rfl) (by kernel_rfl)
end Go.Proofs.YtngpggbigjeehaaDoor

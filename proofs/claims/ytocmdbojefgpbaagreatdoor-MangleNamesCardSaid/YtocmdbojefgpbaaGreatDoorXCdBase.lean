/- The types, the listed variables and the closed facts that the cards of this translation share. -/
import Derived.Test.YtocmdbojefgpbaaGreatDoorRows
import Derived.Test.YtocmdbojefgpbaaGreatDoorCards
import Derived.Test.YtocmdbojefgpbaaGreatDoorTie
import Derived.Test.YtocmdbojefgpbaaGreatDoorPvKd
import Derived.Test.YtocmdbojefgpbaaGreatDoorPvY
import Derived.Test.YtocmdbojefgpbaaGreatDoorPvLb
import Derived.Test.YtocmdbojefgpbaaGreatDoorPvMd
import Derived.Test.YtocmdbojefgpbaaGreatDoorPvXc
import Derived.Test.YtocmdbojefgpbaaGreatDoorPvMf
import Derived.Lay
set_option linter.all false
set_option maxRecDepth 100000
namespace Go.Proofs.YtocmdbojefgpbaaGreatDoor
open Go Go.Pv Go.ChangeShapes Go.WideShapes Go.RowKit
theorem cdOwn : ownKnob Tryz.prog.godebug = none := by kernel_rfl
def cdT : List Nat := [4, 5, 3, 119, 9, 24, 22, 65, 136, 146, 49, 47, 72, 32, 74, 33, 35, 64, 67, 68, 70]
theorem cdPlain : (cdT.all fun t => plainT Tryz.prog cdT t) = true := by kernel_rfl
theorem cdLaidOut : laidOutB Tryz.prog = true := by kernel_rfl
theorem cdS : Tryz.prog.underlying 9 = some .string := by kernel_rfl
theorem cdI : Tryz.prog.underlying 3 = some (.int .i64) := by kernel_rfl
theorem cdB : Tryz.prog.underlying 4 = some .bool := by kernel_rfl
theorem cdL : Tryz.prog.underlying 22 = some (.slice 24) := by kernel_rfl
theorem cdF : ftypes Tryz.prog 24 = some [9, 22, 3] := by kernel_rfl
theorem cdTb : 0 < Tryz.prog.bytesOf 24 := by rw [show Tryz.prog.bytesOf 24 = 48 by kernel_rfl]; decide
theorem cdLE : Tryz.prog.underlying 47 = some (.slice 49) := by kernel_rfl
theorem cdFE : ftypes Tryz.prog 49 = some [3, 9, 24, 22, 47, 3] := by kernel_rfl
theorem cdEb : 0 < Tryz.prog.bytesOf 49 := by rw [show Tryz.prog.bytesOf 49 = 128 by kernel_rfl]; decide
def cdDT : DTys Tryz.prog := { S := 9, I := 3, L := 22, T := 24, X := 47, E := 49, SL := 65, FL := 32, F := 72, QL := 33, Q := 74, GL := 64, G := 35, hS := cdS, hI := cdI, hL := cdL, hF := cdF, hb := cdTb, hX := cdLE, hE := cdFE, hbe := cdEb, hSL := by kernel_rfl, hbs := (by rw [show Tryz.prog.bytesOf 9 = 16 by kernel_rfl]; decide), hFL := by kernel_rfl, hFF := by kernel_rfl, hbf := (by rw [show Tryz.prog.bytesOf 72 = 72 by kernel_rfl]; decide), hQL := by kernel_rfl, hQQ := by kernel_rfl, hbq := (by rw [show Tryz.prog.bytesOf 74 = 72 by kernel_rfl]; decide), hGL := by kernel_rfl, hGG := by kernel_rfl, hbg := (by rw [show Tryz.prog.bytesOf 35 = 120 by kernel_rfl]; decide) }
theorem cdStar : "*" ++ "errors.errorString" = "*errors.errorString" := by decide
theorem cdErr (u : TypeId) (h : Tryz.prog.typeName? 3 u = some "*errors.errorString") : u = 159 :=
  typeName_ptr_named (nm := "errors.errorString") (by rw [cdStar]; kernel_rfl) (by kernel_rfl) (by decide) u (by rw [cdStar]; exact h)
def cdG (m : Int) : Nat → Option (List AV) := fun i => if i = 0 then some reservedA else if i = 1 then some [.iface 159 (.ro [])] else if i = 2 then some [.iface 159 (.ro [])] else if i = 3 then some pow10A else if i = 4 then some [.int .i64 m] else none
theorem cdRes (m : Int) : cdG m 0 = some reservedA := rfl
theorem cdTab (m : Int) : cdG m 3 = some pow10A := rfl
theorem cdEr (m : Int) : ∃ x, (cdG m) 2 = some [.iface 159 x] := ⟨_, rfl⟩
theorem cdEs (m : Int) : ∃ x, (cdG m) 1 = some [.iface 159 x] := ⟨_, rfl⟩
theorem cdMl (m : Int) : ∃ k, cdG m 4 = some [.int .i64 k] := ⟨m, rfl⟩
theorem cdGl {w : World} {m : Int} (h : laidMetH Tryz.prog Rows.mangleMatchesReferenceRow.laid w) (hm : GlAt allL w.heap 4 [.int .i64 m]) : GlOk (G0 (cdG m) false) allL w.heap := by
  have h0 : laidMet Tryz.prog Rows.mangleMatchesReferenceRow.laid w := by
    rw [MakeChecks.laidMetH_plain _ _ _ (by kernel_rfl)] at h
    exact h
  have h1 := laidMet.tail h0
  have h2 := laidMet.tail h1
  have h3 := laidMet.tail h2
  have h4 := laidMet.tail h3
  have h5 := laidMet.tail h4
  have h6 := laidMet.tail h5
  have h7 := laidMet.tail h6
  intro i c hc
  simp only [Gz_g, cdG] at hc
  split at hc
  · rename_i hi
    subst hi
    injection hc with hc
    subst hc
    · exact laid_head cdPlain (t := 136) (by kernel_rfl) (by kernel_rfl) (by kernel_rfl) h6
  split at hc
  · rename_i hi
    subst hi
    injection hc with hc
    subst hc
    · obtain ⟨a, s, hv, hc, -, -⟩ := laid_sentinel (g := 1) h5 (by kernel_rfl) (by kernel_rfl) Tryz.underlying82 cdErr Tryz.underlying159 Tryz.underlying161 rfl rfl Tryz.underlying9 (by kernel_rfl) (by kernel_rfl)
      exact glAt_err (by kernel_rfl) hv hc
  split at hc
  · rename_i hi
    subst hi
    injection hc with hc
    subst hc
    · obtain ⟨a, s, hv, hc, -, -⟩ := laid_sentinel (g := 2) h4 (by kernel_rfl) (by kernel_rfl) Tryz.underlying82 cdErr Tryz.underlying159 Tryz.underlying161 rfl rfl Tryz.underlying9 (by kernel_rfl) (by kernel_rfl)
      exact glAt_err (by kernel_rfl) hv hc
  split at hc
  · rename_i hi
    subst hi
    injection hc with hc
    subst hc
    · have e := laid_head cdPlain (g := 3) (t := 146) (by kernel_rfl) (by kernel_rfl) (by kernel_rfl) h2
      rwa [show avOf (Rows.laid_internal_strconv_uint64pow10 (H := Unit)) = pow10A by kernel_rfl] at e
  split at hc
  · rename_i hi
    subst hi
    injection hc with hc
    subst hc
    · exact hm
  cases hc
theorem cdMet (os : Os) (args : Array Value) : laidMetH Tryz.prog Rows.mangleMatchesReferenceRow.laid ((World.laidAll Tryz.prog os Rows.mangleMatchesReferenceRow.laid).forCall (fun _ _ => 0) ⟨#[], args, []⟩).memory := by
  rw [MakeChecks.laidMetH_plain _ _ _ (by kernel_rfl)]
  exact laidMet_laidAll _ (by kernel_rfl) (by kernel_rfl)
end Go.Proofs.YtocmdbojefgpbaaGreatDoor

/- The statement PrintApart of the package castingslaw09: whatever the input, the law returns true, and each argument reads as it did; the one listed variable is tied to the program's text. -/
import Derived.Test.YtepbmjchhcmcoaaGreatDoorXCdBase
import Derived.Test.YtepbmjchhcmcoaaGreatDoorXPrG
set_option linter.all false
set_option maxRecDepth 100000
namespace Go.Proofs.YtepbmjchhcmcoaaGreatDoor
open Go Go.Pv Go.ChangeShapes Go.WideShapes Go.RowKit
theorem printApart_valid {H : Type} (ds : List (DataW H)) (hty : typedAll Tryz.prog [30, 30] ds) (hw : (DataW.weightsEach Tryz.prog [30, 30] ds).all (· ≤ reachBytes) = true) : Valid Tryz.prog (G0 cdG false) 3 (argAVs Tryz.prog [30, 30] ds) (.bool true) := by
  match ds, hty with
  | [d0, d1], ⟨⟨n0, h0⟩, ⟨n1, h1⟩, _⟩ =>
    obtain ⟨w0, hw⟩ := weightsEach_cons hw
    obtain ⟨w1, hw⟩ := weightsEach_cons hw
    obtain ⟨x0, e0, f0⟩ := pg_of cdDT cdDD cdDL cdDb cdZ n0 d0 h0 w0
    have a0 : argAV Tryz.prog 30 d0 = .agg (encPg x0) := by rw [argAV_agg cdZ, e0]
    obtain ⟨x1, e1, f1⟩ := pg_of cdDT cdDD cdDL cdDb cdZ n1 d1 h1 w1
    have a1 : argAV Tryz.prog 30 d1 = .agg (encPg x1) := by rw [argAV_agg cdZ, e1]
    simp only [argAVs, a0, a1]
    exact c_law09x_PrintApart cdG x0 x1 f0 f1 cdRes
theorem printApart_lifted (os : Os) (started : os.Started) (H : Type) (enc : TypeId × Value → H) :
    ReturnsInHanded {} Tryz.checked os 3 .any (fun w args => (Rows.printApartSpec.pre enc Tryz.prog Tryz.f3 [] false w args ∧ laidMetH Tryz.prog Rows.printApartRow.laid w) ∧ sizedMet enc Tryz.prog Tryz.f3 (OpenSpec.ofChange Rows.printApartSpec) false w args)
      (Rows.printApartSpec.post enc Tryz.prog Tryz.f3 false true false false) := by
  refine returnsInHanded_of_change_and (C := Tryz.checked) (X := fun w _ => laidMetH Tryz.prog Rows.printApartRow.laid w) (fun _ _ _ hh h => h.of_heap hh) cdOwn started (by kernel_rfl) Tryz.func3
    (ChangeSpec.witness_shaped (enc := enc) (C := Tryz.checked) (os := os) (X := fun w _ => laidMetH Tryz.prog Rows.printApartRow.laid w) false (World.doorLaid Tryz.prog 21 os) #[.agg #[.slice none 0 0, .int .i64 0, .string ⟨#[]⟩, .string ⟨#[]⟩, .slice none 0 0, .int .i64 0, .slice none 0 0, .slice none 0 0, .int .i64 0], .agg #[.slice none 0 0, .int .i64 0, .string ⟨#[]⟩, .string ⟨#[]⟩, .slice none 0 0, .int .i64 0, .slice none 0 0, .slice none 0 0, .int .i64 0]] 8 rfl (World.shaped_of_RefB (by kernel_rfl) (by kernel_rfl)) (by kernel_rfl) (by kernel_rfl) (by kernel_rfl) (cdMet os _)) ?_
  intro W base args ds gs before hval hW _ hwt hL _
  exact law_calls (f := 3) (tb := 4) cdPlain cdLaidOut (by kernel_rfl) rfl cdB rfl hval hW (cdGl hL) rfl hwt (fun hty hw => printApart_valid ds hty hw) (fun hty => by
    have hty' : typedAll Tryz.prog [30, 30] ds := hty
    match ds, hty' with
    | [d0, d1], _ => rfl)
theorem printApart_row : Rows.PrintApartSaid :=
  OpenClaim.holds_of_wide 3 Tryz.f3 rfl rfl rfl rfl rfl rfl rfl ⟨rfl, rfl, rfl, rfl, rfl⟩ rfl rfl rfl rfl rfl (by kernel_rfl) Tryz.func3 (by kernel_rfl)
    (of_decide_eq_true (by kernel_rfl)) (by unfold Func.isWrapper; first | (rw [if_pos (by decide +kernel)]; kernel_rfl) | (rw [if_neg (by decide +kernel)]; exact ⟨rfl, rfl⟩))
    (fun os started H enc _ => printApart_lifted os started H enc)
theorem printApart_card : Rows.PrintApartCardSaid :=
  Claim7.holds_tied_plain_at .later [] Rows.printApartCard.laidKinds true Rows.printApartCard.stood.harness Rows.printApartCard.stood.looks
    printApart_row (fun _ h => by cases h) (by kernel_rfl) (fun _ h => by cases h) printApart_row_tie rfl ⟨rfl, rfl⟩ (by kernel_rfl) rfl
    (fun f fn hf hfn => by
      obtain rfl : f = 3 := Option.some.inj ((show Tryz.prog.funcNamed Rows.printApartRow.func = some 3 by kernel_rfl).symm.trans hf) |>.symm
      obtain rfl : fn = Tryz.f3 := (Option.some.inj (Tryz.func3.symm.trans hfn)).symm
      exact ⟨by kernel_rfl, fun j t ht => by
        have hm : t ∈ [30, 30] := by
          have := Array.mem_of_getElem? ht
          simpa [Tryz.f3] using this
        have hall : ([30, 30].all fun u => !Tryz.prog.wantsStandIn u) = true := by kernel_rfl
        exact (show Tryz.prog.wantsStandIn t = false by simpa using List.all_eq_true.1 hall t hm)⟩)
    (by kernel_rfl)
#print axioms printApart_card
end Go.Proofs.YtepbmjchhcmcoaaGreatDoor

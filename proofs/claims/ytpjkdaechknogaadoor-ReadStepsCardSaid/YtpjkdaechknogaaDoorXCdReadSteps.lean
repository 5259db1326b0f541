/- The statement ReadSteps of the package castingslaw07: whatever the input, the law returns true, and each argument reads as it did; the one listed variable is tied to the program's text. -/
import Derived.Test.YtpjkdaechknogaaDoorXCdBase
import Derived.Test.YtpjkdaechknogaaDoorXRdM
set_option linter.all false
set_option maxRecDepth 100000
namespace Go.Proofs.YtpjkdaechknogaaDoor
open Go Go.Pv Go.ChangeShapes Go.WideShapes Go.RowKit
theorem readSteps_valid {H : Type} (ds : List (DataW H)) (hty : typedAll Tryd.prog [9, 5] ds) (hw : (DataW.weightsEach Tryd.prog [9, 5] ds).all (· ≤ reachBytes) = true) : Valid Tryd.prog (G0 cdG false) 5 (argAVs Tryd.prog [9, 5] ds) (.bool true) := by
  match ds, hty with
  | [d0, d1], ⟨⟨n0, h0⟩, ⟨n1, h1⟩, _⟩ =>
    obtain ⟨w0, hw⟩ := weightsEach_cons hw
    obtain ⟨w1, hw⟩ := weightsEach_cons hw
    obtain ⟨x0, e0, l0⟩ := str_of cdS h0 w0
    have a0 : argAV Tryd.prog 9 d0 = .str x0 := argAV_one (.inl cdS) e0
    obtain ⟨x1, rfl, f1⟩ := typed_int cdU h1
    have a1 : argAV (H := H) Tryd.prog 5 (.lit (.int .u8 x1)) = .int .u8 x1 := argAV_one (.inr (.inl ⟨_, cdU⟩)) rfl
    simp only [argAVs, a0, a1]
    exact c_law07x_ReadSteps cdG x0 x1 l0 (u8_of f1).1 (u8_of f1).2 cdRes cdHty
theorem readSteps_lifted (os : Os) (started : os.Started) (H : Type) (enc : TypeId × Value → H) :
    ReturnsInHanded {} Tryd.checked os 5 .any (fun w args => (Rows.readStepsSpec.pre enc Tryd.prog Tryd.f5 [] false w args ∧ laidMetH Tryd.prog Rows.readStepsRow.laid w) ∧ sizedMet enc Tryd.prog Tryd.f5 (OpenSpec.ofChange Rows.readStepsSpec) false w args)
      (Rows.readStepsSpec.post enc Tryd.prog Tryd.f5 false true false false) := by
  refine returnsInHanded_of_change_and (C := Tryd.checked) (X := fun w _ => laidMetH Tryd.prog Rows.readStepsRow.laid w) (fun _ _ _ hh h => h.of_heap hh) cdOwn started (by kernel_rfl) Tryd.func5
    (ChangeSpec.witness_shaped (enc := enc) (C := Tryd.checked) (os := os) (X := fun w _ => laidMetH Tryd.prog Rows.readStepsRow.laid w) false (World.doorLaid Tryd.prog 21 os) #[.string ⟨#[]⟩, .int .u8 0] 8 rfl (World.shaped_of_RefB (by kernel_rfl) (by kernel_rfl)) (by kernel_rfl) (by kernel_rfl) (by kernel_rfl) (cdMet os _)) ?_
  intro W base args ds gs before hval hW _ hwt hL _
  exact law_calls (f := 5) (tb := 4) cdPlain cdLaidOut (by kernel_rfl) rfl cdB rfl hval hW (cdGl hL) rfl hwt (fun hty hw => readSteps_valid ds hty hw) (fun hty => by
    have hty' : typedAll Tryd.prog [9, 5] ds := hty
    match ds, hty' with
    | [d0, d1], _ => rfl)
theorem readSteps_row : Rows.ReadStepsSaid :=
  OpenClaim.holds_of_wide 5 Tryd.f5 rfl rfl rfl rfl rfl rfl rfl ⟨rfl, rfl, rfl, rfl, rfl⟩ rfl rfl rfl rfl rfl (by kernel_rfl) Tryd.func5 (by kernel_rfl)
    (of_decide_eq_true (by kernel_rfl)) (by unfold Func.isWrapper; first | (rw [if_pos (by decide +kernel)]; kernel_rfl) | (rw [if_neg (by decide +kernel)]; exact ⟨rfl, rfl⟩))
    (fun os started H enc _ => readSteps_lifted os started H enc)
theorem readSteps_card : Rows.ReadStepsCardSaid :=
  Claim7.holds_tied_plain_at .later [] Rows.readStepsCard.laidKinds true Rows.readStepsCard.stood.harness Rows.readStepsCard.stood.looks
    readSteps_row (fun _ h => by cases h) (by kernel_rfl) (fun _ h => by cases h) readSteps_row_tie rfl ⟨rfl, rfl⟩ (by kernel_rfl) rfl
    (fun f fn hf hfn => by
      obtain rfl : f = 5 := Option.some.inj ((show Tryd.prog.funcNamed Rows.readStepsRow.func = some 5 by kernel_rfl).symm.trans hf) |>.symm
      obtain rfl : fn = Tryd.f5 := (Option.some.inj (Tryd.func5.symm.trans hfn)).symm
      exact ⟨by kernel_rfl, fun j t ht => by
        have hm : t ∈ [9, 5] := by
          have := Array.mem_of_getElem? ht
          simpa [Tryd.f5] using this
        have hall : ([9, 5].all fun u => !Tryd.prog.wantsStandIn u) = true := by kernel_rfl
        exact (show Tryd.prog.wantsStandIn t = false by simpa using List.all_eq_true.1 hall t hm)⟩)
    (by kernel_rfl)
#print axioms readSteps_card
end Go.Proofs.YtpjkdaechknogaaDoor

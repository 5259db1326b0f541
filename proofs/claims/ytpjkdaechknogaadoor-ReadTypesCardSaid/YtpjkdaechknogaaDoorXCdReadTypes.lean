/- The statement ReadTypes of the package castingslaw07: whatever the input, the law returns true, and each argument reads as it did; the one listed variable is tied to the program's text. -/
import Derived.Test.YtpjkdaechknogaaDoorXCdBase
import Derived.Test.YtpjkdaechknogaaDoorXRdI
set_option linter.all false
set_option maxRecDepth 100000
namespace Go.Proofs.YtpjkdaechknogaaDoor
open Go Go.Pv Go.ChangeShapes Go.WideShapes Go.RowKit
theorem readTypes_valid {H : Type} (ds : List (DataW H)) (hty : typedAll Tryd.prog [9] ds) (hw : (DataW.weightsEach Tryd.prog [9] ds).all (· ≤ reachBytes) = true) : Valid Tryd.prog (G0 cdG false) 6 (argAVs Tryd.prog [9] ds) (.bool true) := by
  match ds, hty with
  | [d0], ⟨⟨n0, h0⟩, _⟩ =>
    obtain ⟨w0, hw⟩ := weightsEach_cons hw
    obtain ⟨x0, e0, l0⟩ := str_of cdS h0 w0
    have a0 : argAV Tryd.prog 9 d0 = .str x0 := argAV_one (.inl cdS) e0
    simp only [argAVs, a0]
    exact c_law07x_ReadTypes cdG x0 l0 cdRes cdHty
theorem readTypes_lifted (os : Os) (started : os.Started) (H : Type) (enc : TypeId × Value → H) :
    ReturnsInHanded {} Tryd.checked os 6 .any (fun w args => (Rows.readTypesSpec.pre enc Tryd.prog Tryd.f6 [] false w args ∧ laidMetH Tryd.prog Rows.readTypesRow.laid w) ∧ sizedMet enc Tryd.prog Tryd.f6 (OpenSpec.ofChange Rows.readTypesSpec) false w args)
      (Rows.readTypesSpec.post enc Tryd.prog Tryd.f6 false true false false) := by
  refine returnsInHanded_of_change_and (C := Tryd.checked) (X := fun w _ => laidMetH Tryd.prog Rows.readTypesRow.laid w) (fun _ _ _ hh h => h.of_heap hh) cdOwn started (by kernel_rfl) Tryd.func6
    (ChangeSpec.witness_shaped (enc := enc) (C := Tryd.checked) (os := os) (X := fun w _ => laidMetH Tryd.prog Rows.readTypesRow.laid w) false (World.doorLaid Tryd.prog 21 os) #[.string ⟨#[]⟩] 8 rfl (World.shaped_of_RefB (by kernel_rfl) (by kernel_rfl)) (by kernel_rfl) (by kernel_rfl) (by kernel_rfl) (cdMet os _)) ?_
  intro W base args ds gs before hval hW _ hwt hL _
  exact law_calls (f := 6) (tb := 4) cdPlain cdLaidOut (by kernel_rfl) rfl cdB rfl hval hW (cdGl hL) rfl hwt (fun hty hw => readTypes_valid ds hty hw) (fun hty => by
    have hty' : typedAll Tryd.prog [9] ds := hty
    match ds, hty' with
    | [d0], _ => rfl)
theorem readTypes_row : Rows.ReadTypesSaid :=
  OpenClaim.holds_of_wide 6 Tryd.f6 rfl rfl rfl rfl rfl rfl rfl ⟨rfl, rfl, rfl, rfl, rfl⟩ rfl rfl rfl rfl rfl (by kernel_rfl) Tryd.func6 (by kernel_rfl)
    (of_decide_eq_true (by kernel_rfl)) (by unfold Func.isWrapper; first | (rw [if_pos (by decide +kernel)]; kernel_rfl) | (rw [if_neg (by decide +kernel)]; exact ⟨rfl, rfl⟩))
    (fun os started H enc _ => readTypes_lifted os started H enc)
theorem readTypes_card : Rows.ReadTypesCardSaid :=
  Claim7.holds_tied_plain_at .later [] Rows.readTypesCard.laidKinds true Rows.readTypesCard.stood.harness Rows.readTypesCard.stood.looks
    readTypes_row (fun _ h => by cases h) (by kernel_rfl) (fun _ h => by cases h) readTypes_row_tie rfl ⟨rfl, rfl⟩ (by kernel_rfl) rfl
    (fun f fn hf hfn => by
      obtain rfl : f = 6 := Option.some.inj ((show Tryd.prog.funcNamed Rows.readTypesRow.func = some 6 by kernel_rfl).symm.trans hf) |>.symm
      obtain rfl : fn = Tryd.f6 := (Option.some.inj (Tryd.func6.symm.trans hfn)).symm
      exact ⟨by kernel_rfl, fun j t ht => by
        have hm : t ∈ [9] := by
          have := Array.mem_of_getElem? ht
          simpa [Tryd.f6] using this
        have hall : ([9].all fun u => !Tryd.prog.wantsStandIn u) = true := by kernel_rfl
        exact (show Tryd.prog.wantsStandIn t = false by simpa using List.all_eq_true.1 hall t hm)⟩)
    (by kernel_rfl)
#print axioms readTypes_card
end Go.Proofs.YtpjkdaechknogaaDoor

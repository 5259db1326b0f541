/- The statement ReadSpaces of the package castingslaw07: whatever the input, the law returns true, and each argument reads as it did; the one listed variable is tied to the program's text. -/
import Derived.Test.YtpjkdaechknogaaDoorXCdBase
import Derived.Test.YtpjkdaechknogaaDoorXRdJ
set_option linter.all false
set_option maxRecDepth 100000
namespace Go.Proofs.YtpjkdaechknogaaDoor
open Go Go.Pv Go.ChangeShapes Go.WideShapes Go.RowKit
theorem readSpaces_valid {H : Type} (ds : List (DataW H)) (hty : typedAll Tryd.prog [27, 4] ds) (hw : (DataW.weightsEach Tryd.prog [27, 4] ds).all (· ≤ reachBytes) = true) : Valid Tryd.prog (G0 cdG false) 4 (argAVs Tryd.prog [27, 4] ds) (.bool true) := by
  match ds, hty with
  | [d0, d1], ⟨⟨n0, h0⟩, ⟨n1, h1⟩, _⟩ =>
    obtain ⟨w0, hw⟩ := weightsEach_cons hw
    obtain ⟨w1, hw⟩ := weightsEach_cons hw
    obtain ⟨x0, e0, f0⟩ := exp_of cdS cdI cdL cdF cdTb cdLE cdFE cdEb n0 d0 h0 w0
    have a0 : argAV Tryd.prog 27 d0 = .agg (encE x0) := by rw [argAV_agg cdFE, e0]
    obtain ⟨x1, rfl⟩ := typed_bool cdB h1
    have a1 : argAV (H := H) Tryd.prog 4 (.lit (.bool x1)) = .bool x1 := argAV_one (.inr (.inr (.inl cdB))) rfl
    simp only [argAVs, a0, a1]
    exact c_law07x_ReadSpaces cdG x0 x1 f0 cdRes cdHty
theorem readSpaces_lifted (os : Os) (started : os.Started) (H : Type) (enc : TypeId × Value → H) :
    ReturnsInHanded {} Tryd.checked os 4 .any (fun w args => (Rows.readSpacesSpec.pre enc Tryd.prog Tryd.f4 [] false w args ∧ laidMetH Tryd.prog Rows.readSpacesRow.laid w) ∧ sizedMet enc Tryd.prog Tryd.f4 (OpenSpec.ofChange Rows.readSpacesSpec) false w args)
      (Rows.readSpacesSpec.post enc Tryd.prog Tryd.f4 false true false false) := by
  refine returnsInHanded_of_change_and (C := Tryd.checked) (X := fun w _ => laidMetH Tryd.prog Rows.readSpacesRow.laid w) (fun _ _ _ hh h => h.of_heap hh) cdOwn started (by kernel_rfl) Tryd.func4
    (ChangeSpec.witness_shaped (enc := enc) (C := Tryd.checked) (os := os) (X := fun w _ => laidMetH Tryd.prog Rows.readSpacesRow.laid w) false (World.doorLaid Tryd.prog 21 os) #[.agg #[.int .i64 0, .string ⟨#[]⟩, .string ⟨#[]⟩, .slice none 0 0, .int .i64 0, .slice none 0 0, .slice none 0 0, .int .i64 0], .bool false] 8 rfl (World.shaped_of_RefB (by kernel_rfl) (by kernel_rfl)) (by kernel_rfl) (by kernel_rfl) (by kernel_rfl) (cdMet os _)) ?_
  intro W base args ds gs before hval hW _ hwt hL _
  exact law_calls (f := 4) (tb := 4) cdPlain cdLaidOut (by kernel_rfl) rfl cdB rfl hval hW (cdGl hL) rfl hwt (fun hty hw => readSpaces_valid ds hty hw) (fun hty => by
    have hty' : typedAll Tryd.prog [27, 4] ds := hty
    match ds, hty' with
    | [d0, d1], _ => rfl)
theorem readSpaces_row : Rows.ReadSpacesSaid :=
  OpenClaim.holds_of_wide 4 Tryd.f4 rfl rfl rfl rfl rfl rfl rfl ⟨rfl, rfl, rfl, rfl, rfl⟩ rfl rfl rfl rfl rfl (by kernel_rfl) Tryd.func4 (by kernel_rfl)
    (of_decide_eq_true (by kernel_rfl)) (by unfold Func.isWrapper; first | (rw [if_pos (by decide +kernel)]; kernel_rfl) | (rw [if_neg (by decide +kernel)]; exact ⟨rfl, rfl⟩))
    (fun os started H enc _ => readSpaces_lifted os started H enc)
theorem readSpaces_card : Rows.ReadSpacesCardSaid :=
  Claim7.holds_tied_plain_at .later [] Rows.readSpacesCard.laidKinds true Rows.readSpacesCard.stood.harness Rows.readSpacesCard.stood.looks
    readSpaces_row (fun _ h => by cases h) (by kernel_rfl) (fun _ h => by cases h) readSpaces_row_tie rfl ⟨rfl, rfl⟩ (by kernel_rfl) rfl
    (fun f fn hf hfn => by
      obtain rfl : f = 4 := Option.some.inj ((show Tryd.prog.funcNamed Rows.readSpacesRow.func = some 4 by kernel_rfl).symm.trans hf) |>.symm
      obtain rfl : fn = Tryd.f4 := (Option.some.inj (Tryd.func4.symm.trans hfn)).symm
      exact ⟨by kernel_rfl, fun j t ht => by
        have hm : t ∈ [27, 4] := by
          have := Array.mem_of_getElem? ht
          simpa [Tryd.f4] using this
        have hall : ([27, 4].all fun u => !Tryd.prog.wantsStandIn u) = true := by kernel_rfl
        exact (show Tryd.prog.wantsStandIn t = false by simpa using List.all_eq_true.1 hall t hm)⟩)
    (by kernel_rfl)
#print axioms readSpaces_card
end Go.Proofs.YtpjkdaechknogaaDoor

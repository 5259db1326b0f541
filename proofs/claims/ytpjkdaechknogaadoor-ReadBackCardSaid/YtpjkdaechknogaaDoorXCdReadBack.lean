/- The statement ReadBack of the package castingslaw07: whatever the input, the law returns true, and each argument reads as it did; the one listed variable is tied to the program's text. -/
import Derived.Test.YtpjkdaechknogaaDoorXCdBase
import Derived.Test.YtpjkdaechknogaaDoorXRdJ
set_option linter.all false
set_option maxRecDepth 100000
namespace Go.Proofs.YtpjkdaechknogaaDoor
open Go Go.Pv Go.ChangeShapes Go.WideShapes Go.RowKit
theorem readBack_valid {H : Type} (ds : List (DataW H)) (hty : typedAll Tryd.prog [24, 27] ds) (hw : (DataW.weightsEach Tryd.prog [24, 27] ds).all (· ≤ reachBytes) = true) : Valid Tryd.prog (G0 cdG false) 3 (argAVs Tryd.prog [24, 27] ds) (.bool true) := by
  match ds, hty with
  | [d0, d1], ⟨⟨n0, h0⟩, ⟨n1, h1⟩, _⟩ =>
    obtain ⟨w0, hw⟩ := weightsEach_cons hw
    obtain ⟨w1, hw⟩ := weightsEach_cons hw
    obtain ⟨x0, e0, f0⟩ := ty_of cdS cdI cdL cdF cdTb n0 d0 h0 w0
    have a0 : argAV Tryd.prog 24 d0 = .agg (encTy x0) := by rw [argAV_agg cdF, e0]
    obtain ⟨x1, e1, f1⟩ := exp_of cdS cdI cdL cdF cdTb cdLE cdFE cdEb n1 d1 h1 w1
    have a1 : argAV Tryd.prog 27 d1 = .agg (encE x1) := by rw [argAV_agg cdFE, e1]
    simp only [argAVs, a0, a1]
    exact c_law07x_ReadBack cdG x0 x1 f0 f1 cdRes cdHty
theorem readBack_lifted (os : Os) (started : os.Started) (H : Type) (enc : TypeId × Value → H) :
    ReturnsInHanded {} Tryd.checked os 3 .any (fun w args => (Rows.readBackSpec.pre enc Tryd.prog Tryd.f3 [] false w args ∧ laidMetH Tryd.prog Rows.readBackRow.laid w) ∧ sizedMet enc Tryd.prog Tryd.f3 (OpenSpec.ofChange Rows.readBackSpec) false w args)
      (Rows.readBackSpec.post enc Tryd.prog Tryd.f3 false true false false) := by
  refine returnsInHanded_of_change_and (C := Tryd.checked) (X := fun w _ => laidMetH Tryd.prog Rows.readBackRow.laid w) (fun _ _ _ hh h => h.of_heap hh) cdOwn started (by kernel_rfl) Tryd.func3
    (ChangeSpec.witness_shaped (enc := enc) (C := Tryd.checked) (os := os) (X := fun w _ => laidMetH Tryd.prog Rows.readBackRow.laid w) false (World.doorLaid Tryd.prog 21 os) #[.agg #[.string ⟨#[]⟩, .slice none 0 0, .int .i64 0], .agg #[.int .i64 0, .string ⟨#[]⟩, .string ⟨#[]⟩, .slice none 0 0, .int .i64 0, .slice none 0 0, .slice none 0 0, .int .i64 0]] 8 rfl (World.shaped_of_RefB (by kernel_rfl) (by kernel_rfl)) (by kernel_rfl) (by kernel_rfl) (by kernel_rfl) (cdMet os _)) ?_
  intro W base args ds gs before hval hW _ hwt hL _
  exact law_calls (f := 3) (tb := 4) cdPlain cdLaidOut (by kernel_rfl) rfl cdB rfl hval hW (cdGl hL) rfl hwt (fun hty hw => readBack_valid ds hty hw) (fun hty => by
    have hty' : typedAll Tryd.prog [24, 27] ds := hty
    match ds, hty' with
    | [d0, d1], _ => rfl)
theorem readBack_row : Rows.ReadBackSaid :=
  OpenClaim.holds_of_wide 3 Tryd.f3 rfl rfl rfl rfl rfl rfl rfl ⟨rfl, rfl, rfl, rfl, rfl⟩ rfl rfl rfl rfl rfl (by kernel_rfl) Tryd.func3 (by kernel_rfl)
    (of_decide_eq_true (by kernel_rfl)) (by unfold Func.isWrapper; first | (rw [if_pos (by decide +kernel)]; kernel_rfl) | (rw [if_neg (by decide +kernel)]; exact ⟨rfl, rfl⟩))
    (fun os started H enc _ => readBack_lifted os started H enc)
theorem readBack_card : Rows.ReadBackCardSaid :=
  Claim7.holds_tied_plain_at .later [] Rows.readBackCard.laidKinds true Rows.readBackCard.stood.harness Rows.readBackCard.stood.looks
    readBack_row (fun _ h => by cases h) (by kernel_rfl) (fun _ h => by cases h) readBack_row_tie rfl ⟨rfl, rfl⟩ (by kernel_rfl) rfl
    (fun f fn hf hfn => by
      obtain rfl : f = 3 := Option.some.inj ((show Tryd.prog.funcNamed Rows.readBackRow.func = some 3 by kernel_rfl).symm.trans hf) |>.symm
      obtain rfl : fn = Tryd.f3 := (Option.some.inj (Tryd.func3.symm.trans hfn)).symm
      exact ⟨by kernel_rfl, fun j t ht => by
        have hm : t ∈ [24, 27] := by
          have := Array.mem_of_getElem? ht
          simpa [Tryd.f3] using this
        have hall : ([24, 27].all fun u => !Tryd.prog.wantsStandIn u) = true := by kernel_rfl
        exact (show Tryd.prog.wantsStandIn t = false by simpa using List.all_eq_true.1 hall t hm)⟩)
    (by kernel_rfl)
#print axioms readBack_card
end Go.Proofs.YtpjkdaechknogaaDoor

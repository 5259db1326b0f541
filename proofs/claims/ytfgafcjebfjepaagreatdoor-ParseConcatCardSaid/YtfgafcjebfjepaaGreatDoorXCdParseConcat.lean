/- The statement ParseConcat of the package castingslaw08: whatever the input, the law returns true, and each argument reads as it did; the one listed variable is tied to the program's text. -/
import Derived.Test.YtfgafcjebfjepaaGreatDoorXCdBase
import Derived.Test.YtfgafcjebfjepaaGreatDoorXQdD
set_option linter.all false
set_option maxRecDepth 100000
namespace Go.Proofs.YtfgafcjebfjepaaGreatDoor
open Go Go.Pv Go.ChangeShapes Go.WideShapes Go.RowKit
theorem parseConcat_valid {H : Type} (ds : List (DataW H)) (hty : typedAll Tryz.prog [38] ds) (hw : (DataW.weightsEach Tryz.prog [38] ds).all (· ≤ reachBytes) = true) : Valid Tryz.prog (G0 cdG false) 4 (argAVs Tryz.prog [38] ds) (.bool true) := by
  match ds, hty with
  | [d0], ⟨⟨n0, h0⟩, _⟩ =>
    obtain ⟨w0, hw⟩ := weightsEach_cons hw
    obtain ⟨x0, e0, l0, f0⟩ := strs_of cdS cdLS cdSb n0 d0 h0 w0
    have a0 : argAV Tryz.prog 38 d0 = .slice (x0.map encS) := argAV_one (.inr (.inr (.inr ⟨_, cdLS⟩))) e0
    simp only [argAVs, a0]
    exact c_law08x_ParseConcat cdG x0 l0 f0 cdRes cdHty
theorem parseConcat_lifted (os : Os) (started : os.Started) (H : Type) (enc : TypeId × Value → H) :
    ReturnsInHanded {} Tryz.checked os 4 .any (fun w args => (Rows.parseConcatSpec.pre enc Tryz.prog Tryz.f4 [] false w args ∧ laidMetH Tryz.prog Rows.parseConcatRow.laid w) ∧ sizedMet enc Tryz.prog Tryz.f4 (OpenSpec.ofChange Rows.parseConcatSpec) false w args)
      (Rows.parseConcatSpec.post enc Tryz.prog Tryz.f4 false true false false) := by
  refine returnsInHanded_of_change_and (C := Tryz.checked) (X := fun w _ => laidMetH Tryz.prog Rows.parseConcatRow.laid w) (fun _ _ _ hh h => h.of_heap hh) cdOwn started (by kernel_rfl) Tryz.func4
    (ChangeSpec.witness_shaped (enc := enc) (C := Tryz.checked) (os := os) (X := fun w _ => laidMetH Tryz.prog Rows.parseConcatRow.laid w) false (World.doorLaid Tryz.prog 21 os) #[.slice none 0 0] 8 rfl (World.shaped_of_RefB (by kernel_rfl) (by kernel_rfl)) (by kernel_rfl) (by kernel_rfl) (by kernel_rfl) (cdMet os _)) ?_
  intro W base args ds gs before hval hW _ hwt hL _
  exact law_calls (f := 4) (tb := 4) cdPlain cdLaidOut (by kernel_rfl) rfl cdB rfl hval hW (cdGl hL) rfl hwt (fun hty hw => parseConcat_valid ds hty hw) (fun hty => by
    have hty' : typedAll Tryz.prog [38] ds := hty
    match ds, hty' with
    | [d0], _ => rfl)
theorem parseConcat_row : Rows.ParseConcatSaid :=
  OpenClaim.holds_of_wide 4 Tryz.f4 rfl rfl rfl rfl rfl rfl rfl ⟨rfl, rfl, rfl, rfl, rfl⟩ rfl rfl rfl rfl rfl (by kernel_rfl) Tryz.func4 (by kernel_rfl)
    (of_decide_eq_true (by kernel_rfl)) (by unfold Func.isWrapper; first | (rw [if_pos (by decide +kernel)]; kernel_rfl) | (rw [if_neg (by decide +kernel)]; exact ⟨rfl, rfl⟩))
    (fun os started H enc _ => parseConcat_lifted os started H enc)
theorem parseConcat_card : Rows.ParseConcatCardSaid :=
  Claim7.holds_tied_plain_at .later [] Rows.parseConcatCard.laidKinds true Rows.parseConcatCard.stood.harness Rows.parseConcatCard.stood.looks
    parseConcat_row (fun _ h => by cases h) (by kernel_rfl) (fun _ h => by cases h) parseConcat_row_tie rfl ⟨rfl, rfl⟩ (by kernel_rfl) rfl
    (fun f fn hf hfn => by
      obtain rfl : f = 4 := Option.some.inj ((show Tryz.prog.funcNamed Rows.parseConcatRow.func = some 4 by kernel_rfl).symm.trans hf) |>.symm
      obtain rfl : fn = Tryz.f4 := (Option.some.inj (Tryz.func4.symm.trans hfn)).symm
      exact ⟨by kernel_rfl, fun j t ht => by
        have hm : t ∈ [38] := by
          have := Array.mem_of_getElem? ht
          simpa [Tryz.f4] using this
        have hall : ([38].all fun u => !Tryz.prog.wantsStandIn u) = true := by kernel_rfl
        exact (show Tryz.prog.wantsStandIn t = false by simpa using List.all_eq_true.1 hall t hm)⟩)
    (by kernel_rfl)
#print axioms parseConcat_card
end Go.Proofs.YtfgafcjebfjepaaGreatDoor

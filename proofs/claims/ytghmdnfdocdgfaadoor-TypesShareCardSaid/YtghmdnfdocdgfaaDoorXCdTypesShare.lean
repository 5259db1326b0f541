/- The statement TypesShare of the package castingslaw04: whatever the input, the law returns true, and each argument reads as it did; the one listed variable is tied to the program's text. -/
import Derived.Test.YtghmdnfdocdgfaaDoorXCdBase
import Derived.Test.YtghmdnfdocdgfaaDoorXShC
set_option linter.all false
set_option maxRecDepth 100000
namespace Go.Proofs.YtghmdnfdocdgfaaDoor
open Go Go.Pv Go.ChangeShapes Go.WideShapes Go.RowKit
theorem cdPl : GlPlain (GT cdG) := by
  intro g c hc
  simp only [GT_g, cdG] at hc
  repeat split at hc
  all_goals first | (injection hc with hc; subst hc; rfl) | cases hc
theorem typesShare_valid {H : Type} (ds : List (DataW H)) (hty : typedAll Tryd.prog [24, 24] ds) (hw : (DataW.weightsEach Tryd.prog [24, 24] ds).all (· ≤ reachBytes) = true) : ValidT Tryd.prog (GT cdG) 6 (AV.s0L (argAVs Tryd.prog [24, 24] ds)) (.bool true) := by
  match ds, hty with
  | [d0, d1], ⟨⟨n0, h0⟩, ⟨n1, h1⟩, _⟩ =>
    obtain ⟨w0, hw⟩ := weightsEach_cons hw
    obtain ⟨w1, hw⟩ := weightsEach_cons hw
    obtain ⟨x0, e0, f0⟩ := ty_of cdS cdI cdL cdF cdTb n0 d0 h0 w0
    have a0 : argAV Tryd.prog 24 d0 = .agg (encTy x0) := by rw [argAV_agg cdF, e0]
    obtain ⟨x1, e1, f1⟩ := ty_of cdS cdI cdL cdF cdTb n1 d1 h1 w1
    have a1 : argAV Tryd.prog 24 d1 = .agg (encTy x1) := by rw [argAV_agg cdF, e1]
    simp only [argAVs, a0, a1, AV.s0L, AV.s0, encTy_s0]
    exact c_law04x_TypesShare cdG x0 x1 f0 f1 cdRes cdPl
theorem typesShare_lifted (os : Os) (started : os.Started) (H : Type) (enc : TypeId × Value → H) :
    ReturnsInHanded {} Tryd.checked os 6 .any (fun w args => (Rows.typesShareSpec.pre enc Tryd.prog Tryd.f6 [] false w args ∧ laidMetH Tryd.prog Rows.typesShareRow.laid w) ∧ sizedMet enc Tryd.prog Tryd.f6 (OpenSpec.ofChange Rows.typesShareSpec) false w args)
      (Rows.typesShareSpec.post enc Tryd.prog Tryd.f6 false true false false) := by
  refine returnsInHanded_of_change_and (C := Tryd.checked) (X := fun w _ => laidMetH Tryd.prog Rows.typesShareRow.laid w) (fun _ _ _ hh h => h.of_heap hh) cdOwn started (by kernel_rfl) Tryd.func6
    (ChangeSpec.witness_shaped (enc := enc) (C := Tryd.checked) (os := os) (X := fun w _ => laidMetH Tryd.prog Rows.typesShareRow.laid w) false (World.doorLaid Tryd.prog 14 os) #[.agg #[.string ⟨#[]⟩, .slice none 0 0, .int .i64 0], .agg #[.string ⟨#[]⟩, .slice none 0 0, .int .i64 0]] 8 rfl (World.shaped_of_RefB (by kernel_rfl) (by kernel_rfl)) (by kernel_rfl) (by kernel_rfl) (by kernel_rfl) (cdMet os _)) ?_
  intro W base args ds gs before hval hW _ hwt hL _
  exact law_callsT (f := 6) (tb := 4) cdPlain cdLaidOut (by kernel_rfl) rfl cdB rfl hval hW (fun g c hc => cdGl hL g c hc) rfl hwt (fun hty hw => typesShare_valid ds hty hw) cdPl (fun hty => by
    have hty' : typedAll Tryd.prog [24, 24] ds := hty
    match ds, hty' with
    | [d0, d1], _ => rfl)
theorem typesShare_row : Rows.TypesShareSaid :=
  OpenClaim.holds_of_wide 6 Tryd.f6 rfl rfl rfl rfl rfl rfl rfl ⟨rfl, rfl, rfl, rfl, rfl⟩ rfl rfl rfl rfl rfl (by kernel_rfl) Tryd.func6 (by kernel_rfl)
    (of_decide_eq_true (by kernel_rfl)) (by unfold Func.isWrapper; first | (rw [if_pos (by decide +kernel)]; kernel_rfl) | (rw [if_neg (by decide +kernel)]; exact ⟨rfl, rfl⟩))
    (fun os started H enc _ => typesShare_lifted os started H enc)
theorem typesShare_card : Rows.TypesShareCardSaid :=
  Claim7.holds_tied_plain_at .later [] Rows.typesShareCard.laidKinds true Rows.typesShareCard.stood.harness Rows.typesShareCard.stood.looks
    typesShare_row (fun _ h => by cases h) (by kernel_rfl) (fun _ h => by cases h) typesShare_row_tie rfl ⟨rfl, rfl⟩ (by kernel_rfl) rfl
    (fun f fn hf hfn => by
      obtain rfl : f = 6 := Option.some.inj ((show Tryd.prog.funcNamed Rows.typesShareRow.func = some 6 by kernel_rfl).symm.trans hf) |>.symm
      obtain rfl : fn = Tryd.f6 := (Option.some.inj (Tryd.func6.symm.trans hfn)).symm
      exact ⟨by kernel_rfl, fun j t ht => by
        have hm : t ∈ [24, 24] := by
          have := Array.mem_of_getElem? ht
          simpa [Tryd.f6] using this
        have hall : ([24, 24].all fun u => !Tryd.prog.wantsStandIn u) = true := by kernel_rfl
        exact (show Tryd.prog.wantsStandIn t = false by simpa using List.all_eq_true.1 hall t hm)⟩)
    (by kernel_rfl)
#print axioms typesShare_card
end Go.Proofs.YtghmdnfdocdgfaaDoor

/- The statement ExprShares of the package castingslaw05: whatever the input, the law returns true, and each argument reads as it did; the one listed variable is tied to the program's text. -/
import Derived.Test.YtjkabaejabibnaaDoorXCdBase
import Derived.Test.YtjkabaejabibnaaDoorXSeC
set_option linter.all false
set_option maxRecDepth 100000
namespace Go.Proofs.YtjkabaejabibnaaDoor
open Go Go.Pv Go.ChangeShapes Go.WideShapes Go.RowKit
theorem cdPl : GlPlain (GT cdG) := by
  intro g c hc
  simp only [GT_g, cdG] at hc
  repeat split at hc
  all_goals first | (injection hc with hc; subst hc; rfl) | cases hc
theorem exprShares_valid {H : Type} (ds : List (DataW H)) (hty : typedAll Tryd.prog [27, 27] ds) (hw : (DataW.weightsEach Tryd.prog [27, 27] ds).all (· ≤ reachBytes) = true) : ValidT Tryd.prog (GT cdG) 7 (AV.s0L (argAVs Tryd.prog [27, 27] ds)) (.bool true) := by
  match ds, hty with
  | [d0, d1], ⟨⟨n0, h0⟩, ⟨n1, h1⟩, _⟩ =>
    obtain ⟨w0, hw⟩ := weightsEach_cons hw
    obtain ⟨w1, hw⟩ := weightsEach_cons hw
    obtain ⟨x0, e0, f0⟩ := exp_of cdS cdI cdL cdF cdTb cdLE cdFE cdEb n0 d0 h0 w0
    have a0 : argAV Tryd.prog 27 d0 = .agg (encE x0) := by rw [argAV_agg cdFE, e0]
    obtain ⟨x1, e1, f1⟩ := exp_of cdS cdI cdL cdF cdTb cdLE cdFE cdEb n1 d1 h1 w1
    have a1 : argAV Tryd.prog 27 d1 = .agg (encE x1) := by rw [argAV_agg cdFE, e1]
    simp only [argAVs, a0, a1, AV.s0L, AV.s0, encTy_s0, encE_s0]
    exact c_law05x_ExprShares cdG x0 x1 f0 f1 cdRes cdPl
theorem exprShares_lifted (os : Os) (started : os.Started) (H : Type) (enc : TypeId × Value → H) :
    ReturnsInHanded {} Tryd.checked os 7 .any (fun w args => (Rows.exprSharesSpec.pre enc Tryd.prog Tryd.f7 [] false w args ∧ laidMetH Tryd.prog Rows.exprSharesRow.laid w) ∧ sizedMet enc Tryd.prog Tryd.f7 (OpenSpec.ofChange Rows.exprSharesSpec) false w args)
      (Rows.exprSharesSpec.post enc Tryd.prog Tryd.f7 false true false false) := by
  refine returnsInHanded_of_change_and (C := Tryd.checked) (X := fun w _ => laidMetH Tryd.prog Rows.exprSharesRow.laid w) (fun _ _ _ hh h => h.of_heap hh) cdOwn started (by kernel_rfl) Tryd.func7
    (ChangeSpec.witness_shaped (enc := enc) (C := Tryd.checked) (os := os) (X := fun w _ => laidMetH Tryd.prog Rows.exprSharesRow.laid w) false (World.doorLaid Tryd.prog 14 os) #[.agg #[.int .i64 0, .string ⟨#[]⟩, .string ⟨#[]⟩, .slice none 0 0, .int .i64 0, .slice none 0 0, .slice none 0 0, .int .i64 0], .agg #[.int .i64 0, .string ⟨#[]⟩, .string ⟨#[]⟩, .slice none 0 0, .int .i64 0, .slice none 0 0, .slice none 0 0, .int .i64 0]] 8 rfl (World.shaped_of_RefB (by kernel_rfl) (by kernel_rfl)) (by kernel_rfl) (by kernel_rfl) (by kernel_rfl) (cdMet os _)) ?_
  intro W base args ds gs before hval hW _ hwt hL _
  exact law_callsT (f := 7) (tb := 4) cdPlain cdLaidOut (by kernel_rfl) rfl cdB rfl hval hW (fun g c hc => cdGl hL g c hc) rfl hwt (fun hty hw => exprShares_valid ds hty hw) cdPl (fun hty => by
    have hty' : typedAll Tryd.prog [27, 27] ds := hty
    match ds, hty' with
    | [d0, d1], _ => rfl)
theorem exprShares_row : Rows.ExprSharesSaid :=
  OpenClaim.holds_of_wide 7 Tryd.f7 rfl rfl rfl rfl rfl rfl rfl ⟨rfl, rfl, rfl, rfl, rfl⟩ rfl rfl rfl rfl rfl (by kernel_rfl) Tryd.func7 (by kernel_rfl)
    (of_decide_eq_true (by kernel_rfl)) (by unfold Func.isWrapper; first | (rw [if_pos (by decide +kernel)]; kernel_rfl) | (rw [if_neg (by decide +kernel)]; exact ⟨rfl, rfl⟩))
    (fun os started H enc _ => exprShares_lifted os started H enc)
theorem exprShares_card : Rows.ExprSharesCardSaid :=
  Claim7.holds_tied_plain_at .later [] Rows.exprSharesCard.laidKinds true Rows.exprSharesCard.stood.harness Rows.exprSharesCard.stood.looks
    exprShares_row (fun _ h => by cases h) (by kernel_rfl) (fun _ h => by cases h) exprShares_row_tie rfl ⟨rfl, rfl⟩ (by kernel_rfl) rfl
    (fun f fn hf hfn => by
      obtain rfl : f = 7 := Option.some.inj ((show Tryd.prog.funcNamed Rows.exprSharesRow.func = some 7 by kernel_rfl).symm.trans hf) |>.symm
      obtain rfl : fn = Tryd.f7 := (Option.some.inj (Tryd.func7.symm.trans hfn)).symm
      exact ⟨by kernel_rfl, fun j t ht => by
        have hm : t ∈ [27, 27] := by
          have := Array.mem_of_getElem? ht
          simpa [Tryd.f7] using this
        have hall : ([27, 27].all fun u => !Tryd.prog.wantsStandIn u) = true := by kernel_rfl
        exact (show Tryd.prog.wantsStandIn t = false by simpa using List.all_eq_true.1 hall t hm)⟩)
    (by kernel_rfl)
#print axioms exprShares_card
end Go.Proofs.YtjkabaejabibnaaDoor

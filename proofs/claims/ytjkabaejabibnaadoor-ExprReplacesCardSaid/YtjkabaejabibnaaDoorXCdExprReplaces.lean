/- The statement ExprReplaces of the package castingslaw05: whatever the input, the law returns true, and each argument reads as it did; the one listed variable is tied to the program's text. -/
import Derived.Test.YtjkabaejabibnaaDoorXCdBase
import Derived.Test.YtjkabaejabibnaaDoorXExM
set_option linter.all false
set_option maxRecDepth 100000
namespace Go.Proofs.YtjkabaejabibnaaDoor
open Go Go.Pv Go.ChangeShapes Go.WideShapes Go.RowKit
theorem exprReplaces_valid {H : Type} (ds : List (DataW H)) (hty : typedAll Tryd.prog [27, 33, 25] ds) (hw : (DataW.weightsEach Tryd.prog [27, 33, 25] ds).all (· ≤ reachBytes) = true) : Valid Tryd.prog (G0 cdG false) 5 (argAVs Tryd.prog [27, 33, 25] ds) (.bool true) := by
  match ds, hty with
  | [d0, d1, d2], ⟨⟨n0, h0⟩, ⟨n1, h1⟩, ⟨n2, h2⟩, _⟩ =>
    obtain ⟨w0, hw⟩ := weightsEach_cons hw
    obtain ⟨w1, hw⟩ := weightsEach_cons hw
    obtain ⟨w2, hw⟩ := weightsEach_cons hw
    obtain ⟨x0, e0, f0⟩ := exp_of cdS cdI cdL cdF cdTb cdLE cdFE cdEb n0 d0 h0 w0
    have a0 : argAV Tryd.prog 27 d0 = .agg (encE x0) := by rw [argAV_agg cdFE, e0]
    obtain ⟨x1, e1, l1, f1⟩ := strs_of cdS cdLS cdSb n1 d1 h1 w1
    have a1 : argAV Tryd.prog 33 d1 = .slice (x1.map encS) := argAV_one (.inr (.inr (.inr ⟨_, cdLS⟩))) e1
    obtain ⟨x2, e2, l2, f2⟩ := exps_of cdS cdI cdL cdF cdTb cdLE cdFE cdEb n2 d2 h2 w2
    have a2 : argAV Tryd.prog 25 d2 = .slice (x2.map encE) := argAV_one (.inr (.inr (.inr ⟨_, cdLE⟩))) e2
    simp only [argAVs, a0, a1, a2]
    exact c_law05x_ExprReplaces cdG x0 x1 x2 f0 f2 cdRes
theorem exprReplaces_lifted (os : Os) (started : os.Started) (H : Type) (enc : TypeId × Value → H) :
    ReturnsInHanded {} Tryd.checked os 5 .any (fun w args => (Rows.exprReplacesSpec.pre enc Tryd.prog Tryd.f5 [] false w args ∧ laidMetH Tryd.prog Rows.exprReplacesRow.laid w) ∧ sizedMet enc Tryd.prog Tryd.f5 (OpenSpec.ofChange Rows.exprReplacesSpec) false w args)
      (Rows.exprReplacesSpec.post enc Tryd.prog Tryd.f5 false true false false) := by
  refine returnsInHanded_of_change_and (C := Tryd.checked) (X := fun w _ => laidMetH Tryd.prog Rows.exprReplacesRow.laid w) (fun _ _ _ hh h => h.of_heap hh) cdOwn started (by kernel_rfl) Tryd.func5
    (ChangeSpec.witness_shaped (enc := enc) (C := Tryd.checked) (os := os) (X := fun w _ => laidMetH Tryd.prog Rows.exprReplacesRow.laid w) false (World.doorLaid Tryd.prog 14 os) #[.agg #[.int .i64 0, .string ⟨#[]⟩, .string ⟨#[]⟩, .slice none 0 0, .int .i64 0, .slice none 0 0, .slice none 0 0, .int .i64 0], .slice none 0 0, .slice none 0 0] 8 rfl (World.shaped_of_RefB (by kernel_rfl) (by kernel_rfl)) (by kernel_rfl) (by kernel_rfl) (by kernel_rfl) (cdMet os _)) ?_
  intro W base args ds gs before hval hW _ hwt hL _
  exact law_calls (f := 5) (tb := 4) cdPlain cdLaidOut (by kernel_rfl) rfl cdB rfl hval hW (cdGl hL) rfl hwt (fun hty hw => exprReplaces_valid ds hty hw) (fun hty => by
    have hty' : typedAll Tryd.prog [27, 33, 25] ds := hty
    match ds, hty' with
    | [d0, d1, d2], _ => rfl)
theorem exprReplaces_row : Rows.ExprReplacesSaid :=
  OpenClaim.holds_of_wide 5 Tryd.f5 rfl rfl rfl rfl rfl rfl rfl ⟨rfl, rfl, rfl, rfl, rfl⟩ rfl rfl rfl rfl rfl (by kernel_rfl) Tryd.func5 (by kernel_rfl)
    (of_decide_eq_true (by kernel_rfl)) (by unfold Func.isWrapper; first | (rw [if_pos (by decide +kernel)]; kernel_rfl) | (rw [if_neg (by decide +kernel)]; exact ⟨rfl, rfl⟩))
    (fun os started H enc _ => exprReplaces_lifted os started H enc)
theorem exprReplaces_card : Rows.ExprReplacesCardSaid :=
  Claim7.holds_tied_plain_at .later [] Rows.exprReplacesCard.laidKinds true Rows.exprReplacesCard.stood.harness Rows.exprReplacesCard.stood.looks
    exprReplaces_row (fun _ h => by cases h) (by kernel_rfl) (fun _ h => by cases h) exprReplaces_row_tie rfl ⟨rfl, rfl⟩ (by kernel_rfl) rfl
    (fun f fn hf hfn => by
      obtain rfl : f = 5 := Option.some.inj ((show Tryd.prog.funcNamed Rows.exprReplacesRow.func = some 5 by kernel_rfl).symm.trans hf) |>.symm
      obtain rfl : fn = Tryd.f5 := (Option.some.inj (Tryd.func5.symm.trans hfn)).symm
      exact ⟨by kernel_rfl, fun j t ht => by
        have hm : t ∈ [27, 33, 25] := by
          have := Array.mem_of_getElem? ht
          simpa [Tryd.f5] using this
        have hall : ([27, 33, 25].all fun u => !Tryd.prog.wantsStandIn u) = true := by kernel_rfl
        exact (show Tryd.prog.wantsStandIn t = false by simpa using List.all_eq_true.1 hall t hm)⟩)
    (by kernel_rfl)
#print axioms exprReplaces_card
end Go.Proofs.YtjkabaejabibnaaDoor

/- The statement ExprSubstitutes of the package castingslaw05: whatever the input, the law returns true, and each argument reads as it did; the one listed variable is tied to the program's text. -/
import Derived.Test.YtjkabaejabibnaaDoorXCdBase
import Derived.Test.YtjkabaejabibnaaDoorXExL
set_option linter.all false
set_option maxRecDepth 100000
namespace Go.Proofs.YtjkabaejabibnaaDoor
open Go Go.Pv Go.ChangeShapes Go.WideShapes Go.RowKit
theorem exprSubstitutes_valid {H : Type} (ds : List (DataW H)) (hty : typedAll Tryd.prog [27, 33, 22] ds) (hw : (DataW.weightsEach Tryd.prog [27, 33, 22] ds).all (· ≤ reachBytes) = true) : Valid Tryd.prog (G0 cdG false) 4 (argAVs Tryd.prog [27, 33, 22] ds) (.bool true) := by
  match ds, hty with
  | [d0, d1, d2], ⟨⟨n0, h0⟩, ⟨n1, h1⟩, ⟨n2, h2⟩, _⟩ =>
    obtain ⟨w0, hw⟩ := weightsEach_cons hw
    obtain ⟨w1, hw⟩ := weightsEach_cons hw
    obtain ⟨w2, hw⟩ := weightsEach_cons hw
    obtain ⟨x0, e0, f0⟩ := exp_of cdS cdI cdL cdF cdTb cdLE cdFE cdEb n0 d0 h0 w0
    have a0 : argAV Tryd.prog 27 d0 = .agg (encE x0) := by rw [argAV_agg cdFE, e0]
    obtain ⟨x1, e1, l1, f1⟩ := strs_of cdS cdLS cdSb n1 d1 h1 w1
    have a1 : argAV Tryd.prog 33 d1 = .slice (x1.map encS) := argAV_one (.inr (.inr (.inr ⟨_, cdLS⟩))) e1
    obtain ⟨x2, e2, l2, f2⟩ := tys_of cdS cdI cdL cdF cdTb n2 d2 h2 w2
    have a2 : argAV Tryd.prog 22 d2 = .slice (x2.map encTy) := argAV_one (.inr (.inr (.inr ⟨_, cdL⟩))) e2
    simp only [argAVs, a0, a1, a2]
    exact c_law05x_ExprSubstitutes cdG x0 x1 x2 f0 l2 f2 cdRes
theorem exprSubstitutes_lifted (os : Os) (started : os.Started) (H : Type) (enc : TypeId × Value → H) :
    ReturnsInHanded {} Tryd.checked os 4 .any (fun w args => (Rows.exprSubstitutesSpec.pre enc Tryd.prog Tryd.f4 [] false w args ∧ laidMetH Tryd.prog Rows.exprSubstitutesRow.laid w) ∧ sizedMet enc Tryd.prog Tryd.f4 (OpenSpec.ofChange Rows.exprSubstitutesSpec) false w args)
      (Rows.exprSubstitutesSpec.post enc Tryd.prog Tryd.f4 false true false false) := by
  refine returnsInHanded_of_change_and (C := Tryd.checked) (X := fun w _ => laidMetH Tryd.prog Rows.exprSubstitutesRow.laid w) (fun _ _ _ hh h => h.of_heap hh) cdOwn started (by kernel_rfl) Tryd.func4
    (ChangeSpec.witness_shaped (enc := enc) (C := Tryd.checked) (os := os) (X := fun w _ => laidMetH Tryd.prog Rows.exprSubstitutesRow.laid w) false (World.doorLaid Tryd.prog 14 os) #[.agg #[.int .i64 0, .string ⟨#[]⟩, .string ⟨#[]⟩, .slice none 0 0, .int .i64 0, .slice none 0 0, .slice none 0 0, .int .i64 0], .slice none 0 0, .slice none 0 0] 8 rfl (World.shaped_of_RefB (by kernel_rfl) (by kernel_rfl)) (by kernel_rfl) (by kernel_rfl) (by kernel_rfl) (cdMet os _)) ?_
  intro W base args ds gs before hval hW _ hwt hL _
  exact law_calls (f := 4) (tb := 4) cdPlain cdLaidOut (by kernel_rfl) rfl cdB rfl hval hW (cdGl hL) rfl hwt (fun hty hw => exprSubstitutes_valid ds hty hw) (fun hty => by
    have hty' : typedAll Tryd.prog [27, 33, 22] ds := hty
    match ds, hty' with
    | [d0, d1, d2], _ => rfl)
theorem exprSubstitutes_row : Rows.ExprSubstitutesSaid :=
  OpenClaim.holds_of_wide 4 Tryd.f4 rfl rfl rfl rfl rfl rfl rfl ⟨rfl, rfl, rfl, rfl, rfl⟩ rfl rfl rfl rfl rfl (by kernel_rfl) Tryd.func4 (by kernel_rfl)
    (of_decide_eq_true (by kernel_rfl)) (by unfold Func.isWrapper; first | (rw [if_pos (by decide +kernel)]; kernel_rfl) | (rw [if_neg (by decide +kernel)]; exact ⟨rfl, rfl⟩))
    (fun os started H enc _ => exprSubstitutes_lifted os started H enc)
theorem exprSubstitutes_card : Rows.ExprSubstitutesCardSaid :=
  Claim7.holds_tied_plain_at .later [] Rows.exprSubstitutesCard.laidKinds true Rows.exprSubstitutesCard.stood.harness Rows.exprSubstitutesCard.stood.looks
    exprSubstitutes_row (fun _ h => by cases h) (by kernel_rfl) (fun _ h => by cases h) exprSubstitutes_row_tie rfl ⟨rfl, rfl⟩ (by kernel_rfl) rfl
    (fun f fn hf hfn => by
      obtain rfl : f = 4 := Option.some.inj ((show Tryd.prog.funcNamed Rows.exprSubstitutesRow.func = some 4 by kernel_rfl).symm.trans hf) |>.symm
      obtain rfl : fn = Tryd.f4 := (Option.some.inj (Tryd.func4.symm.trans hfn)).symm
      exact ⟨by kernel_rfl, fun j t ht => by
        have hm : t ∈ [27, 33, 22] := by
          have := Array.mem_of_getElem? ht
          simpa [Tryd.f4] using this
        have hall : ([27, 33, 22].all fun u => !Tryd.prog.wantsStandIn u) = true := by kernel_rfl
        exact (show Tryd.prog.wantsStandIn t = false by simpa using List.all_eq_true.1 hall t hm)⟩)
    (by kernel_rfl)
#print axioms exprSubstitutes_card
end Go.Proofs.YtjkabaejabibnaaDoor

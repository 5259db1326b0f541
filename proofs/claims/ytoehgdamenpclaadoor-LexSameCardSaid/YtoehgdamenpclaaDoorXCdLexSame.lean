/- The statement LexSame of the package castingslaw03: whatever the input, the law returns true, and each argument reads as it did; the one listed variable is tied to the program's text. -/
import Derived.Test.YtoehgdamenpclaaDoorXCdBase
import Derived.Test.YtoehgdamenpclaaDoorXLxG
set_option linter.all false
set_option maxRecDepth 100000
namespace Go.Proofs.YtoehgdamenpclaaDoor
open Go Go.Pv Go.ChangeShapes Go.WideShapes Go.RowKit
theorem lexSame_valid {H : Type} (ds : List (DataW H)) (hty : typedAll Tryd.prog [28, 28] ds) (hw : (DataW.weightsEach Tryd.prog [28, 28] ds).all (· ≤ reachBytes) = true) : Valid Tryd.prog (G0 cdG false) 6 (argAVs Tryd.prog [28, 28] ds) (.bool true) := by
  match ds, hty with
  | [d0, d1], ⟨⟨n0, h0⟩, ⟨n1, h1⟩, _⟩ =>
    obtain ⟨w0, hw⟩ := weightsEach_cons hw
    obtain ⟨w1, hw⟩ := weightsEach_cons hw
    obtain ⟨x0, e0, l0⟩ := toks_of cdS cdI cdLK cdFK cdKb n0 d0 h0 w0
    have a0 : argAV Tryd.prog 28 d0 = .slice (x0.map encK) := argAV_one (.inr (.inr (.inr ⟨_, cdLK⟩))) e0
    obtain ⟨x1, e1, l1⟩ := toks_of cdS cdI cdLK cdFK cdKb n1 d1 h1 w1
    have a1 : argAV Tryd.prog 28 d1 = .slice (x1.map encK) := argAV_one (.inr (.inr (.inr ⟨_, cdLK⟩))) e1
    simp only [argAVs, a0, a1]
    exact c_law03x_LexSame cdG false x0 x1 cdHty
theorem lexSame_lifted (os : Os) (started : os.Started) (H : Type) (enc : TypeId × Value → H) :
    ReturnsInHanded {} Tryd.checked os 6 .any (fun w args => (Rows.lexSameSpec.pre enc Tryd.prog Tryd.f6 [] false w args ∧ laidMetH Tryd.prog Rows.lexSameRow.laid w) ∧ sizedMet enc Tryd.prog Tryd.f6 (OpenSpec.ofChange Rows.lexSameSpec) false w args)
      (Rows.lexSameSpec.post enc Tryd.prog Tryd.f6 false true false false) := by
  refine returnsInHanded_of_change_and (C := Tryd.checked) (X := fun w _ => laidMetH Tryd.prog Rows.lexSameRow.laid w) (fun _ _ _ hh h => h.of_heap hh) cdOwn started (by kernel_rfl) Tryd.func6
    (ChangeSpec.witness_shaped (enc := enc) (C := Tryd.checked) (os := os) (X := fun w _ => laidMetH Tryd.prog Rows.lexSameRow.laid w) false (World.doorLaid Tryd.prog 16 os) #[.slice none 0 0, .slice none 0 0] 8 rfl (World.shaped_of_RefB (by kernel_rfl) (by kernel_rfl)) (by kernel_rfl) (by kernel_rfl) (by kernel_rfl) (cdMet os _)) ?_
  intro W base args ds gs before hval hW _ hwt hL _
  exact law_calls (f := 6) (tb := 4) cdPlain cdLaidOut (by kernel_rfl) rfl cdB rfl hval hW (cdGl hL) rfl hwt (fun hty hw => lexSame_valid ds hty hw) (fun hty => by
    have hty' : typedAll Tryd.prog [28, 28] ds := hty
    match ds, hty' with
    | [d0, d1], _ => rfl)
theorem lexSame_row : Rows.LexSameSaid :=
  OpenClaim.holds_of_wide 6 Tryd.f6 rfl rfl rfl rfl rfl rfl rfl ⟨rfl, rfl, rfl, rfl, rfl⟩ rfl rfl rfl rfl rfl (by kernel_rfl) Tryd.func6 (by kernel_rfl)
    (of_decide_eq_true (by kernel_rfl)) (by unfold Func.isWrapper; first | (rw [if_pos (by decide +kernel)]; kernel_rfl) | (rw [if_neg (by decide +kernel)]; exact ⟨rfl, rfl⟩))
    (fun os started H enc _ => lexSame_lifted os started H enc)
theorem lexSame_card : Rows.LexSameCardSaid :=
  Claim7.holds_tied_plain_at .later [] Rows.lexSameCard.laidKinds true Rows.lexSameCard.stood.harness Rows.lexSameCard.stood.looks
    lexSame_row (fun _ h => by cases h) (by kernel_rfl) (fun _ h => by cases h) lexSame_row_tie rfl ⟨rfl, rfl⟩ (by kernel_rfl) rfl
    (fun f fn hf hfn => by
      obtain rfl : f = 6 := Option.some.inj ((show Tryd.prog.funcNamed Rows.lexSameRow.func = some 6 by kernel_rfl).symm.trans hf) |>.symm
      obtain rfl : fn = Tryd.f6 := (Option.some.inj (Tryd.func6.symm.trans hfn)).symm
      exact ⟨by kernel_rfl, fun j t ht => by
        have hm : t ∈ [28, 28] := by
          have := Array.mem_of_getElem? ht
          simpa [Tryd.f6] using this
        have hall : ([28, 28].all fun u => !Tryd.prog.wantsStandIn u) = true := by kernel_rfl
        exact (show Tryd.prog.wantsStandIn t = false by simpa using List.all_eq_true.1 hall t hm)⟩)
    (by kernel_rfl)
#print axioms lexSame_card
end Go.Proofs.YtoehgdamenpclaaDoor

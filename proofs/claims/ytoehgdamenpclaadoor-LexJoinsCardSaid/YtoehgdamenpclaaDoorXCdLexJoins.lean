/- The statement LexJoins of the package castingslaw03: whatever the input, the law returns true, and each argument reads as it did; the one listed variable is tied to the program's text. -/
import Derived.Test.YtoehgdamenpclaaDoorXCdBase
import Derived.Test.YtoehgdamenpclaaDoorXLxG
set_option linter.all false
set_option maxRecDepth 100000
namespace Go.Proofs.YtoehgdamenpclaaDoor
open Go Go.Pv Go.ChangeShapes Go.WideShapes Go.RowKit
theorem lexJoins_valid {H : Type} (ds : List (DataW H)) (hty : typedAll Tryd.prog [9] ds) (hw : (DataW.weightsEach Tryd.prog [9] ds).all (· ≤ reachBytes) = true) : Valid Tryd.prog (G0 cdG false) 4 (argAVs Tryd.prog [9] ds) (.bool true) := by
  match ds, hty with
  | [d0], ⟨⟨n0, h0⟩, _⟩ =>
    obtain ⟨w0, hw⟩ := weightsEach_cons hw
    obtain ⟨x0, e0, l0⟩ := str_of cdS h0 w0
    have a0 : argAV Tryd.prog 9 d0 = .str x0 := argAV_one (.inl cdS) e0
    simp only [argAVs, a0]
    exact c_law03x_LexJoins cdG false x0 cdHty
theorem lexJoins_lifted (os : Os) (started : os.Started) (H : Type) (enc : TypeId × Value → H) :
    ReturnsInHanded {} Tryd.checked os 4 .any (fun w args => (Rows.lexJoinsSpec.pre enc Tryd.prog Tryd.f4 [] false w args ∧ laidMetH Tryd.prog Rows.lexJoinsRow.laid w) ∧ sizedMet enc Tryd.prog Tryd.f4 (OpenSpec.ofChange Rows.lexJoinsSpec) false w args)
      (Rows.lexJoinsSpec.post enc Tryd.prog Tryd.f4 false true false false) := by
  refine returnsInHanded_of_change_and (C := Tryd.checked) (X := fun w _ => laidMetH Tryd.prog Rows.lexJoinsRow.laid w) (fun _ _ _ hh h => h.of_heap hh) cdOwn started (by kernel_rfl) Tryd.func4
    (ChangeSpec.witness_shaped (enc := enc) (C := Tryd.checked) (os := os) (X := fun w _ => laidMetH Tryd.prog Rows.lexJoinsRow.laid w) false (World.doorLaid Tryd.prog 16 os) #[.string ⟨#[]⟩] 8 rfl (World.shaped_of_RefB (by kernel_rfl) (by kernel_rfl)) (by kernel_rfl) (by kernel_rfl) (by kernel_rfl) (cdMet os _)) ?_
  intro W base args ds gs before hval hW _ hwt hL _
  exact law_calls (f := 4) (tb := 4) cdPlain cdLaidOut (by kernel_rfl) rfl cdB rfl hval hW (cdGl hL) rfl hwt (fun hty hw => lexJoins_valid ds hty hw) (fun hty => by
    have hty' : typedAll Tryd.prog [9] ds := hty
    match ds, hty' with
    | [d0], _ => rfl)
theorem lexJoins_row : Rows.LexJoinsSaid :=
  OpenClaim.holds_of_wide 4 Tryd.f4 rfl rfl rfl rfl rfl rfl rfl ⟨rfl, rfl, rfl, rfl, rfl⟩ rfl rfl rfl rfl rfl (by kernel_rfl) Tryd.func4 (by kernel_rfl)
    (of_decide_eq_true (by kernel_rfl)) (by unfold Func.isWrapper; first | (rw [if_pos (by decide +kernel)]; kernel_rfl) | (rw [if_neg (by decide +kernel)]; exact ⟨rfl, rfl⟩))
    (fun os started H enc _ => lexJoins_lifted os started H enc)
theorem lexJoins_card : Rows.LexJoinsCardSaid :=
  Claim7.holds_tied_plain_at .later [] Rows.lexJoinsCard.laidKinds true Rows.lexJoinsCard.stood.harness Rows.lexJoinsCard.stood.looks
    lexJoins_row (fun _ h => by cases h) (by kernel_rfl) (fun _ h => by cases h) lexJoins_row_tie rfl ⟨rfl, rfl⟩ (by kernel_rfl) rfl
    (fun f fn hf hfn => by
      obtain rfl : f = 4 := Option.some.inj ((show Tryd.prog.funcNamed Rows.lexJoinsRow.func = some 4 by kernel_rfl).symm.trans hf) |>.symm
      obtain rfl : fn = Tryd.f4 := (Option.some.inj (Tryd.func4.symm.trans hfn)).symm
      exact ⟨by kernel_rfl, fun j t ht => by
        have hm : t ∈ [9] := by
          have := Array.mem_of_getElem? ht
          simpa [Tryd.f4] using this
        have hall : ([9].all fun u => !Tryd.prog.wantsStandIn u) = true := by kernel_rfl
        exact (show Tryd.prog.wantsStandIn t = false by simpa using List.all_eq_true.1 hall t hm)⟩)
    (by kernel_rfl)
#print axioms lexJoins_card
end Go.Proofs.YtoehgdamenpclaaDoor

/- The statement LexComments of the package castingslaw03: whatever the input, the law returns true, and each argument reads as it did; the one listed variable is tied to the program's text. -/
import Derived.Test.YtoehgdamenpclaaDoorXCdBase
import Derived.Test.YtoehgdamenpclaaDoorXLxG
set_option linter.all false
set_option maxRecDepth 100000
namespace Go.Proofs.YtoehgdamenpclaaDoor
open Go Go.Pv Go.ChangeShapes Go.WideShapes Go.RowKit
theorem lexComments_valid {H : Type} (ds : List (DataW H)) (hty : typedAll Tryd.prog [9, 9] ds) (hw : (DataW.weightsEach Tryd.prog [9, 9] ds).all (· ≤ reachBytes) = true) : Valid Tryd.prog (G0 cdG false) 7 (argAVs Tryd.prog [9, 9] ds) (.bool true) := by
  match ds, hty with
  | [d0, d1], ⟨⟨n0, h0⟩, ⟨n1, h1⟩, _⟩ =>
    obtain ⟨w0, hw⟩ := weightsEach_cons hw
    obtain ⟨w1, hw⟩ := weightsEach_cons hw
    obtain ⟨x0, e0, l0⟩ := str_of cdS h0 w0
    have a0 : argAV Tryd.prog 9 d0 = .str x0 := argAV_one (.inl cdS) e0
    obtain ⟨x1, e1, l1⟩ := str_of cdS h1 w1
    have a1 : argAV Tryd.prog 9 d1 = .str x1 := argAV_one (.inl cdS) e1
    simp only [argAVs, a0, a1]
    exact c_law03x_LexComments cdG false x0 x1 cdHty
theorem lexComments_lifted (os : Os) (started : os.Started) (H : Type) (enc : TypeId × Value → H) :
    ReturnsInHanded {} Tryd.checked os 7 .any (fun w args => (Rows.lexCommentsSpec.pre enc Tryd.prog Tryd.f7 [] false w args ∧ laidMetH Tryd.prog Rows.lexCommentsRow.laid w) ∧ sizedMet enc Tryd.prog Tryd.f7 (OpenSpec.ofChange Rows.lexCommentsSpec) false w args)
      (Rows.lexCommentsSpec.post enc Tryd.prog Tryd.f7 false true false false) := by
  refine returnsInHanded_of_change_and (C := Tryd.checked) (X := fun w _ => laidMetH Tryd.prog Rows.lexCommentsRow.laid w) (fun _ _ _ hh h => h.of_heap hh) cdOwn started (by kernel_rfl) Tryd.func7
    (ChangeSpec.witness_shaped (enc := enc) (C := Tryd.checked) (os := os) (X := fun w _ => laidMetH Tryd.prog Rows.lexCommentsRow.laid w) false (World.doorLaid Tryd.prog 16 os) #[.string ⟨#[]⟩, .string ⟨#[]⟩] 8 rfl (World.shaped_of_RefB (by kernel_rfl) (by kernel_rfl)) (by kernel_rfl) (by kernel_rfl) (by kernel_rfl) (cdMet os _)) ?_
  intro W base args ds gs before hval hW _ hwt hL _
  exact law_calls (f := 7) (tb := 4) cdPlain cdLaidOut (by kernel_rfl) rfl cdB rfl hval hW (cdGl hL) rfl hwt (fun hty hw => lexComments_valid ds hty hw) (fun hty => by
    have hty' : typedAll Tryd.prog [9, 9] ds := hty
    match ds, hty' with
    | [d0, d1], _ => rfl)
theorem lexComments_row : Rows.LexCommentsSaid :=
  OpenClaim.holds_of_wide 7 Tryd.f7 rfl rfl rfl rfl rfl rfl rfl ⟨rfl, rfl, rfl, rfl, rfl⟩ rfl rfl rfl rfl rfl (by kernel_rfl) Tryd.func7 (by kernel_rfl)
    (of_decide_eq_true (by kernel_rfl)) (by unfold Func.isWrapper; first | (rw [if_pos (by decide +kernel)]; kernel_rfl) | (rw [if_neg (by decide +kernel)]; exact ⟨rfl, rfl⟩))
    (fun os started H enc _ => lexComments_lifted os started H enc)
theorem lexComments_card : Rows.LexCommentsCardSaid :=
  Claim7.holds_tied_plain_at .later [] Rows.lexCommentsCard.laidKinds true Rows.lexCommentsCard.stood.harness Rows.lexCommentsCard.stood.looks
    lexComments_row (fun _ h => by cases h) (by kernel_rfl) (fun _ h => by cases h) lexComments_row_tie rfl ⟨rfl, rfl⟩ (by kernel_rfl) rfl
    (fun f fn hf hfn => by
      obtain rfl : f = 7 := Option.some.inj ((show Tryd.prog.funcNamed Rows.lexCommentsRow.func = some 7 by kernel_rfl).symm.trans hf) |>.symm
      obtain rfl : fn = Tryd.f7 := (Option.some.inj (Tryd.func7.symm.trans hfn)).symm
      exact ⟨by kernel_rfl, fun j t ht => by
        have hm : t ∈ [9, 9] := by
          have := Array.mem_of_getElem? ht
          simpa [Tryd.f7] using this
        have hall : ([9, 9].all fun u => !Tryd.prog.wantsStandIn u) = true := by kernel_rfl
        exact (show Tryd.prog.wantsStandIn t = false by simpa using List.all_eq_true.1 hall t hm)⟩)
    (by kernel_rfl)
#print axioms lexComments_card
end Go.Proofs.YtoehgdamenpclaaDoor

/- The statement NameIndexes of the package castingslaw01: whatever the input, the law returns true, and each argument reads as it did; the one listed variable is tied to the program's text. -/
import Derived.Test.YtngpggbigjeehaaDoorXCdBase
import Derived.Test.YtngpggbigjeehaaDoorXNaO
set_option linter.all false
set_option maxRecDepth 100000
namespace Go.Proofs.YtngpggbigjeehaaDoor
open Go Go.Pv Go.ChangeShapes Go.WideShapes Go.RowKit
theorem nameIndexes_valid {H : Type} (ds : List (DataW H)) (hty : typedAll Tryd.prog [9] ds) (hw : (DataW.weightsEach Tryd.prog [9] ds).all (· ≤ reachBytes) = true) : Valid Tryd.prog (G0 cdG false) 5 (argAVs Tryd.prog [9] ds) (.bool true) := by
  match ds, hty with
  | [d0], ⟨⟨n0, h0⟩, _⟩ =>
    obtain ⟨w0, hw⟩ := weightsEach_cons hw
    obtain ⟨x0, e0, l0⟩ := str_of cdS h0 w0
    have a0 : argAV Tryd.prog 9 d0 = .str x0 := argAV_one (.inl cdS) e0
    simp only [argAVs, a0]
    exact c_law01x_NameIndexes cdG false x0 cdRes cdTab cdEs cdEr
theorem nameIndexes_lifted (os : Os) (started : os.Started) (H : Type) (enc : TypeId × Value → H) :
    ReturnsInHanded {} Tryd.checked os 5 .any (fun w args => (Rows.nameIndexesSpec.pre enc Tryd.prog Tryd.f5 [] false w args ∧ laidMetH Tryd.prog Rows.nameIndexesRow.laid w) ∧ sizedMet enc Tryd.prog Tryd.f5 (OpenSpec.ofChange Rows.nameIndexesSpec) false w args)
      (Rows.nameIndexesSpec.post enc Tryd.prog Tryd.f5 false true false false) := by
  refine returnsInHanded_of_change_and (C := Tryd.checked) (X := fun w _ => laidMetH Tryd.prog Rows.nameIndexesRow.laid w) (fun _ _ _ hh h => h.of_heap hh) cdOwn started (by kernel_rfl) Tryd.func5
    (ChangeSpec.witness_shaped (enc := enc) (C := Tryd.checked) (os := os) (X := fun w _ => laidMetH Tryd.prog Rows.nameIndexesRow.laid w) false (World.doorLaid Tryd.prog 67 os) #[.string ⟨#[]⟩] 8 rfl (World.shaped_of_RefB (by kernel_rfl) (by kernel_rfl)) (by kernel_rfl) (by kernel_rfl) (by kernel_rfl) (cdMet os _)) ?_
  intro W base args ds gs before hval hW _ hwt hL _
  exact law_calls (f := 5) (tb := 4) cdPlain cdLaidOut (by kernel_rfl) rfl cdB rfl hval hW (cdGl hL) rfl hwt (fun hty hw => nameIndexes_valid ds hty hw) (fun hty => by
    have hty' : typedAll Tryd.prog [9] ds := hty
    match ds, hty' with
    | [d0], _ => rfl)
theorem nameIndexes_row : Rows.NameIndexesSaid :=
  OpenClaim.holds_of_wide 5 Tryd.f5 rfl rfl rfl rfl rfl rfl rfl ⟨rfl, rfl, rfl, rfl, rfl⟩ rfl rfl rfl rfl rfl (by kernel_rfl) Tryd.func5 (by kernel_rfl)
    (of_decide_eq_true (by kernel_rfl)) (by unfold Func.isWrapper; first | (rw [if_pos (by decide +kernel)]; kernel_rfl) | (rw [if_neg (by decide +kernel)]; exact ⟨rfl, rfl⟩))
    (fun os started H enc _ => nameIndexes_lifted os started H enc)
theorem nameIndexes_card : Rows.NameIndexesCardSaid :=
  Claim7.holds_tied_plain_at .later [] Rows.nameIndexesCard.laidKinds true Rows.nameIndexesCard.stood.harness Rows.nameIndexesCard.stood.looks
    nameIndexes_row (fun _ h => by cases h) (by kernel_rfl) (fun _ h => by cases h) nameIndexes_row_tie rfl ⟨rfl, rfl⟩ (by kernel_rfl) rfl
    (fun f fn hf hfn => by
      obtain rfl : f = 5 := Option.some.inj ((show Tryd.prog.funcNamed Rows.nameIndexesRow.func = some 5 by kernel_rfl).symm.trans hf) |>.symm
      obtain rfl : fn = Tryd.f5 := (Option.some.inj (Tryd.func5.symm.trans hfn)).symm
      exact ⟨by kernel_rfl, fun j t ht => by
        have hm : t ∈ [9] := by
          have := Array.mem_of_getElem? ht
          simpa [Tryd.f5] using this
        have hall : ([9].all fun u => !Tryd.prog.wantsStandIn u) = true := by kernel_rfl
        exact (show Tryd.prog.wantsStandIn t = false by simpa using List.all_eq_true.1 hall t hm)⟩)
    (by kernel_rfl)
#print axioms nameIndexes_card
end Go.Proofs.YtngpggbigjeehaaDoor

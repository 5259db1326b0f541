/- The statement DeclClones of the package castingslaw06: whatever the input, the law returns true, and each argument reads as it did; the one listed variable is tied to the program's text. -/
import Derived.Test.YtdifpfehijnmiaaGreatDoorXCdBase
import Derived.Test.YtdifpfehijnmiaaGreatDoorXSdB
set_option linter.all false
set_option maxRecDepth 100000
namespace Go.Proofs.YtdifpfehijnmiaaGreatDoor
open Go Go.Pv Go.ChangeShapes Go.WideShapes Go.RowKit
theorem cdPl : GlPlain (GT cdG) := by
  intro g c hc
  simp only [GT_g, cdG] at hc
  repeat split at hc
  all_goals first | (injection hc with hc; subst hc; rfl) | cases hc
theorem declClones_valid {H : Type} (ds : List (DataW H)) (hty : typedAll Tryz.prog [40] ds) (hw : (DataW.weightsEach Tryz.prog [40] ds).all (· ≤ reachBytes) = true) : ValidT Tryz.prog (GT cdG) 6 (AV.s0L (argAVs Tryz.prog [40] ds)) (.bool true) := by
  match ds, hty with
  | [d0], ⟨⟨n0, h0⟩, _⟩ =>
    obtain ⟨w0, hw⟩ := weightsEach_cons hw
    obtain ⟨x0, e0, f0⟩ := pg_of cdDT cdDD cdDL cdDb cdZ n0 d0 h0 w0
    have a0 : argAV Tryz.prog 40 d0 = .agg (encPg x0) := by rw [argAV_agg cdZ, e0]
    simp only [argAVs, a0, AV.s0L, AV.s0, encTy_s0, encPg_s0]
    exact c_law06x_DeclClones cdG x0 f0 cdRes cdPl
theorem declClones_lifted (os : Os) (started : os.Started) (H : Type) (enc : TypeId × Value → H) :
    ReturnsInHanded {} Tryz.checked os 6 .any (fun w args => (Rows.declClonesSpec.pre enc Tryz.prog Tryz.f6 [] false w args ∧ laidMetH Tryz.prog Rows.declClonesRow.laid w) ∧ sizedMet enc Tryz.prog Tryz.f6 (OpenSpec.ofChange Rows.declClonesSpec) false w args)
      (Rows.declClonesSpec.post enc Tryz.prog Tryz.f6 false true false false) := by
  refine returnsInHanded_of_change_and (C := Tryz.checked) (X := fun w _ => laidMetH Tryz.prog Rows.declClonesRow.laid w) (fun _ _ _ hh h => h.of_heap hh) cdOwn started (by kernel_rfl) Tryz.func6
    (ChangeSpec.witness_shaped (enc := enc) (C := Tryz.checked) (os := os) (X := fun w _ => laidMetH Tryz.prog Rows.declClonesRow.laid w) false (World.doorLaid Tryz.prog 14 os) #[.agg #[.slice none 0 0, .int .i64 0, .string ⟨#[]⟩, .string ⟨#[]⟩, .slice none 0 0, .int .i64 0, .slice none 0 0, .slice none 0 0, .int .i64 0]] 8 rfl (World.shaped_of_RefB (by kernel_rfl) (by kernel_rfl)) (by kernel_rfl) (by kernel_rfl) (by kernel_rfl) (cdMet os _)) ?_
  intro W base args ds gs before hval hW _ hwt hL _
  exact law_callsT (f := 6) (tb := 4) cdPlain cdLaidOut (by kernel_rfl) rfl cdB rfl hval hW (fun g c hc => cdGl hL g c hc) rfl hwt (fun hty hw => declClones_valid ds hty hw) cdPl (fun hty => by
    have hty' : typedAll Tryz.prog [40] ds := hty
    match ds, hty' with
    | [d0], _ => rfl)
theorem declClones_row : Rows.DeclClonesSaid :=
  OpenClaim.holds_of_wide 6 Tryz.f6 rfl rfl rfl rfl rfl rfl rfl ⟨rfl, rfl, rfl, rfl, rfl⟩ rfl rfl rfl rfl rfl (by kernel_rfl) Tryz.func6 (by kernel_rfl)
    (of_decide_eq_true (by kernel_rfl)) (by unfold Func.isWrapper; first | (rw [if_pos (by decide +kernel)]; kernel_rfl) | (rw [if_neg (by decide +kernel)]; exact ⟨rfl, rfl⟩))
    (fun os started H enc _ => declClones_lifted os started H enc)
theorem declClones_card : Rows.DeclClonesCardSaid :=
  Claim7.holds_tied_plain_at .later [] Rows.declClonesCard.laidKinds true Rows.declClonesCard.stood.harness Rows.declClonesCard.stood.looks
    declClones_row (fun _ h => by cases h) (by kernel_rfl) (fun _ h => by cases h) declClones_row_tie rfl ⟨rfl, rfl⟩ (by kernel_rfl) rfl
    (fun f fn hf hfn => by
      obtain rfl : f = 6 := Option.some.inj ((show Tryz.prog.funcNamed Rows.declClonesRow.func = some 6 by kernel_rfl).symm.trans hf) |>.symm
      obtain rfl : fn = Tryz.f6 := (Option.some.inj (Tryz.func6.symm.trans hfn)).symm
      exact ⟨by kernel_rfl, fun j t ht => by
        have hm : t ∈ [40] := by
          have := Array.mem_of_getElem? ht
          simpa [Tryz.f6] using this
        have hall : ([40].all fun u => !Tryz.prog.wantsStandIn u) = true := by kernel_rfl
        exact (show Tryz.prog.wantsStandIn t = false by simpa using List.all_eq_true.1 hall t hm)⟩)
    (by kernel_rfl)
#print axioms declClones_card
end Go.Proofs.YtdifpfehijnmiaaGreatDoor

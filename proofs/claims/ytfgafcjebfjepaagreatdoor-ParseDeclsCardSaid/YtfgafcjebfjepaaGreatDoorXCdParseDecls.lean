/- The statement ParseDecls of the package castingslaw08: whatever the input, the law returns true, and each argument reads as it did; the one listed variable is tied to the program's text. -/
import Derived.Test.YtfgafcjebfjepaaGreatDoorXCdBase
import Derived.Test.YtfgafcjebfjepaaGreatDoorXQdB
set_option linter.all false
set_option maxRecDepth 100000
namespace Go.Proofs.YtfgafcjebfjepaaGreatDoor
open Go Go.Pv Go.ChangeShapes Go.WideShapes Go.RowKit
theorem parseDecls_valid {H : Type} (ds : List (DataW H)) (hty : typedAll Tryz.prog [9] ds) (hw : (DataW.weightsEach Tryz.prog [9] ds).all (· ≤ reachBytes) = true) : Valid Tryz.prog (G0 cdG false) 6 (argAVs Tryz.prog [9] ds) (.bool true) := by
  match ds, hty with
  | [d0], ⟨⟨n0, h0⟩, _⟩ =>
    obtain ⟨w0, hw⟩ := weightsEach_cons hw
    obtain ⟨x0, e0, l0⟩ := str_of cdS h0 w0
    have a0 : argAV Tryz.prog 9 d0 = .str x0 := argAV_one (.inl cdS) e0
    simp only [argAVs, a0]
    exact c_law08x_ParseDecls cdG x0 l0 cdRes cdHty
theorem parseDecls_lifted (os : Os) (started : os.Started) (H : Type) (enc : TypeId × Value → H) :
    ReturnsInHanded {} Tryz.checked os 6 .any (fun w args => (Rows.parseDeclsSpec.pre enc Tryz.prog Tryz.f6 [] false w args ∧ laidMetH Tryz.prog Rows.parseDeclsRow.laid w) ∧ sizedMet enc Tryz.prog Tryz.f6 (OpenSpec.ofChange Rows.parseDeclsSpec) false w args)
      (Rows.parseDeclsSpec.post enc Tryz.prog Tryz.f6 false true false false) := by
  refine returnsInHanded_of_change_and (C := Tryz.checked) (X := fun w _ => laidMetH Tryz.prog Rows.parseDeclsRow.laid w) (fun _ _ _ hh h => h.of_heap hh) cdOwn started (by kernel_rfl) Tryz.func6
    (ChangeSpec.witness_shaped (enc := enc) (C := Tryz.checked) (os := os) (X := fun w _ => laidMetH Tryz.prog Rows.parseDeclsRow.laid w) false (World.doorLaid Tryz.prog 21 os) #[.string ⟨#[]⟩] 8 rfl (World.shaped_of_RefB (by kernel_rfl) (by kernel_rfl)) (by kernel_rfl) (by kernel_rfl) (by kernel_rfl) (cdMet os _)) ?_
  intro W base args ds gs before hval hW _ hwt hL _
  exact law_calls (f := 6) (tb := 4) cdPlain cdLaidOut (by kernel_rfl) rfl cdB rfl hval hW (cdGl hL) rfl hwt (fun hty hw => parseDecls_valid ds hty hw) (fun hty => by
    have hty' : typedAll Tryz.prog [9] ds := hty
    match ds, hty' with
    | [d0], _ => rfl)
theorem parseDecls_row : Rows.ParseDeclsSaid :=
  OpenClaim.holds_of_wide 6 Tryz.f6 rfl rfl rfl rfl rfl rfl rfl ⟨rfl, rfl, rfl, rfl, rfl⟩ rfl rfl rfl rfl rfl (by kernel_rfl) Tryz.func6 (by kernel_rfl)
    (of_decide_eq_true (by kernel_rfl)) (by unfold Func.isWrapper; first | (rw [if_pos (by decide +kernel)]; kernel_rfl) | (rw [if_neg (by decide +kernel)]; exact ⟨rfl, rfl⟩))
    (fun os started H enc _ => parseDecls_lifted os started H enc)
theorem parseDecls_card : Rows.ParseDeclsCardSaid :=
  Claim7.holds_tied_plain_at .later [] Rows.parseDeclsCard.laidKinds true Rows.parseDeclsCard.stood.harness Rows.parseDeclsCard.stood.looks
    parseDecls_row (fun _ h => by cases h) (by kernel_rfl) (fun _ h => by cases h) parseDecls_row_tie rfl ⟨rfl, rfl⟩ (by kernel_rfl) rfl
    (fun f fn hf hfn => by
      obtain rfl : f = 6 := Option.some.inj ((show Tryz.prog.funcNamed Rows.parseDeclsRow.func = some 6 by kernel_rfl).symm.trans hf) |>.symm
      obtain rfl : fn = Tryz.f6 := (Option.some.inj (Tryz.func6.symm.trans hfn)).symm
      exact ⟨by kernel_rfl, fun j t ht => by
        have hm : t ∈ [9] := by
          have := Array.mem_of_getElem? ht
          simpa [Tryz.f6] using this
        have hall : ([9].all fun u => !Tryz.prog.wantsStandIn u) = true := by kernel_rfl
        exact (show Tryz.prog.wantsStandIn t = false by simpa using List.all_eq_true.1 hall t hm)⟩)
    (by kernel_rfl)
#print axioms parseDecls_card
end Go.Proofs.YtfgafcjebfjepaaGreatDoor

/- The statement MangleNames of the package castingslaw20: whatever the input, the law returns true, and each argument reads as it did; the one listed variable is tied to the program's text. -/
import Derived.Test.YtocmdbojefgpbaaGreatDoorXCdBase
import Derived.Test.YtocmdbojefgpbaaGreatDoorXMgR
set_option linter.all false
set_option maxRecDepth 100000
namespace Go.Proofs.YtocmdbojefgpbaaGreatDoor
open Go Go.Pv Go.ChangeShapes Go.WideShapes Go.RowKit
theorem cdPl (m : Int) : GlPlain (GT (cdG m)) := by
  intro g c hc
  simp only [GT_g, cdG] at hc
  repeat' split at hc
  all_goals first | (injection hc with hc; subst hc; rfl) | cases hc
theorem mangleNames_valid {H : Type} (m : Int) (ds : List (DataW H)) (hty : typedAll Tryz.prog [24, 35] ds) (hw : (DataW.weightsEach Tryz.prog [24, 35] ds).all (· ≤ reachBytes) = true) : Valid Tryz.prog (G0 (cdG m) false) 5 (argAVs Tryz.prog [24, 35] ds) (.bool true) := by
  match ds, hty with
  | [d0, d1], ⟨⟨n0, h0⟩, ⟨n1, h1⟩, _⟩ =>
    obtain ⟨w0, hw⟩ := weightsEach_cons hw
    obtain ⟨w1, hw⟩ := weightsEach_cons hw
    obtain ⟨x0, e0, f0⟩ := ty_of cdS cdI cdL cdF cdTb n0 d0 h0 w0
    have a0 : argAV Tryz.prog 24 d0 = .agg (encTy x0) := by rw [argAV_agg cdF, e0]
    obtain ⟨x1, e1, f1⟩ := sg_of cdDT n1 d1 h1 w1
    have a1 : argAV Tryz.prog 35 d1 = .agg (encG x1) := by rw [argAV_agg (show ftypes Tryz.prog 35 = some _ from cdDT.hGG), e1]
    simp only [argAVs, a0, a1]
    exact c_law20x_MangleNames (cdG m) x0 x1 f0 f1 (cdMl m) (cdTab m) (cdEs m) (cdEr m) (cdRes m) (cdPl m)
theorem mangleNames_lifted (os : Os) (started : os.Started) (H : Type) (enc : TypeId × Value → H) :
    ReturnsInHanded {} Tryz.checked os 5 .any (fun w args => (Rows.mangleNamesSpec.pre enc Tryz.prog Tryz.f5 [] false w args ∧ laidMetH Tryz.prog Rows.mangleNamesRow.laid w) ∧ sizedMet enc Tryz.prog Tryz.f5 (OpenSpec.ofChange Rows.mangleNamesSpec) false w args)
      (Rows.mangleNamesSpec.post enc Tryz.prog Tryz.f5 false true false false) := by
  refine handed_andS (C := Tryz.checked) (X := fun w _ => laidMetH Tryz.prog Rows.mangleNamesRow.laid w) (fun _ _ _ hh h => h.of_heap hh) cdOwn started (by kernel_rfl) Tryz.func5
    (ChangeSpec.witness_shaped (enc := enc) (C := Tryz.checked) (os := os) (X := fun w _ => laidMetH Tryz.prog Rows.mangleNamesRow.laid w) false (World.laidAll Tryz.prog os Rows.mangleNamesRow.laid) #[.agg #[.string ⟨#[]⟩, .slice none 0 0, .int .i64 0], .agg #[.string ⟨#[]⟩, .slice none 0 0, .slice none 0 0, .string ⟨#[]⟩, .slice none 0 0, .int .i64 0, .int .i64 0]] 8 (World.laidAll_os _ _ _) (World.shaped_of_ZipB (by kernel_rfl) (by kernel_rfl)) (by kernel_rfl) (by kernel_rfl) (by kernel_rfl) (cdMet os _)) ?_
  intro W base args ds gs before hval hW hwt hL hsh
  obtain ⟨m, hm⟩ := glAt_int hsh (g := 4) (t := 3) (zero := #[.int .i64 0]) (k := .i64) (of_decide_eq_true (by kernel_rfl)) (by kernel_rfl) rfl (by kernel_rfl) (by kernel_rfl) cdI
  exact law_calls (f := 5) (tb := 4) cdPlain cdLaidOut (by kernel_rfl) rfl cdB rfl hval hW (cdGl hL hm) rfl hwt (fun hty hw => mangleNames_valid m ds hty hw) (fun hty => by
    have hty' : typedAll Tryz.prog [24, 35] ds := hty
    match ds, hty' with
    | [d0, d1], _ => rfl)
theorem mangleNames_row : Rows.MangleNamesSaid :=
  OpenClaim.holds_of_wide 5 Tryz.f5 rfl rfl rfl rfl rfl rfl rfl ⟨rfl, rfl, rfl, rfl, rfl⟩ rfl rfl rfl rfl rfl (by kernel_rfl) Tryz.func5 (by kernel_rfl)
    (of_decide_eq_true (by kernel_rfl)) (by unfold Func.isWrapper; first | (rw [if_pos (by decide +kernel)]; kernel_rfl) | (rw [if_neg (by decide +kernel)]; exact ⟨rfl, rfl⟩))
    (fun os started H enc _ => mangleNames_lifted os started H enc)
theorem mangleNames_card : Rows.MangleNamesCardSaid :=
  Claim7.holds_tied_plain_at .later [] Rows.mangleNamesCard.laidKinds true Rows.mangleNamesCard.stood.harness Rows.mangleNamesCard.stood.looks
    mangleNames_row (fun _ h => by cases h) (by kernel_rfl) (fun _ h => by cases h) mangleNames_row_tie rfl ⟨rfl, rfl⟩ (by kernel_rfl) rfl
    (fun f fn hf hfn => by
      obtain rfl : f = 5 := Option.some.inj ((show Tryz.prog.funcNamed Rows.mangleNamesRow.func = some 5 by kernel_rfl).symm.trans hf) |>.symm
      obtain rfl : fn = Tryz.f5 := (Option.some.inj (Tryz.func5.symm.trans hfn)).symm
      exact ⟨by kernel_rfl, fun j t ht => by
        have hm : t ∈ [24, 35] := by
          have := Array.mem_of_getElem? ht
          simpa [Tryz.f5] using this
        have hall : ([24, 35].all fun u => !Tryz.prog.wantsStandIn u) = true := by kernel_rfl
        exact (show Tryz.prog.wantsStandIn t = false by simpa using List.all_eq_true.1 hall t hm)⟩)
    (by kernel_rfl)
#print axioms mangleNames_card
end Go.Proofs.YtocmdbojefgpbaaGreatDoor

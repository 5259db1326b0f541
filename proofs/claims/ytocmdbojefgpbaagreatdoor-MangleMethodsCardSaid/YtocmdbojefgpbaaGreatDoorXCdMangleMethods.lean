/- The statement MangleMethods of the package castingslaw20: whatever the input, the law returns true, and each argument reads as it did; the one listed variable is tied to the program's text. -/
import Derived.Test.YtocmdbojefgpbaaGreatDoorXCdBase
import Derived.Test.YtocmdbojefgpbaaGreatDoorXMgR
set_option linter.all false
set_option maxRecDepth 100000
namespace Go.Proofs.YtocmdbojefgpbaaGreatDoor
open Go Go.Pv Go.ChangeShapes Go.WideShapes Go.RowKit
theorem cdPl (m : Int) : GlPlain (GT (cdG m)) := by
  intro g c hc
  simp only [GT_g, cdG] at hc
  repeat' split at hc
  all_goals first | (injection hc with hc; subst hc; rfl) | cases hc
theorem mangleMethods_valid {H : Type} (m : Int) (ds : List (DataW H)) (hty : typedAll Tryz.prog [35, 35, 22] ds) (hw : (DataW.weightsEach Tryz.prog [35, 35, 22] ds).all (· ≤ reachBytes) = true) : Valid Tryz.prog (G0 (cdG m) false) 4 (argAVs Tryz.prog [35, 35, 22] ds) (.bool true) := by
  match ds, hty with
  | [d0, d1, d2], ⟨⟨n0, h0⟩, ⟨n1, h1⟩, ⟨n2, h2⟩, _⟩ =>
    obtain ⟨w0, hw⟩ := weightsEach_cons hw
    obtain ⟨w1, hw⟩ := weightsEach_cons hw
    obtain ⟨w2, hw⟩ := weightsEach_cons hw
    obtain ⟨x0, e0, f0⟩ := sg_of cdDT n0 d0 h0 w0
    have a0 : argAV Tryz.prog 35 d0 = .agg (encG x0) := by rw [argAV_agg (show ftypes Tryz.prog 35 = some _ from cdDT.hGG), e0]
    obtain ⟨x1, e1, f1⟩ := sg_of cdDT n1 d1 h1 w1
    have a1 : argAV Tryz.prog 35 d1 = .agg (encG x1) := by rw [argAV_agg (show ftypes Tryz.prog 35 = some _ from cdDT.hGG), e1]
    obtain ⟨x2, e2, l2, f2⟩ := tys_of cdS cdI cdL cdF cdTb n2 d2 h2 w2
    have a2 : argAV Tryz.prog 22 d2 = .slice (x2.map encTy) := argAV_one (.inr (.inr (.inr ⟨_, cdL⟩))) e2
    simp only [argAVs, a0, a1, a2]
    exact c_law20x_MangleMethods (cdG m) x0 x1 x2 f0 f1 l2 f2 (cdMl m) (cdTab m) (cdEs m) (cdEr m) (cdRes m) (cdPl m)
theorem mangleMethods_lifted (os : Os) (started : os.Started) (H : Type) (enc : TypeId × Value → H) :
    ReturnsInHanded {} Tryz.checked os 4 .any (fun w args => (Rows.mangleMethodsSpec.pre enc Tryz.prog Tryz.f4 [] false w args ∧ laidMetH Tryz.prog Rows.mangleMethodsRow.laid w) ∧ sizedMet enc Tryz.prog Tryz.f4 (OpenSpec.ofChange Rows.mangleMethodsSpec) false w args)
      (Rows.mangleMethodsSpec.post enc Tryz.prog Tryz.f4 false true false false) := by
  refine handed_andS (C := Tryz.checked) (X := fun w _ => laidMetH Tryz.prog Rows.mangleMethodsRow.laid w) (fun _ _ _ hh h => h.of_heap hh) cdOwn started (by kernel_rfl) Tryz.func4
    (ChangeSpec.witness_shaped (enc := enc) (C := Tryz.checked) (os := os) (X := fun w _ => laidMetH Tryz.prog Rows.mangleMethodsRow.laid w) false (World.laidAll Tryz.prog os Rows.mangleMethodsRow.laid) #[.agg #[.string ⟨#[]⟩, .slice none 0 0, .slice none 0 0, .string ⟨#[]⟩, .slice none 0 0, .int .i64 0, .int .i64 0], .agg #[.string ⟨#[]⟩, .slice none 0 0, .slice none 0 0, .string ⟨#[]⟩, .slice none 0 0, .int .i64 0, .int .i64 0], .slice none 0 0] 8 (World.laidAll_os _ _ _) (World.shaped_of_ZipB (by kernel_rfl) (by kernel_rfl)) (by kernel_rfl) (by kernel_rfl) (by kernel_rfl) (cdMet os _)) ?_
  intro W base args ds gs before hval hW hwt hL hsh
  obtain ⟨m, hm⟩ := glAt_int hsh (g := 4) (t := 3) (zero := #[.int .i64 0]) (k := .i64) (of_decide_eq_true (by kernel_rfl)) (by kernel_rfl) rfl (by kernel_rfl) (by kernel_rfl) cdI
  exact law_calls (f := 4) (tb := 4) cdPlain cdLaidOut (by kernel_rfl) rfl cdB rfl hval hW (cdGl hL hm) rfl hwt (fun hty hw => mangleMethods_valid m ds hty hw) (fun hty => by
    have hty' : typedAll Tryz.prog [35, 35, 22] ds := hty
    match ds, hty' with
    | [d0, d1, d2], _ => rfl)
theorem mangleMethods_row : Rows.MangleMethodsSaid :=
  OpenClaim.holds_of_wide 4 Tryz.f4 rfl rfl rfl rfl rfl rfl rfl ⟨rfl, rfl, rfl, rfl, rfl⟩ rfl rfl rfl rfl rfl (by kernel_rfl) Tryz.func4 (by kernel_rfl)
    (of_decide_eq_true (by kernel_rfl)) (by unfold Func.isWrapper; first | (rw [if_pos (by decide +kernel)]; kernel_rfl) | (rw [if_neg (by decide +kernel)]; exact ⟨rfl, rfl⟩))
    (fun os started H enc _ => mangleMethods_lifted os started H enc)
theorem mangleMethods_card : Rows.MangleMethodsCardSaid :=
  Claim7.holds_tied_plain_at .later [] Rows.mangleMethodsCard.laidKinds true Rows.mangleMethodsCard.stood.harness Rows.mangleMethodsCard.stood.looks
    mangleMethods_row (fun _ h => by cases h) (by kernel_rfl) (fun _ h => by cases h) mangleMethods_row_tie rfl ⟨rfl, rfl⟩ (by kernel_rfl) rfl
    (fun f fn hf hfn => by
      obtain rfl : f = 4 := Option.some.inj ((show Tryz.prog.funcNamed Rows.mangleMethodsRow.func = some 4 by kernel_rfl).symm.trans hf) |>.symm
      obtain rfl : fn = Tryz.f4 := (Option.some.inj (Tryz.func4.symm.trans hfn)).symm
      exact ⟨by kernel_rfl, fun j t ht => by
        have hm : t ∈ [35, 35, 22] := by
          have := Array.mem_of_getElem? ht
          simpa [Tryz.f4] using this
        have hall : ([35, 35, 22].all fun u => !Tryz.prog.wantsStandIn u) = true := by kernel_rfl
        exact (show Tryz.prog.wantsStandIn t = false by simpa using List.all_eq_true.1 hall t hm)⟩)
    (by kernel_rfl)
#print axioms mangleMethods_card
end Go.Proofs.YtocmdbojefgpbaaGreatDoor

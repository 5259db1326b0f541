/- The statement MangleApart of the package castingslaw20: whatever the input, the law returns true, and each argument reads as it did; the one listed variable is tied to the program's text. -/
import Derived.Test.YtocmdbojefgpbaaGreatDoorXCdBase
import Derived.Test.YtocmdbojefgpbaaGreatDoorXMgH
set_option linter.all false
set_option maxRecDepth 100000
namespace Go.Proofs.YtocmdbojefgpbaaGreatDoor
open Go Go.Pv Go.ChangeShapes Go.WideShapes Go.RowKit
theorem mangleApart_valid {H : Type} (m : Int) (ds : List (DataW H)) (hty : typedAll Tryz.prog [9, 9, 22, 22] ds) (hw : (DataW.weightsEach Tryz.prog [9, 9, 22, 22] ds).all (· ≤ reachBytes) = true) : Valid Tryz.prog (G0 (cdG m) false) 6 (argAVs Tryz.prog [9, 9, 22, 22] ds) (.bool true) := by
  match ds, hty with
  | [d0, d1, d2, d3], ⟨⟨n0, h0⟩, ⟨n1, h1⟩, ⟨n2, h2⟩, ⟨n3, h3⟩, _⟩ =>
    obtain ⟨w0, hw⟩ := weightsEach_cons hw
    obtain ⟨w1, hw⟩ := weightsEach_cons hw
    obtain ⟨w2, hw⟩ := weightsEach_cons hw
    obtain ⟨w3, hw⟩ := weightsEach_cons hw
    obtain ⟨x0, e0, l0⟩ := str_of cdS h0 w0
    have a0 : argAV Tryz.prog 9 d0 = .str x0 := argAV_one (.inl cdS) e0
    obtain ⟨x1, e1, l1⟩ := str_of cdS h1 w1
    have a1 : argAV Tryz.prog 9 d1 = .str x1 := argAV_one (.inl cdS) e1
    obtain ⟨x2, e2, l2, f2⟩ := tys_of cdS cdI cdL cdF cdTb n2 d2 h2 w2
    have a2 : argAV Tryz.prog 22 d2 = .slice (x2.map encTy) := argAV_one (.inr (.inr (.inr ⟨_, cdL⟩))) e2
    obtain ⟨x3, e3, l3, f3⟩ := tys_of cdS cdI cdL cdF cdTb n3 d3 h3 w3
    have a3 : argAV Tryz.prog 22 d3 = .slice (x3.map encTy) := argAV_one (.inr (.inr (.inr ⟨_, cdL⟩))) e3
    simp only [argAVs, a0, a1, a2, a3]
    exact c_law20x_MangleApart (cdG m) x0 x1 x2 x3 l0 l1 l2 l3 f2 f3 (cdMl m) (cdTab m) (cdEs m) (cdEr m) (cdRes m)
theorem mangleApart_lifted (os : Os) (started : os.Started) (H : Type) (enc : TypeId × Value → H) :
    ReturnsInHanded {} Tryz.checked os 6 .any (fun w args => (Rows.mangleApartSpec.pre enc Tryz.prog Tryz.f6 [] false w args ∧ laidMetH Tryz.prog Rows.mangleApartRow.laid w) ∧ sizedMet enc Tryz.prog Tryz.f6 (OpenSpec.ofChange Rows.mangleApartSpec) false w args)
      (Rows.mangleApartSpec.post enc Tryz.prog Tryz.f6 false true false false) := by
  refine handed_andS (C := Tryz.checked) (X := fun w _ => laidMetH Tryz.prog Rows.mangleApartRow.laid w) (fun _ _ _ hh h => h.of_heap hh) cdOwn started (by kernel_rfl) Tryz.func6
    (ChangeSpec.witness_shaped (enc := enc) (C := Tryz.checked) (os := os) (X := fun w _ => laidMetH Tryz.prog Rows.mangleApartRow.laid w) false (World.laidAll Tryz.prog os Rows.mangleApartRow.laid) #[.string ⟨#[]⟩, .string ⟨#[]⟩, .slice none 0 0, .slice none 0 0] 8 (World.laidAll_os _ _ _) (World.shaped_of_ZipB (by kernel_rfl) (by kernel_rfl)) (by kernel_rfl) (by kernel_rfl) (by kernel_rfl) (cdMet os _)) ?_
  intro W base args ds gs before hval hW hwt hL hsh
  obtain ⟨m, hm⟩ := glAt_int hsh (g := 4) (t := 3) (zero := #[.int .i64 0]) (k := .i64) (of_decide_eq_true (by kernel_rfl)) (by kernel_rfl) rfl (by kernel_rfl) (by kernel_rfl) cdI
  exact law_calls (f := 6) (tb := 4) cdPlain cdLaidOut (by kernel_rfl) rfl cdB rfl hval hW (cdGl hL hm) rfl hwt (fun hty hw => mangleApart_valid m ds hty hw) (fun hty => by
    have hty' : typedAll Tryz.prog [9, 9, 22, 22] ds := hty
    match ds, hty' with
    | [d0, d1, d2, d3], _ => rfl)
theorem mangleApart_row : Rows.MangleApartSaid :=
  OpenClaim.holds_of_wide 6 Tryz.f6 rfl rfl rfl rfl rfl rfl rfl ⟨rfl, rfl, rfl, rfl, rfl⟩ rfl rfl rfl rfl rfl (by kernel_rfl) Tryz.func6 (by kernel_rfl)
    (of_decide_eq_true (by kernel_rfl)) (by unfold Func.isWrapper; first | (rw [if_pos (by decide +kernel)]; kernel_rfl) | (rw [if_neg (by decide +kernel)]; exact ⟨rfl, rfl⟩))
    (fun os started H enc _ => mangleApart_lifted os started H enc)
theorem mangleApart_card : Rows.MangleApartCardSaid :=
  Claim7.holds_tied_plain_at .later [] Rows.mangleApartCard.laidKinds true Rows.mangleApartCard.stood.harness Rows.mangleApartCard.stood.looks
    mangleApart_row (fun _ h => by cases h) (by kernel_rfl) (fun _ h => by cases h) mangleApart_row_tie rfl ⟨rfl, rfl⟩ (by kernel_rfl) rfl
    (fun f fn hf hfn => by
      obtain rfl : f = 6 := Option.some.inj ((show Tryz.prog.funcNamed Rows.mangleApartRow.func = some 6 by kernel_rfl).symm.trans hf) |>.symm
      obtain rfl : fn = Tryz.f6 := (Option.some.inj (Tryz.func6.symm.trans hfn)).symm
      exact ⟨by kernel_rfl, fun j t ht => by
        have hm : t ∈ [9, 9, 22, 22] := by
          have := Array.mem_of_getElem? ht
          simpa [Tryz.f6] using this
        have hall : ([9, 9, 22, 22].all fun u => !Tryz.prog.wantsStandIn u) = true := by kernel_rfl
        exact (show Tryz.prog.wantsStandIn t = false by simpa using List.all_eq_true.1 hall t hm)⟩)
    (by kernel_rfl)
#print axioms mangleApart_card
end Go.Proofs.YtocmdbojefgpbaaGreatDoor

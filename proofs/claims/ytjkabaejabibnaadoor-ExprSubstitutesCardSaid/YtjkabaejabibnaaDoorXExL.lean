/- The law: types substituted in an expression. -/
import Derived.Test.YtjkabaejabibnaaDoorPt
import Derived.Test.YtjkabaejabibnaaDoorPvLc
import Derived.Test.YtjkabaejabibnaaDoorPvY
import Derived.Test.YtjkabaejabibnaaDoorXExJ
import Derived.Test.YtjkabaejabibnaaDoorXExZ
import Derived.Test.YtjkabaejabibnaaDoorPvMe
set_option linter.all false
set_option maxHeartbeats 1000000
set_option maxRecDepth 10000
namespace Go.Proofs.YtjkabaejabibnaaDoor
open Go Go.Pv
variable (g : Nat → Option (List AV)) (rnd : Bool)

theorem c_law05x_ExprSubstitutes (e : Exp) (ns : List Str) (as_ : List Ty) (hfe : fitE e) (hla : as_.length ≤ 140737488355328) (hfas : fits as_) (hres : g 0 = some reservedA) : Valid Tryd.prog (G0 g false) 4 [.agg (encE e), .slice (ns.map encS), .slice (as_.map encTy)] (.bool true) := by

  refine valid_of [] Tryd.func4 rfl (by kernel_rfl) ?_
  refine AT_seq_region fun K1 hK1 => ?_
  simp [row_map, Tryd.f4]
  repeat (refine ⟨by first | omega | (simp at *; omega), ?_⟩)
  refine hK1 _ ?_
  clear hK1 K1
  refine AT_seq_k fun K2 hK2 => ?_
  by_cases hce : cntE e 0 ≤ 250
  ·
    have hwe := fewE_wt hce
    by_cases hlns : ns.length ≤ 20
    ·
      have hmns : ¬ (20 : Int) < ns.length := by omega
      by_cases hca : cnts as_ 0 ≤ 200
      ·
        have hwas := (fewAll_wt hca).2
        have hlas := (fewAll_wt hca).1
        refine AT_seq_region fun K3 hK3 => ?_
        simp [row_map, hce, hmns, hca]
        repeat (refine ⟨by first | omega | (simp at *; omega), ?_⟩)
        try (
          refine RVn_call (c_law05x_awake g hres) ?_
          simp [row_map, hce, hmns, hca]
          repeat (refine ⟨by first | omega | (simp at *; omega), ?_⟩))
        try (
          refine RVn_call (c_ref05x_Few g false e hfe) ?_
          simp [row_map, hce, hmns, hca]
          repeat (refine ⟨by first | omega | (simp at *; omega), ?_⟩))
        try (
          refine RVn_call (c_ref04x_FewAll g false as_ hla hfas) ?_
          simp [row_map, hce, hmns, hca]
          repeat (refine ⟨by first | omega | (simp at *; omega), ?_⟩))
        refine hK3 _ ?_
        clear hK3 K3
        refine AT_cond (b := false) (g := none) (by simp [hce, hmns, hca]) (fun hb => ?_) (fun hb => ?_)
        ·
          cases hb
        ·
          clear hb
          refine AT_skip ?_
          try simp only [thenA, inBlockA, noGotoA, ite_true, ite_false, reduceIte, Nat.reduceEqDiff]
          refine hK2 _ ?_
          refine AT_seq_draw Pt.mixed (by kernel_rfl) fun K4 hK4 => ?_
          have hB : ∀ a ∈ as_, wt a ≤ 1099511627776 := fun a ha => by have := hwas a ha; omega
          have hsz := wtE_sub ns as_ 10000 (by omega) hwas e
          simp [row_map, hce, hmns, hca]
          repeat (refine ⟨by first | omega | (simp at *; omega), ?_⟩)
          refine RVdn_call (c_expr_Subst g false ns as_ (by omega) hB (by omega) e (by omega)) ?_
          simp [row_map, hce, hmns, hca]
          repeat (refine ⟨by first | omega | (simp at *; omega), ?_⟩)
          refine RVdn_call (c_ref05x_Subst g false ns as_ (by omega) hB (by omega) e (by omega)) ?_
          simp [row_map, hce, hmns, hca]
          repeat (refine ⟨by first | omega | (simp at *; omega), ?_⟩)
          refine RVdn_call ((eqE_refl (subE ns as_ e) ▸ c_ref05x_Equal g false (subE ns as_ e) (subE ns as_ e) (by omega) : Valid Tryd.prog (G0 g false) 21 [.agg (encE (subE ns as_ e)), .agg (encE (subE ns as_ e))] (.bool true))) ?_
          simp [row_map, hce, hmns, hca]
          repeat (refine ⟨by first | omega | (simp at *; omega), ?_⟩)
          refine RVdn_call (c_expr_Clone g false e (by omega)) ?_
          simp [row_map, hce, hmns, hca]
          repeat (refine ⟨by first | omega | (simp at *; omega), ?_⟩)
          refine RVdn_call ((eqE_refl (e) ▸ c_ref05x_Equal g false (e) (e) (by omega) : Valid Tryd.prog (G0 g false) 21 [.agg (encE (e)), .agg (encE (e))] (.bool true))) ?_
          simp [row_map, hce, hmns, hca]
          repeat (refine ⟨by first | omega | (simp at *; omega), ?_⟩)
          refine hK4 _ ?_
          clear hK4 K4
          refine AT_ret ?_
          simp [row_map, Tryd.f4]
      ·
        refine AT_seq_region fun K5 hK5 => ?_
        simp [row_map, hce, hmns, hca]
        repeat (refine ⟨by first | omega | (simp at *; omega), ?_⟩)
        try (
          refine RVn_call (c_law05x_awake g hres) ?_
          simp [row_map, hce, hmns, hca]
          repeat (refine ⟨by first | omega | (simp at *; omega), ?_⟩))
        try (
          refine RVn_call (c_ref05x_Few g false e hfe) ?_
          simp [row_map, hce, hmns, hca]
          repeat (refine ⟨by first | omega | (simp at *; omega), ?_⟩))
        try (
          refine RVn_call (c_ref04x_FewAll g false as_ hla hfas) ?_
          simp [row_map, hce, hmns, hca]
          repeat (refine ⟨by first | omega | (simp at *; omega), ?_⟩))
        refine hK5 _ ?_
        clear hK5 K5
        refine AT_cond (b := true) (g := none) (by simp [hce, hmns, hca]) (fun hb => ?_) (fun hb => ?_)
        ·
          clear hb
          refine AT_seq_region fun K6 hK6 => ?_
          simp [row_map, hce, hmns, hca]
          repeat (refine ⟨by first | omega | (simp at *; omega), ?_⟩)
          refine RVn_call (c_law05x_awake g hres) ?_
          simp [row_map, hce, hmns, hca]
          repeat (refine ⟨by first | omega | (simp at *; omega), ?_⟩)
          refine hK6 _ ?_
          clear hK6 K6
          refine AT_ret ?_
          simp [row_map, Tryd.f4]
        ·
          cases hb
    ·
      have hmns : (20 : Int) < ns.length := by omega
      refine AT_seq_region fun K7 hK7 => ?_
      simp [row_map, hce, hmns]
      repeat (refine ⟨by first | omega | (simp at *; omega), ?_⟩)
      try (
        refine RVn_call (c_law05x_awake g hres) ?_
        simp [row_map, hce, hmns]
        repeat (refine ⟨by first | omega | (simp at *; omega), ?_⟩))
      try (
        refine RVn_call (c_ref05x_Few g false e hfe) ?_
        simp [row_map, hce, hmns]
        repeat (refine ⟨by first | omega | (simp at *; omega), ?_⟩))
      try (
        refine RVn_call (c_ref04x_FewAll g false as_ hla hfas) ?_
        simp [row_map, hce, hmns]
        repeat (refine ⟨by first | omega | (simp at *; omega), ?_⟩))
      refine hK7 _ ?_
      clear hK7 K7
      refine AT_cond (b := true) (g := none) (by simp [hce, hmns]) (fun hb => ?_) (fun hb => ?_)
      ·
        clear hb
        refine AT_seq_region fun K8 hK8 => ?_
        simp [row_map, hce, hmns]
        repeat (refine ⟨by first | omega | (simp at *; omega), ?_⟩)
        refine RVn_call (c_law05x_awake g hres) ?_
        simp [row_map, hce, hmns]
        repeat (refine ⟨by first | omega | (simp at *; omega), ?_⟩)
        refine hK8 _ ?_
        clear hK8 K8
        refine AT_ret ?_
        simp [row_map, Tryd.f4]
      ·
        cases hb
  ·
    refine AT_seq_region fun K9 hK9 => ?_
    simp [row_map, hce]
    repeat (refine ⟨by first | omega | (simp at *; omega), ?_⟩)
    try (
      refine RVn_call (c_law05x_awake g hres) ?_
      simp [row_map, hce]
      repeat (refine ⟨by first | omega | (simp at *; omega), ?_⟩))
    try (
      refine RVn_call (c_ref05x_Few g false e hfe) ?_
      simp [row_map, hce]
      repeat (refine ⟨by first | omega | (simp at *; omega), ?_⟩))
    try (
      refine RVn_call (c_ref04x_FewAll g false as_ hla hfas) ?_
      simp [row_map, hce]
      repeat (refine ⟨by first | omega | (simp at *; omega), ?_⟩))
    refine hK9 _ ?_
    clear hK9 K9
    refine AT_cond (b := true) (g := none) (by simp [hce]) (fun hb => ?_) (fun hb => ?_)
    ·
      clear hb
      refine AT_seq_region fun K10 hK10 => ?_
      simp [row_map, hce]
      repeat (refine ⟨by first | omega | (simp at *; omega), ?_⟩)
      refine RVn_call (c_law05x_awake g hres) ?_
      simp [row_map, hce]
      repeat (refine ⟨by first | omega | (simp at *; omega), ?_⟩)
      refine hK10 _ ?_
      clear hK10 K10
      refine AT_ret ?_
      simp [row_map, Tryd.f4]
    ·
      cases hb

end Go.Proofs.YtjkabaejabibnaaDoor

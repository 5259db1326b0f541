/- The law: variables replaced in an expression. -/
import Derived.Test.YtjkabaejabibnaaDoorPt
import Derived.Test.YtjkabaejabibnaaDoorPvPa
import Derived.Test.YtjkabaejabibnaaDoorPvY
import Derived.Test.YtjkabaejabibnaaDoorXExJ
import Derived.Test.YtjkabaejabibnaaDoorXExY
import Derived.Test.YtjkabaejabibnaaDoorPvMe
set_option linter.all false
set_option maxHeartbeats 1000000
set_option maxRecDepth 10000
namespace Go.Proofs.YtjkabaejabibnaaDoor
open Go Go.Pv
variable (g : Nat → Option (List AV)) (rnd : Bool)

theorem c_law05x_ExprReplaces (e : Exp) (vs : List Str) (xs : List Exp) (hfe : fitE e) (hfx : fitEs xs) (hres : g 0 = some reservedA) : Valid Tryd.prog (G0 g false) 5 [.agg (encE e), .slice (vs.map encS), .slice (xs.map encE)] (.bool true) := by

 refine valid_of [] Tryd.func5 rfl (by kernel_rfl) ?_
 refine AT_seq_region fun K1 hK1 => ?_
 simp [row_map, Tryd.f5]
 repeat refine sg ?_
 refine hK1 _ ?_
 clear hK1 K1
 refine AT_seq_k fun K2 hK2 => ?_
 by_cases hce : cntE e 0 ≤ 250
 ·
  have hwe := fewE_wt hce
  by_cases hlv : vs.length ≤ 10
  ·
   have hmv : ¬ (10 : Int) < vs.length := by omega
   by_cases hlx : xs.length ≤ 10
   ·
    have hmx : ¬ (10 : Int) < xs.length := by omega
    refine AT_seq_region fun K3 hK3 => ?_
    simp [row_map, hce, hmv, hmx]
    repeat refine sg ?_
    try (
     refine RVn_call (c_law05x_awake g hres) ?_
     simp [row_map, hce, hmv, hmx]
     repeat refine sg ?_)
    try (
     refine RVn_call (c_ref05x_Few g false e hfe) ?_
     simp [row_map, hce, hmv, hmx]
     repeat refine sg ?_)
    refine hK3 _ ?_
    clear hK3 K3
    refine AT_cond (b := false) (g := none) (by simp [hce, hmv, hmx]) (fun hb => ?_) (fun hb => ?_)
    ·
     cases hb
    ·
     clear hb
     refine AT_skip ?_
     try simp only [nrm, reduceIte, Nat.reduceEqDiff]
     refine hK2 _ ?_
     refine AT_seq_k fun K4 hK4 => ?_
     refine AT_seq_region fun K5 hK5 => ?_
     simp [row_map, hce, hmv, hmx]
     repeat refine sg ?_
     refine hK5 _ ?_
     clear hK5 K5
     refine AT_block ?_
     refine AT_loop_q [1,2,3,7] [3] (fun j s => ∃ k, k ≤ xs.length ∧ (∀ x ∈ xs.take k, cntE x 0 ≤ 250) ∧ j = xs.length - k ∧ s = { n := 53, tm := [(1, .v (.slice (vs.map encS)) none), (2, .v (.slice (xs.map encE)) none), (3, .lp 3 0), (7, .v (.int .i64 k) none)], bx := [(3, encE e)], tb := [], sh := [], hint := [] }) (xs.length) (by first | rfl | simp) ?_ ?_
     ·
      exact ⟨0, by simp⟩
     ·
      rintro j s ⟨k, hk, hc, rfl, rfl⟩ K6 hK6
      refine AT_seq_k fun K7 hK7 => ?_
      by_cases hkx : k < xs.length
      ·
       refine AT_seq_region fun K8 hK8 => ?_
       simp [row_map, hce, hmv, hmx, hkx]
       repeat refine sg ?_
       refine hK8 _ ?_
       clear hK8 K8
       refine AT_cond (b := true) (g := none) (by simp [hce, hmv, hmx, hkx]) (fun hb => ?_) (fun hb => ?_)
       ·
        clear hb
        refine AT_skip ?_
        try simp only [nrm, reduceIte, Nat.reduceEqDiff]
        refine hK7 _ ?_
        refine AT_seq_k fun K9 hK9 => ?_
        refine AT_block ?_
        by_cases hfew : cntE xs[k] 0 ≤ 250
        ·
         refine AT_seq_region fun K10 hK10 => ?_
         simp [row_map, hce, hmv, hmx, hkx, hfew]
         repeat refine sg ?_
         refine RVn_call (c_ref05x_Few g false xs[k] (fitEs_mem hfx (by simp))) ?_
         simp [row_map, hce, hmv, hmx, hkx, hfew]
         repeat refine sg ?_
         refine hK10 _ ?_
         clear hK10 K10
         refine AT_cond (b := false) (g := none) (by simp [hce, hmv, hmx, hkx, hfew]) (fun hb => ?_) (fun hb => ?_)
         ·
          cases hb
         ·
          clear hb
          refine AT_skip ?_
          try simp only [nrm, reduceIte, Nat.reduceEqDiff]
          refine hK9 _ ?_
          refine AT_region_q fun K11 hK11 => ?_
          simp [row_map, hce, hmv, hmx, hkx, hfew]
          repeat refine sg ?_
          refine hK11 _ ?_
          clear hK11 K11
          try simp only [nrm, reduceIte, Nat.reduceEqDiff]
          refine hK6 _ (by first | rfl | simp) (xs.length - (k+1)) (by omega) ?_
          refine ⟨k+1, by omega, ?_, by omega, by simp⟩
          intro x hx
          rw [List.take_add_one, List.getElem?_eq_getElem hkx] at hx
          rcases List.mem_append.1 hx with hx | hx
          · exact hc x hx
          · simp at hx; subst hx; exact hfew
        ·
         refine AT_seq_region fun K12 hK12 => ?_
         simp [row_map, hce, hmv, hmx, hkx, hfew]
         repeat refine sg ?_
         refine RVn_call (c_ref05x_Few g false xs[k] (fitEs_mem hfx (by simp))) ?_
         simp [row_map, hce, hmv, hmx, hkx, hfew]
         repeat refine sg ?_
         refine hK12 _ ?_
         clear hK12 K12
         refine AT_cond (b := true) (g := none) (by simp [hce, hmv, hmx, hkx, hfew]) (fun hb => ?_) (fun hb => ?_)
         ·
          clear hb
          refine AT_seq_region fun K13 hK13 => ?_
          simp [row_map, hce, hmv, hmx, hkx, hfew]
          repeat refine sg ?_
          refine hK13 _ ?_
          clear hK13 K13
          refine AT_ret ?_
          simp [row_map, Tryd.f5]
         ·
          cases hb
       ·
        cases hb
      ·
       rw [List.take_of_length_le (by omega)] at hc
       have hxs : ∀ x ∈ xs, wtE x ≤ 25000 := fun x hx => fewE_wt (hc x hx)
       have hsz := wtE_rep vs xs 25000 (by omega) hxs e
       have hxs2 : ∀ x ∈ xs, wtE x ≤ 1000000000 := fun x hx => by have := hxs x hx; omega
       refine AT_seq_region fun K14 hK14 => ?_
       simp [row_map, hce, hmv, hmx, hkx]
       repeat refine sg ?_
       refine hK14 _ ?_
       clear hK14 K14
       refine AT_cond (b := false) (g := none) (by simp [hce, hmv, hmx, hkx]) (fun hb => ?_) (fun hb => ?_)
       ·
        cases hb
       ·
        clear hb
        refine AT_exit ?_
        try simp only [nrm, reduceIte, Nat.reduceEqDiff]
        refine hK4 _ ?_
        refine AT_seq_draw Pt.mixed (by kernel_rfl) fun K15 hK15 => ?_
        simp [row_map, hce, hmv, hmx, hkx]
        repeat refine sg ?_
        refine RVdn_call (c_expr_Replace g false vs xs (by omega) hxs2 (by omega) e (by omega)) ?_
        simp [row_map, hce, hmv, hmx, hkx]
        repeat refine sg ?_
        refine RVdn_call (c_ref05x_Replace g false vs xs (by omega) hxs2 (by omega) e (by omega)) ?_
        simp [row_map, hce, hmv, hmx, hkx]
        repeat refine sg ?_
        refine RVdn_call ((eqE_refl (repE vs xs e) ▸ c_ref05x_Equal g false (repE vs xs e) (repE vs xs e) (by omega) : Valid Tryd.prog (G0 g false) 21 [.agg (encE (repE vs xs e)), .agg (encE (repE vs xs e))] (.bool true))) ?_
        simp [row_map, hce, hmv, hmx, hkx]
        repeat refine sg ?_
        refine RVdn_call ((by have h := c_expr_Replace g false [] [] (by simp) (by simp) (by simp) e (by omega); rw [repE_nil] at h; exact h)) ?_
        simp [row_map, hce, hmv, hmx, hkx]
        repeat refine sg ?_
        refine RVdn_call ((eqE_refl (e) ▸ c_ref05x_Equal g false (e) (e) (by omega) : Valid Tryd.prog (G0 g false) 21 [.agg (encE (e)), .agg (encE (e))] (.bool true))) ?_
        simp [row_map, hce, hmv, hmx, hkx]
        repeat refine sg ?_
        refine hK15 _ ?_
        clear hK15 K15
        refine AT_ret ?_
        simp [row_map, Tryd.f5]
   ·
    have hmx : (10 : Int) < xs.length := by omega
    refine AT_seq_region fun K16 hK16 => ?_
    simp [row_map, hce, hmv, hmx]
    repeat refine sg ?_
    try (
     refine RVn_call (c_law05x_awake g hres) ?_
     simp [row_map, hce, hmv, hmx]
     repeat refine sg ?_)
    try (
     refine RVn_call (c_ref05x_Few g false e hfe) ?_
     simp [row_map, hce, hmv, hmx]
     repeat refine sg ?_)
    refine hK16 _ ?_
    clear hK16 K16
    refine AT_cond (b := true) (g := none) (by simp [hce, hmv, hmx]) (fun hb => ?_) (fun hb => ?_)
    ·
     clear hb
     refine AT_seq_region fun K17 hK17 => ?_
     simp [row_map, hce, hmv, hmx]
     repeat refine sg ?_
     refine RVn_call (c_law05x_awake g hres) ?_
     simp [row_map, hce, hmv, hmx]
     repeat refine sg ?_
     refine hK17 _ ?_
     clear hK17 K17
     refine AT_ret ?_
     simp [row_map, Tryd.f5]
    ·
     cases hb
  ·
   have hmv : (10 : Int) < vs.length := by omega
   refine AT_seq_region fun K18 hK18 => ?_
   simp [row_map, hce, hmv]
   repeat refine sg ?_
   try (
    refine RVn_call (c_law05x_awake g hres) ?_
    simp [row_map, hce, hmv]
    repeat refine sg ?_)
   try (
    refine RVn_call (c_ref05x_Few g false e hfe) ?_
    simp [row_map, hce, hmv]
    repeat refine sg ?_)
   refine hK18 _ ?_
   clear hK18 K18
   refine AT_cond (b := true) (g := none) (by simp [hce, hmv]) (fun hb => ?_) (fun hb => ?_)
   ·
    clear hb
    refine AT_seq_region fun K19 hK19 => ?_
    simp [row_map, hce, hmv]
    repeat refine sg ?_
    refine RVn_call (c_law05x_awake g hres) ?_
    simp [row_map, hce, hmv]
    repeat refine sg ?_
    refine hK19 _ ?_
    clear hK19 K19
    refine AT_ret ?_
    simp [row_map, Tryd.f5]
   ·
    cases hb
 ·
  refine AT_seq_region fun K20 hK20 => ?_
  simp [row_map, hce]
  repeat refine sg ?_
  try (
   refine RVn_call (c_law05x_awake g hres) ?_
   simp [row_map, hce]
   repeat refine sg ?_)
  try (
   refine RVn_call (c_ref05x_Few g false e hfe) ?_
   simp [row_map, hce]
   repeat refine sg ?_)
  refine hK20 _ ?_
  clear hK20 K20
  refine AT_cond (b := true) (g := none) (by simp [hce]) (fun hb => ?_) (fun hb => ?_)
  ·
   clear hb
   refine AT_seq_region fun K21 hK21 => ?_
   simp [row_map, hce]
   repeat refine sg ?_
   refine RVn_call (c_law05x_awake g hres) ?_
   simp [row_map, hce]
   repeat refine sg ?_
   refine hK21 _ ?_
   clear hK21 K21
   refine AT_ret ?_
   simp [row_map, Tryd.f5]
  ·
   cases hb

end Go.Proofs.YtjkabaejabibnaaDoor

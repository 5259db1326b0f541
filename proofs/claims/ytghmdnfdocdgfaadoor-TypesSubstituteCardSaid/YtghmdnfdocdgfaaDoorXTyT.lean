/- Contracts. -/
import Derived.Test.YtghmdnfdocdgfaaDoorPt
import Derived.Test.YtghmdnfdocdgfaaDoorPvZ
import Derived.Test.YtghmdnfdocdgfaaDoorXTyR
import Derived.Test.YtghmdnfdocdgfaaDoorXTyE
import Derived.Test.YtghmdnfdocdgfaaDoorXTyD
import Derived.Test.YtghmdnfdocdgfaaDoorXTyJ
import Derived.Test.YtghmdnfdocdgfaaDoorXTyL
import Derived.Test.YtghmdnfdocdgfaaDoorXTyH
set_option linter.all false
set_option maxHeartbeats 1000000
set_option maxRecDepth 10000
namespace Go.Proofs.YtghmdnfdocdgfaaDoor
open Go Go.Pv
variable (g : Nat → Option (List AV)) (rnd : Bool)

theorem c_law04x_TypesSubstitute (t : Ty) (ns : List Str) (as_ : List Ty) (hft : fit t) (hla : as_.length ≤ 140737488355328) (hfas : fits as_) (hres : g 0 = some reservedA) : Valid Tryd.prog (G0 g rnd) 4 [.agg (encTy t), .slice (ns.map encS), .slice (as_.map encTy)] (.bool true) := by

  refine valid_of [] Tryd.func4 rfl (by kernel_rfl) ?_
  refine AT_seq_region fun K1 hK1 => ?_
  simp [row_map, Tryd.f4]
  repeat (refine ⟨by first | omega | (simp only [List.length_take, List.length_map]; omega) | (simp at *; omega), ?_⟩)
  refine hK1 _ ?_
  clear hK1 K1
  refine AT_seq_k fun K2 hK2 => ?_
  by_cases hct : cnt t 0 ≤ 200
  ·
    have hwt := few_wt hct
    by_cases hns : ns.length ≤ 20
    ·
      have hns2 : ¬ (20 : Int) < ns.length := by omega
      by_cases hca : cnts as_ 0 ≤ 200
      ·
        have hwas := (fewAll_wt hca).2
        have hlas := (fewAll_wt hca).1
        refine AT_seq_region fun K3 hK3 => ?_
        simp [row_map, hct, hns2, hca]
        repeat (refine ⟨by first | omega | (simp only [List.length_take, List.length_map]; omega) | (simp at *; omega), ?_⟩)
        try (
          refine RVn_call (c_law04x_awake g rnd hres) ?_
          simp [row_map, hct, hns2, hca]
          repeat (refine ⟨by first | omega | (simp only [List.length_take, List.length_map]; omega) | (simp at *; omega), ?_⟩))
        try (
          refine RVn_call (c_ref04x_Few g rnd t hft) ?_
          simp [row_map, hct, hns2, hca]
          repeat (refine ⟨by first | omega | (simp only [List.length_take, List.length_map]; omega) | (simp at *; omega), ?_⟩))
        try (
          refine RVn_call (c_ref04x_FewAll g rnd as_ hla hfas) ?_
          simp [row_map, hct, hns2, hca]
          repeat (refine ⟨by first | omega | (simp only [List.length_take, List.length_map]; omega) | (simp at *; omega), ?_⟩))
        refine hK3 _ ?_
        clear hK3 K3
        refine AT_cond (b := false) (g := none) (by simp [hct, hns2, hca]) (fun hb => ?_) (fun hb => ?_)
        ·
          cases hb
        ·
          clear hb
          refine AT_skip ?_
          try simp only [thenA, inBlockA, ite_true, ite_false, reduceIte, Nat.reduceEqDiff]
          refine hK2 _ ?_
          refine AT_seq_region fun K4 hK4 => ?_
          simp [row_map, hct, hns2, hca]
          repeat (refine ⟨by first | omega | (simp only [List.length_take, List.length_map]; omega) | (simp at *; omega), ?_⟩)
          refine RVn_call (c_types_Subst g rnd ns as_ (by omega) (fun a ha => by have := hwas a ha; omega) (by omega) t (by omega)) ?_
          simp [row_map, hct, hns2, hca]
          repeat (refine ⟨by first | omega | (simp only [List.length_take, List.length_map]; omega) | (simp at *; omega), ?_⟩)
          refine hK4 _ ?_
          clear hK4 K4
          refine AT_seq_region fun K5 hK5 => ?_
          simp [row_map, hct, hns2, hca]
          repeat (refine ⟨by first | omega | (simp only [List.length_take, List.length_map]; omega) | (simp at *; omega), ?_⟩)
          refine RVn_call ((by simpa only [List.map_map] using c_types_All g rnd as_ (ns.map encS) (as_.map encTy) (sub ns as_) (by omega) (fun t ht => c_types_Subst g rnd ns as_ (by omega) (fun a ha => by have := hwas a ha; omega) (by omega) t (by have := hwas t ht; omega)))) ?_
          simp [row_map, hct, hns2, hca]
          repeat (refine ⟨by first | omega | (simp only [List.length_take, List.length_map]; omega) | (simp at *; omega), ?_⟩)
          refine hK5 _ ?_
          clear hK5 K5
          refine AT_seq_region fun K6 hK6 => ?_
          simp [row_map, hct, hns2, hca]
          repeat (refine ⟨by first | omega | (simp only [List.length_take, List.length_map]; omega) | (simp at *; omega), ?_⟩)
          refine RVn_call ((by simpa only [List.map_map] using c_ref04x_All g rnd as_ (ns.map encS) (as_.map encTy) (sub ns as_) (by omega) (fun t ht => c_ref04x_Subst g rnd ns as_ (by omega) (fun a ha => by have := hwas a ha; omega) (by omega) t (by have := hwas t ht; omega)))) ?_
          simp [row_map, hct, hns2, hca]
          repeat (refine ⟨by first | omega | (simp only [List.length_take, List.length_map]; omega) | (simp at *; omega), ?_⟩)
          refine hK6 _ ?_
          clear hK6 K6
          refine AT_seq_k fun K7 hK7 => ?_
          refine AT_seq_region fun K8 hK8 => ?_
          simp [row_map, hct, hns2, hca]
          repeat (refine ⟨by first | omega | (simp only [List.length_take, List.length_map]; omega) | (simp at *; omega), ?_⟩)
          refine hK8 _ ?_
          clear hK8 K8
          refine AT_cond (b := false) (g := none) (by simp [hct, hns2, hca]) (fun hb => ?_) (fun hb => ?_)
          ·
            cases hb
          ·
            clear hb
            refine AT_skip ?_
            try simp only [thenA, inBlockA, ite_true, ite_false, reduceIte, Nat.reduceEqDiff]
            refine hK7 _ ?_
            refine AT_seq_k fun K9 hK9 => ?_
            refine AT_seq_region fun K10 hK10 => ?_
            simp [row_map, hct, hns2, hca]
            repeat (refine ⟨by first | omega | (simp only [List.length_take, List.length_map]; omega) | (simp at *; omega), ?_⟩)
            refine hK10 _ ?_
            clear hK10 K10
            refine AT_block ?_
            refine AT_loop_q [1,2,3,7,8,9,10] [3,7] (fun j s => ∃ k, k ≤ as_.length ∧ j = as_.length - k ∧ s = { n := 74, tm := [(1, .v (.slice (ns.map encS)) none), (2, .v (.slice (as_.map encTy)) none), (3, .lp 3 0), (7, .lp 7 0), (8, .v (.slice (as_.map (encTy ∘ sub ns as_))) none), (9, .v (.slice (as_.map (encTy ∘ sub ns as_))) none), (10, .v (.int .i64 k) none)], bx := [(3, encTy t), (7, encTy (sub ns as_ t))], tb := [], sh := [], hint := [] }) (as_.length) (by first | rfl | simp) ?_ ?_
            ·
              exact ⟨0, by simp⟩
            ·
              rintro j s ⟨k, hk, rfl, rfl⟩ K11 hK11
              refine AT_seq_k fun K12 hK12 => ?_
              refine AT_seq_region fun K13 hK13 => ?_
              simp [row_map, hct, hns2, hca]
              repeat (refine ⟨by first | omega | (simp only [List.length_take, List.length_map]; omega) | (simp at *; omega), ?_⟩)
              refine hK13 _ ?_
              clear hK13 K13
              refine AT_cond (g := none) rfl (fun hb49 => ?_) (fun hb49 => ?_)
              ·
                try simp [row_map, hct, hns2, hca] at hb49
                refine AT_skip ?_
                try simp only [thenA, inBlockA, ite_true, ite_false, reduceIte, Nat.reduceEqDiff]
                refine hK12 _ ?_
                refine AT_seq_k fun K14 hK14 => ?_
                refine AT_block ?_
                refine AT_seq_draw Pt.mixed (by kernel_rfl) fun K15 hK15 => ?_
                simp [row_map, hct, hns2, hca, hb49]
                repeat (refine ⟨by first | omega | (simp only [List.length_take, List.length_map]; omega) | (simp at *; omega), ?_⟩)
                refine RVdn_call ((eqT_refl _ ▸ c_ref04x_Equal g rnd (sub ns as_ as_[k]) (sub ns as_ as_[k]) (by have h1 := wt_sub ns as_ 10000 (by omega) hwas as_[k]; have h2 := hwas as_[k] (by simp); omega) : Valid Tryd.prog (G0 g rnd) 26 [.agg (encTy (sub ns as_ as_[k])), .agg (encTy (sub ns as_ as_[k]))] (.bool true))) ?_
                simp [row_map, hct, hns2, hca, hb49]
                repeat (refine ⟨by first | omega | (simp only [List.length_take, List.length_map]; omega) | (simp at *; omega), ?_⟩)
                refine hK15 _ ?_
                clear hK15 K15
                refine AT_cond (b := false) (g := none) (by simp [hct, hns2, hca, hb49]) (fun hb => ?_) (fun hb => ?_)
                ·
                  cases hb
                ·
                  clear hb
                  refine AT_skip ?_
                  try simp only [thenA, inBlockA, ite_true, ite_false, reduceIte, Nat.reduceEqDiff]
                  refine hK14 _ ?_
                  refine AT_region_q fun K16 hK16 => ?_
                  simp [row_map, hct, hns2, hca, hb49]
                  repeat (refine ⟨by first | omega | (simp only [List.length_take, List.length_map]; omega) | (simp at *; omega), ?_⟩)
                  refine hK16 _ ?_
                  clear hK16 K16
                  try simp only [thenA, inBlockA, ite_true, ite_false, reduceIte, Nat.reduceEqDiff]
                  refine hK11 _ (by first | rfl | simp) (as_.length - (k+1)) (by omega) ?_
                  exact ⟨k+1, by omega, by omega, by simp⟩
              ·
                try simp [row_map, hct, hns2, hca] at hb49
                refine AT_exit ?_
                try simp only [thenA, inBlockA, ite_true, ite_false, reduceIte, Nat.reduceEqDiff]
                refine hK9 _ ?_
                refine AT_seq_draw Pt.mixed (by kernel_rfl) fun K17 hK17 => ?_
                simp [row_map, hct, hns2, hca, hb49]
                repeat (refine ⟨by first | omega | (simp only [List.length_take, List.length_map]; omega) | (simp at *; omega), ?_⟩)
                refine RVdn_call (c_ref04x_Subst g rnd ns as_ (by omega) (fun a ha => by have := hwas a ha; omega) (by omega) t (by omega)) ?_
                simp [row_map, hct, hns2, hca, hb49]
                repeat (refine ⟨by first | omega | (simp only [List.length_take, List.length_map]; omega) | (simp at *; omega), ?_⟩)
                refine RVdn_call ((eqT_refl _ ▸ c_ref04x_Equal g rnd (sub ns as_ t) (sub ns as_ t) (by have h1 := wt_sub ns as_ 10000 (by omega) hwas t; omega) : Valid Tryd.prog (G0 g rnd) 26 [.agg (encTy (sub ns as_ t)), .agg (encTy (sub ns as_ t))] (.bool true))) ?_
                simp [row_map, hct, hns2, hca, hb49]
                repeat (refine ⟨by first | omega | (simp only [List.length_take, List.length_map]; omega) | (simp at *; omega), ?_⟩)
                refine RVdn_call (c_types_Subst_n g rnd t (by omega)) ?_
                simp [row_map, hct, hns2, hca, hb49]
                repeat (refine ⟨by first | omega | (simp only [List.length_take, List.length_map]; omega) | (simp at *; omega), ?_⟩)
                refine RVdn_call ((eqT_refl _ ▸ c_ref04x_Equal g rnd t t (by omega) : Valid Tryd.prog (G0 g rnd) 26 [.agg (encTy t), .agg (encTy t)] (.bool true))) ?_
                simp [row_map, hct, hns2, hca, hb49]
                repeat (refine ⟨by first | omega | (simp only [List.length_take, List.length_map]; omega) | (simp at *; omega), ?_⟩)
                refine hK17 _ ?_
                clear hK17 K17
                refine AT_ret ?_
                simp [row_map, Tryd.f4]
      ·
        refine AT_seq_region fun K18 hK18 => ?_
        simp [row_map, hct, hns2, hca]
        repeat (refine ⟨by first | omega | (simp only [List.length_take, List.length_map]; omega) | (simp at *; omega), ?_⟩)
        try (
          refine RVn_call (c_law04x_awake g rnd hres) ?_
          simp [row_map, hct, hns2, hca]
          repeat (refine ⟨by first | omega | (simp only [List.length_take, List.length_map]; omega) | (simp at *; omega), ?_⟩))
        try (
          refine RVn_call (c_ref04x_Few g rnd t hft) ?_
          simp [row_map, hct, hns2, hca]
          repeat (refine ⟨by first | omega | (simp only [List.length_take, List.length_map]; omega) | (simp at *; omega), ?_⟩))
        try (
          refine RVn_call (c_ref04x_FewAll g rnd as_ hla hfas) ?_
          simp [row_map, hct, hns2, hca]
          repeat (refine ⟨by first | omega | (simp only [List.length_take, List.length_map]; omega) | (simp at *; omega), ?_⟩))
        refine hK18 _ ?_
        clear hK18 K18
        refine AT_cond (b := true) (g := none) (by simp [hct, hns2, hca]) (fun hb => ?_) (fun hb => ?_)
        ·
          clear hb
          refine AT_seq_region fun K19 hK19 => ?_
          simp [row_map, hct, hns2, hca]
          repeat (refine ⟨by first | omega | (simp only [List.length_take, List.length_map]; omega) | (simp at *; omega), ?_⟩)
          refine RVn_call (c_law04x_awake g rnd hres) ?_
          simp [row_map, hct, hns2, hca]
          repeat (refine ⟨by first | omega | (simp only [List.length_take, List.length_map]; omega) | (simp at *; omega), ?_⟩)
          refine hK19 _ ?_
          clear hK19 K19
          refine AT_ret ?_
          simp [row_map, Tryd.f4]
        ·
          cases hb
    ·
      have hns2 : (20 : Int) < ns.length := by omega
      refine AT_seq_region fun K20 hK20 => ?_
      simp [row_map, hct, hns2]
      repeat (refine ⟨by first | omega | (simp only [List.length_take, List.length_map]; omega) | (simp at *; omega), ?_⟩)
      try (
        refine RVn_call (c_law04x_awake g rnd hres) ?_
        simp [row_map, hct, hns2]
        repeat (refine ⟨by first | omega | (simp only [List.length_take, List.length_map]; omega) | (simp at *; omega), ?_⟩))
      try (
        refine RVn_call (c_ref04x_Few g rnd t hft) ?_
        simp [row_map, hct, hns2]
        repeat (refine ⟨by first | omega | (simp only [List.length_take, List.length_map]; omega) | (simp at *; omega), ?_⟩))
      try (
        refine RVn_call (c_ref04x_FewAll g rnd as_ hla hfas) ?_
        simp [row_map, hct, hns2]
        repeat (refine ⟨by first | omega | (simp only [List.length_take, List.length_map]; omega) | (simp at *; omega), ?_⟩))
      refine hK20 _ ?_
      clear hK20 K20
      refine AT_cond (b := true) (g := none) (by simp [hct, hns2]) (fun hb => ?_) (fun hb => ?_)
      ·
        clear hb
        refine AT_seq_region fun K21 hK21 => ?_
        simp [row_map, hct, hns2]
        repeat (refine ⟨by first | omega | (simp only [List.length_take, List.length_map]; omega) | (simp at *; omega), ?_⟩)
        refine RVn_call (c_law04x_awake g rnd hres) ?_
        simp [row_map, hct, hns2]
        repeat (refine ⟨by first | omega | (simp only [List.length_take, List.length_map]; omega) | (simp at *; omega), ?_⟩)
        refine hK21 _ ?_
        clear hK21 K21
        refine AT_ret ?_
        simp [row_map, Tryd.f4]
      ·
        cases hb
  ·
    refine AT_seq_region fun K22 hK22 => ?_
    simp [row_map, hct]
    repeat (refine ⟨by first | omega | (simp only [List.length_take, List.length_map]; omega) | (simp at *; omega), ?_⟩)
    try (
      refine RVn_call (c_law04x_awake g rnd hres) ?_
      simp [row_map, hct]
      repeat (refine ⟨by first | omega | (simp only [List.length_take, List.length_map]; omega) | (simp at *; omega), ?_⟩))
    try (
      refine RVn_call (c_ref04x_Few g rnd t hft) ?_
      simp [row_map, hct]
      repeat (refine ⟨by first | omega | (simp only [List.length_take, List.length_map]; omega) | (simp at *; omega), ?_⟩))
    try (
      refine RVn_call (c_ref04x_FewAll g rnd as_ hla hfas) ?_
      simp [row_map, hct]
      repeat (refine ⟨by first | omega | (simp only [List.length_take, List.length_map]; omega) | (simp at *; omega), ?_⟩))
    refine hK22 _ ?_
    clear hK22 K22
    refine AT_cond (b := true) (g := none) (by simp [hct]) (fun hb => ?_) (fun hb => ?_)
    ·
      clear hb
      refine AT_seq_region fun K23 hK23 => ?_
      simp [row_map, hct]
      repeat (refine ⟨by first | omega | (simp only [List.length_take, List.length_map]; omega) | (simp at *; omega), ?_⟩)
      refine RVn_call (c_law04x_awake g rnd hres) ?_
      simp [row_map, hct]
      repeat (refine ⟨by first | omega | (simp only [List.length_take, List.length_map]; omega) | (simp at *; omega), ?_⟩)
      refine hK23 _ ?_
      clear hK23 K23
      refine AT_ret ?_
      simp [row_map, Tryd.f4]
    ·
      cases hb

end Go.Proofs.YtghmdnfdocdgfaaDoor

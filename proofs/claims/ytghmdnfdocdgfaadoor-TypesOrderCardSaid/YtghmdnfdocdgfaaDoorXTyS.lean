/- Contracts. -/
import Derived.Test.YtghmdnfdocdgfaaDoorPt
import Derived.Test.YtghmdnfdocdgfaaDoorPvY
import Derived.Test.YtghmdnfdocdgfaaDoorXTyR
import Derived.Test.YtghmdnfdocdgfaaDoorXTyE
import Derived.Test.YtghmdnfdocdgfaaDoorXTyD
set_option linter.all false
set_option maxHeartbeats 1000000
set_option maxRecDepth 10000
namespace Go.Proofs.YtghmdnfdocdgfaaDoor
open Go Go.Pv
variable (g : Nat → Option (List AV)) (rnd : Bool)

theorem c_law04x_TypesOrder (a b c : Ty) (hfa : fit a) (hfb : fit b) (hfc : fit c) (hres : g 0 = some reservedA) : Valid Tryd.prog (G0 g rnd) 7 [.agg (encTy a), .agg (encTy b), .agg (encTy c)] (.bool true) := by

  refine valid_of [] Tryd.func7 rfl (by kernel_rfl) ?_
  refine AT_seq_region fun K1 hK1 => ?_
  simp [Tryd.f7]
  repeat (refine ⟨by first | omega | (simp at *; omega), ?_⟩)
  refine hK1 _ ?_
  clear hK1 K1
  refine AT_seq_k fun K2 hK2 => ?_
  by_cases hca : cnt a 0 ≤ 200
  ·
    have hwa := few_wt hca
    by_cases hcb : cnt b 0 ≤ 200
    ·
      have hwb := few_wt hcb
      by_cases hcc : cnt c 0 ≤ 200
      ·
        have hwc := few_wt hcc
        refine AT_seq_region fun K3 hK3 => ?_
        simp [hca, hcb, hcc]
        repeat (refine ⟨by first | omega | (simp at *; omega), ?_⟩)
        try (
          refine RVn_call (c_law04x_awake g rnd hres) ?_
          simp [hca, hcb, hcc]
          repeat (refine ⟨by first | omega | (simp at *; omega), ?_⟩))
        try (
          refine RVn_call (c_ref04x_Few g rnd a hfa) ?_
          simp [hca, hcb, hcc]
          repeat (refine ⟨by first | omega | (simp at *; omega), ?_⟩))
        try (
          refine RVn_call (c_ref04x_Few g rnd b hfb) ?_
          simp [hca, hcb, hcc]
          repeat (refine ⟨by first | omega | (simp at *; omega), ?_⟩))
        try (
          refine RVn_call (c_ref04x_Few g rnd c hfc) ?_
          simp [hca, hcb, hcc]
          repeat (refine ⟨by first | omega | (simp at *; omega), ?_⟩))
        refine hK3 _ ?_
        clear hK3 K3
        refine AT_cond (b := false) (g := none) (by simp [hca, hcb, hcc]) (fun hb => ?_) (fun hb => ?_)
        ·
          cases hb
        ·
          clear hb
          refine AT_skip ?_
          try simp only [thenA, inBlockA, ite_true, ite_false, reduceIte, Nat.reduceEqDiff]
          refine hK2 _ ?_
          refine AT_seq_region fun K4 hK4 => ?_
          have hr := cmpT_range a b
          simp [hca, hcb, hcc]
          repeat (refine ⟨by first | omega | (simp at *; omega), ?_⟩)
          refine RVn_call (c_types_Compare g rnd a b (by omega)) ?_
          simp [hca, hcb, hcc]
          repeat (refine ⟨by first | omega | (simp at *; omega), ?_⟩)
          refine hK4 _ ?_
          clear hK4 K4
          by_cases h0 : 0 < cmpT a b
          ·
            refine AT_seq_region fun K5 hK5 => ?_
            have hr := cmpT_range a b
            simp [hca, hcb, hcc, h0]
            repeat (refine ⟨by first | omega | (simp at *; omega), ?_⟩)
            try (
              refine RVn_call ((cmpT_anti a b ▸ c_types_Compare g rnd b a (by omega) : Valid Tryd.prog (G0 g rnd) 11 [.agg (encTy b), .agg (encTy a)] (.int .i64 (- cmpT a b)))) ?_
              simp [hca, hcb, hcc, h0]
              repeat (refine ⟨by first | omega | (simp at *; omega), ?_⟩))
            try (
              refine RVn_call (c_types_Same g rnd a b (by omega)) ?_
              simp [hca, hcb, hcc, h0]
              repeat (refine ⟨by first | omega | (simp at *; omega), ?_⟩))
            try (
              refine RVn_call (c_types_Compare g rnd b c (by omega)) ?_
              simp [hca, hcb, hcc, h0]
              repeat (refine ⟨by first | omega | (simp at *; omega), ?_⟩))
            try (
              refine RVn_call (c_types_Compare g rnd a c (by omega)) ?_
              simp [hca, hcb, hcc, h0]
              repeat (refine ⟨by first | omega | (simp at *; omega), ?_⟩))
            refine hK5 _ ?_
            clear hK5 K5
            refine AT_ret ?_
            simp [Tryd.f7]
          ·
            by_cases h1 : 0 < cmpT b c
            ·
              refine AT_seq_region fun K6 hK6 => ?_
              have hr := cmpT_range a b
              simp [hca, hcb, hcc, h0, h1]
              repeat (refine ⟨by first | omega | (simp at *; omega), ?_⟩)
              try (
                refine RVn_call ((cmpT_anti a b ▸ c_types_Compare g rnd b a (by omega) : Valid Tryd.prog (G0 g rnd) 11 [.agg (encTy b), .agg (encTy a)] (.int .i64 (- cmpT a b)))) ?_
                simp [hca, hcb, hcc, h0, h1]
                repeat (refine ⟨by first | omega | (simp at *; omega), ?_⟩))
              try (
                refine RVn_call (c_types_Same g rnd a b (by omega)) ?_
                simp [hca, hcb, hcc, h0, h1]
                repeat (refine ⟨by first | omega | (simp at *; omega), ?_⟩))
              try (
                refine RVn_call (c_types_Compare g rnd b c (by omega)) ?_
                simp [hca, hcb, hcc, h0, h1]
                repeat (refine ⟨by first | omega | (simp at *; omega), ?_⟩))
              try (
                refine RVn_call (c_types_Compare g rnd a c (by omega)) ?_
                simp [hca, hcb, hcc, h0, h1]
                repeat (refine ⟨by first | omega | (simp at *; omega), ?_⟩))
              refine hK6 _ ?_
              clear hK6 K6
              refine AT_ret ?_
              simp [Tryd.f7]
            ·
              have h2 : cmpT a c ≤ 0 := (cmpT_tr a b c (by omega) (by omega)).1
              refine AT_seq_region fun K7 hK7 => ?_
              have hr := cmpT_range a b
              simp [hca, hcb, hcc, h0, h1, h2]
              repeat (refine ⟨by first | omega | (simp at *; omega), ?_⟩)
              try (
                refine RVn_call ((cmpT_anti a b ▸ c_types_Compare g rnd b a (by omega) : Valid Tryd.prog (G0 g rnd) 11 [.agg (encTy b), .agg (encTy a)] (.int .i64 (- cmpT a b)))) ?_
                simp [hca, hcb, hcc, h0, h1, h2]
                repeat (refine ⟨by first | omega | (simp at *; omega), ?_⟩))
              try (
                refine RVn_call (c_types_Same g rnd a b (by omega)) ?_
                simp [hca, hcb, hcc, h0, h1, h2]
                repeat (refine ⟨by first | omega | (simp at *; omega), ?_⟩))
              try (
                refine RVn_call (c_types_Compare g rnd b c (by omega)) ?_
                simp [hca, hcb, hcc, h0, h1, h2]
                repeat (refine ⟨by first | omega | (simp at *; omega), ?_⟩))
              try (
                refine RVn_call (c_types_Compare g rnd a c (by omega)) ?_
                simp [hca, hcb, hcc, h0, h1, h2]
                repeat (refine ⟨by first | omega | (simp at *; omega), ?_⟩))
              refine hK7 _ ?_
              clear hK7 K7
              refine AT_ret ?_
              simp [Tryd.f7]
      ·
        refine AT_seq_region fun K8 hK8 => ?_
        simp [hca, hcb, hcc]
        repeat (refine ⟨by first | omega | (simp at *; omega), ?_⟩)
        try (
          refine RVn_call (c_law04x_awake g rnd hres) ?_
          simp [hca, hcb, hcc]
          repeat (refine ⟨by first | omega | (simp at *; omega), ?_⟩))
        try (
          refine RVn_call (c_ref04x_Few g rnd a hfa) ?_
          simp [hca, hcb, hcc]
          repeat (refine ⟨by first | omega | (simp at *; omega), ?_⟩))
        try (
          refine RVn_call (c_ref04x_Few g rnd b hfb) ?_
          simp [hca, hcb, hcc]
          repeat (refine ⟨by first | omega | (simp at *; omega), ?_⟩))
        try (
          refine RVn_call (c_ref04x_Few g rnd c hfc) ?_
          simp [hca, hcb, hcc]
          repeat (refine ⟨by first | omega | (simp at *; omega), ?_⟩))
        refine hK8 _ ?_
        clear hK8 K8
        refine AT_cond (b := true) (g := none) (by simp [hca, hcb, hcc]) (fun hb => ?_) (fun hb => ?_)
        ·
          clear hb
          refine AT_seq_region fun K9 hK9 => ?_
          simp [hca, hcb, hcc]
          repeat (refine ⟨by first | omega | (simp at *; omega), ?_⟩)
          refine RVn_call (c_law04x_awake g rnd hres) ?_
          simp [hca, hcb, hcc]
          repeat (refine ⟨by first | omega | (simp at *; omega), ?_⟩)
          refine hK9 _ ?_
          clear hK9 K9
          refine AT_ret ?_
          simp [Tryd.f7]
        ·
          cases hb
    ·
      refine AT_seq_region fun K10 hK10 => ?_
      simp [hca, hcb]
      repeat (refine ⟨by first | omega | (simp at *; omega), ?_⟩)
      try (
        refine RVn_call (c_law04x_awake g rnd hres) ?_
        simp [hca, hcb]
        repeat (refine ⟨by first | omega | (simp at *; omega), ?_⟩))
      try (
        refine RVn_call (c_ref04x_Few g rnd a hfa) ?_
        simp [hca, hcb]
        repeat (refine ⟨by first | omega | (simp at *; omega), ?_⟩))
      try (
        refine RVn_call (c_ref04x_Few g rnd b hfb) ?_
        simp [hca, hcb]
        repeat (refine ⟨by first | omega | (simp at *; omega), ?_⟩))
      try (
        refine RVn_call (c_ref04x_Few g rnd c hfc) ?_
        simp [hca, hcb]
        repeat (refine ⟨by first | omega | (simp at *; omega), ?_⟩))
      refine hK10 _ ?_
      clear hK10 K10
      refine AT_cond (b := true) (g := none) (by simp [hca, hcb]) (fun hb => ?_) (fun hb => ?_)
      ·
        clear hb
        refine AT_seq_region fun K11 hK11 => ?_
        simp [hca, hcb]
        repeat (refine ⟨by first | omega | (simp at *; omega), ?_⟩)
        refine RVn_call (c_law04x_awake g rnd hres) ?_
        simp [hca, hcb]
        repeat (refine ⟨by first | omega | (simp at *; omega), ?_⟩)
        refine hK11 _ ?_
        clear hK11 K11
        refine AT_ret ?_
        simp [Tryd.f7]
      ·
        cases hb
  ·
    refine AT_seq_region fun K12 hK12 => ?_
    simp [hca]
    repeat (refine ⟨by first | omega | (simp at *; omega), ?_⟩)
    try (
      refine RVn_call (c_law04x_awake g rnd hres) ?_
      simp [hca]
      repeat (refine ⟨by first | omega | (simp at *; omega), ?_⟩))
    try (
      refine RVn_call (c_ref04x_Few g rnd a hfa) ?_
      simp [hca]
      repeat (refine ⟨by first | omega | (simp at *; omega), ?_⟩))
    try (
      refine RVn_call (c_ref04x_Few g rnd b hfb) ?_
      simp [hca]
      repeat (refine ⟨by first | omega | (simp at *; omega), ?_⟩))
    try (
      refine RVn_call (c_ref04x_Few g rnd c hfc) ?_
      simp [hca]
      repeat (refine ⟨by first | omega | (simp at *; omega), ?_⟩))
    refine hK12 _ ?_
    clear hK12 K12
    refine AT_cond (b := true) (g := none) (by simp [hca]) (fun hb => ?_) (fun hb => ?_)
    ·
      clear hb
      refine AT_seq_region fun K13 hK13 => ?_
      simp [hca]
      repeat (refine ⟨by first | omega | (simp at *; omega), ?_⟩)
      refine RVn_call (c_law04x_awake g rnd hres) ?_
      simp [hca]
      repeat (refine ⟨by first | omega | (simp at *; omega), ?_⟩)
      refine hK13 _ ?_
      clear hK13 K13
      refine AT_ret ?_
      simp [Tryd.f7]
    ·
      cases hb

end Go.Proofs.YtghmdnfdocdgfaaDoor

/- Contracts. -/
import Derived.Test.YtghmdnfdocdgfaaDoorPt
import Derived.Test.YtghmdnfdocdgfaaDoorPvZ
import Derived.Test.YtghmdnfdocdgfaaDoorXTyR
import Derived.Test.YtghmdnfdocdgfaaDoorXTyE
import Derived.Test.YtghmdnfdocdgfaaDoorXTyD
set_option linter.all false
set_option maxHeartbeats 1000000
set_option maxRecDepth 10000
namespace Go.Proofs.YtghmdnfdocdgfaaDoor
open Go Go.Pv
variable (g : Nat → Option (List AV)) (rnd : Bool)

theorem c_law04x_TypesOrder (a b c : Ty) (hfa : fit a) (hfb : fit b) (hfc : fit c) (hres : g 0 = some reservedA) : Valid Tryd.prog (G0 g rnd) 7 [.agg (encTy a), .agg (encTy b), .agg (encTy c)] (.bool true) := by

  refine valid_of [] Tryd.func7 rfl (by kernel_rfl) ?_
  refine AT_seq_region fun K1 hK1 => ?_
  simp [Tryd.f7]
  repeat (refine ⟨by first | omega | (simp at *; omega), ?_⟩)
  refine hK1 _ ?_
  clear hK1 K1
  refine AT_seq_k fun K2 hK2 => ?_
  by_cases hca : cnt a 0 ≤ 200
  ·
    have hwa := few_wt hca
    by_cases hcb : cnt b 0 ≤ 200
    ·
      have hwb := few_wt hcb
      by_cases hcc : cnt c 0 ≤ 200
      ·
        have hwc := few_wt hcc
        refine AT_seq_region fun K3 hK3 => ?_
        simp [hca, hcb, hcc]
        repeat (refine ⟨by first | omega | (simp at *; omega), ?_⟩)
        try (
          refine RVn_call (c_law04x_awake g rnd hres) ?_
          simp [hca, hcb, hcc]
          repeat (refine ⟨by first | omega | (simp at *; omega), ?_⟩))
        try (
          refine RVn_call (c_ref04x_Few g rnd a hfa) ?_
          simp [hca, hcb, hcc]
          repeat (refine ⟨by first | omega | (simp at *; omega), ?_⟩))
        try (
          refine RVn_call (c_ref04x_Few g rnd b hfb) ?_
          simp [hca, hcb, hcc]
          repeat (refine ⟨by first | omega | (simp at *; omega), ?_⟩))
        try (
          refine RVn_call (c_ref04x_Few g rnd c hfc) ?_
          simp [hca, hcb, hcc]
          repeat (refine ⟨by first | omega | (simp at *; omega), ?_⟩))
        refine hK3 _ ?_
        clear hK3 K3
        refine AT_cond (b := false) (g := none) (by simp [hca, hcb, hcc]) (fun hb => ?_) (fun hb => ?_)
        ·
          cases hb
        ·
          clear hb
          refine AT_skip ?_
          try simp only [thenA, inBlockA, ite_true, ite_false, reduceIte, Nat.reduceEqDiff]
          refine hK2 _ ?_
          refine AT_seq_region fun K4 hK4 => ?_
          have hr := cmpT_range a b
          simp [hca, hcb, hcc]
          repeat (refine ⟨by first | omega | (simp at *; omega), ?_⟩)
          refine RVn_call (c_types_Compare g rnd a b (by omega)) ?_
          simp [hca, hcb, hcc]
          repeat (refine ⟨by first | omega | (simp at *; omega), ?_⟩)
          refine hK4 _ ?_
          clear hK4 K4
          by_cases h0 : 0 < cmpT a b
          ·
            refine AT_seq_region fun K5 hK5 => ?_
            have hr := cmpT_range a b
            simp [hca, hcb, hcc, h0]
            repeat (refine ⟨by first | omega | (simp at *; omega), ?_⟩)
            try (
              refine RVn_call ((cmpT_anti a b ▸ c_types_Compare g rnd b a (by omega) : Valid Tryd.prog (G0 g rnd) 11 [.agg (encTy b), .agg (encTy a)] (.int .i64 (- cmpT a b)))) ?_
              simp [hca, hcb, hcc, h0]
              repeat (refine ⟨by first | omega | (simp at *; omega), ?_⟩))
            try (
              refine RVn_call (c_types_Same g rnd a b (by omega)) ?_
              simp [hca, hcb, hcc, h0]
              repeat (refine ⟨by first | omega | (simp at *; omega), ?_⟩))
            try (
              refine RVn_call (c_types_Compare g rnd b c (by omega)) ?_
              simp [hca, hcb, hcc, h0]
              repeat (refine ⟨by first | omega | (simp at *; omega), ?_⟩))
            try (
              refine RVn_call (c_types_Compare g rnd a c (by omega)) ?_
              simp [hca, hcb, hcc, h0]
              repeat (refine ⟨by first | omega | (simp at *; omega), ?_⟩))
            refine hK5 _ ?_
            clear hK5 K5
            refine AT_ret ?_
            simp [Tryd.f7]
          ·
            by_cases h1 : 0 < cmpT b c
            ·
              refine AT_seq_region fun K6 hK6 => ?_
              have hr := cmpT_range a b
              simp [hca, hcb, hcc, h0, h1]
              repeat (refine ⟨by first | omega | (simp at *; omega), ?_⟩)
              try (
                refine RVn_call ((cmpT_anti a b ▸ c_types_Compare g rnd b a (by omega) : Valid Tryd.prog (G0 g rnd) 11 [.agg (encTy b), .agg (encTy a)] (.int .i64 (- cmpT a b)))) ?_
                simp [hca, hcb, hcc, h0, h1]
                repeat (refine ⟨by first | omega | (simp at *; omega), ?_⟩))
              try (
                refine RVn_call (c_types_Same g rnd a b (by omega)) ?_
                simp [hca, hcb, hcc, h0, h1]
                repeat (refine ⟨by first | omega | (simp at *; omega), ?_⟩))
              try (
                refine RVn_call (c_types_Compare g rnd b c (by omega)) ?_
                simp [hca, hcb, hcc, h0, h1]
                repeat (refine ⟨by first | omega | (simp at *; omega), ?_⟩))
              try (
                refine RVn_call (c_types_Compare g rnd a c (by omega)) ?_
                simp [hca, hcb, hcc, h0, h1]
                repeat (refine ⟨by first | omega | (simp at *; omega), ?_⟩))
              refine hK6 _ ?_
              clear hK6 K6
              refine AT_ret ?_
              simp [Tryd.f7]
            ·
              have h2 : cmpT a c ≤ 0 := (cmpT_tr a b c (by omega) (by omega)).1
              refine AT_seq_region fun K7 hK7 => ?_
              have hr := cmpT_range a b
              simp [hca, hcb, hcc, h0, h1, h2]
              repeat (refine ⟨by first | omega | (simp at *; omega), ?_⟩)
              try (
                refine RVn_call ((cmpT_anti a b ▸ c_types_Compare g rnd b a (by omega) : Valid Tryd.prog (G0 g rnd) 11 [.agg (encTy b), .agg (encTy a)] (.int .i64 (- cmpT a b)))) ?_
                simp [hca, hcb, hcc, h0, h1, h2]
                repeat (refine ⟨by first | omega | (simp at *; omega), ?_⟩))
              try (
                refine RVn_call (c_types_Same g rnd a b (by omega)) ?_
                simp [hca, hcb, hcc, h0, h1, h2]
                repeat (refine ⟨by first | omega | (simp at *; omega), ?_⟩))
              try (
                refine RVn_call (c_types_Compare g rnd b c (by omega)) ?_
                simp [hca, hcb, hcc, h0, h1, h2]
                repeat (refine ⟨by first | omega | (simp at *; omega), ?_⟩))
              try (
                refine RVn_call (c_types_Compare g rnd a c (by omega)) ?_
                simp [hca, hcb, hcc, h0, h1, h2]
                repeat (refine ⟨by first | omega | (simp at *; omega), ?_⟩))
              refine hK7 _ ?_
              clear hK7 K7
              refine AT_ret ?_
              simp [Tryd.f7]
      ·
        refine AT_seq_region fun K8 hK8 => ?_
        simp [hca, hcb, hcc]
        repeat (refine ⟨by first | omega | (simp at *; omega), ?_⟩)
        try (
          refine RVn_call (c_law04x_awake g rnd hres) ?_
          simp [hca, hcb, hcc]
          repeat (refine ⟨by first | omega | (simp at *; omega), ?_⟩))
        try (
          refine RVn_call (c_ref04x_Few g rnd a hfa) ?_
          simp [hca, hcb, hcc]
          repeat (refine ⟨by first | omega | (simp at *; omega), ?_⟩))
        try (
          refine RVn_call (c_ref04x_Few g rnd b hfb) ?_
          simp [hca, hcb, hcc]
          repeat (refine ⟨by first | omega | (simp at *; omega), ?_⟩))
        try (
          refine RVn_call (c_ref04x_Few g rnd c hfc) ?_
          simp [hca, hcb, hcc]
          repeat (refine ⟨by first | omega | (simp at *; omega), ?_⟩))
        refine hK8 _ ?_
        clear hK8 K8
        refine AT_cond (b := true) (g := none) (by simp [hca, hcb, hcc]) (fun hb => ?_) (fun hb => ?_)
        ·
          clear hb
          refine AT_seq_region fun K9 hK9 => ?_
          simp [hca, hcb, hcc]
          repeat (refine ⟨by first | omega | (simp at *; omega), ?_⟩)
          refine RVn_call (c_law04x_awake g rnd hres) ?_
          simp [hca, hcb, hcc]
          repeat (refine ⟨by first | omega | (simp at *; omega), ?_⟩)
          refine hK9 _ ?_
          clear hK9 K9
          refine AT_ret ?_
          simp [Tryd.f7]
        ·
          cases hb
    ·
      refine AT_seq_region fun K10 hK10 => ?_
      simp [hca, hcb]
      repeat (refine ⟨by first | omega | (simp at *; omega), ?_⟩)
      try (
        refine RVn_call (c_law04x_awake g rnd hres) ?_
        simp [hca, hcb]
        repeat (refine ⟨by first | omega | (simp at *; omega), ?_⟩))
      try (
        refine RVn_call (c_ref04x_Few g rnd a hfa) ?_
        simp [hca, hcb]
        repeat (refine ⟨by first | omega | (simp at *; omega), ?_⟩))
      try (
        refine RVn_call (c_ref04x_Few g rnd b hfb) ?_
        simp [hca, hcb]
        repeat (refine ⟨by first | omega | (simp at *; omega), ?_⟩))
      try (
        refine RVn_call (c_ref04x_Few g rnd c hfc) ?_
        simp [hca, hcb]
        repeat (refine ⟨by first | omega | (simp at *; omega), ?_⟩))
      refine hK10 _ ?_
      clear hK10 K10
      refine AT_cond (b := true) (g := none) (by simp [hca, hcb]) (fun hb => ?_) (fun hb => ?_)
      ·
        clear hb
        refine AT_seq_region fun K11 hK11 => ?_
        simp [hca, hcb]
        repeat (refine ⟨by first | omega | (simp at *; omega), ?_⟩)
        refine RVn_call (c_law04x_awake g rnd hres) ?_
        simp [hca, hcb]
        repeat (refine ⟨by first | omega | (simp at *; omega), ?_⟩)
        refine hK11 _ ?_
        clear hK11 K11
        refine AT_ret ?_
        simp [Tryd.f7]
      ·
        cases hb
  ·
    refine AT_seq_region fun K12 hK12 => ?_
    simp [hca]
    repeat (refine ⟨by first | omega | (simp at *; omega), ?_⟩)
    try (
      refine RVn_call (c_law04x_awake g rnd hres) ?_
      simp [hca]
      repeat (refine ⟨by first | omega | (simp at *; omega), ?_⟩))
    try (
      refine RVn_call (c_ref04x_Few g rnd a hfa) ?_
      simp [hca]
      repeat (refine ⟨by first | omega | (simp at *; omega), ?_⟩))
    try (
      refine RVn_call (c_ref04x_Few g rnd b hfb) ?_
      simp [hca]
      repeat (refine ⟨by first | omega | (simp at *; omega), ?_⟩))
    try (
      refine RVn_call (c_ref04x_Few g rnd c hfc) ?_
      simp [hca]
      repeat (refine ⟨by first | omega | (simp at *; omega), ?_⟩))
    refine hK12 _ ?_
    clear hK12 K12
    refine AT_cond (b := true) (g := none) (by simp [hca]) (fun hb => ?_) (fun hb => ?_)
    ·
      clear hb
      refine AT_seq_region fun K13 hK13 => ?_
      simp [hca]
      repeat (refine ⟨by first | omega | (simp at *; omega), ?_⟩)
      refine RVn_call (c_law04x_awake g rnd hres) ?_
      simp [hca]
      repeat (refine ⟨by first | omega | (simp at *; omega), ?_⟩)
      refine hK13 _ ?_
      clear hK13 K13
      refine AT_ret ?_
      simp [Tryd.f7]
    ·
      cases hb

theorem subst_self (t : Ty) (hw : wt t ≤ 10000) : Valid Tryd.prog (G0 g rnd) 23 [.agg (encTy t), .slice ((lst t).map encS), .slice (((lst t).map idTy).map encTy)] (.agg (encTy t)) := by
  have hll := lst_wt t
  have h := c_types_Subst g rnd (lst t) ((lst t).map idTy) (by omega) (by
    intro a ha
    obtain ⟨n, hn, rfl⟩ := List.mem_map.1 ha
    have := lst_mem_wt t n hn
    simp only [idTy, wt, wts]; omega) (by rw [List.length_map]; omega) t (by omega)
  rwa [sub_id] at h

theorem c_law04x_TypesIdentity (t : Ty) (hft : fit t) (hres : g 0 = some reservedA) : Valid Tryd.prog (G0 g rnd) 8 [.agg (encTy t)] (.bool true) := by

  refine valid_of [(4, 24)] Tryd.func8 rfl (by kernel_rfl) ?_
  refine AT_seq_region fun K1 hK1 => ?_
  simp [row_map, Tryd.f8]
  repeat (refine ⟨by first | omega | (simp only [List.length_take, List.length_map, List.length_append, List.length_cons, List.length_nil]; omega) | (simp at *; omega), ?_⟩)
  refine hK1 _ ?_
  clear hK1 K1
  refine AT_seq_k fun K2 hK2 => ?_
  by_cases hct : cnt t 0 ≤ 200
  ·
    have hwt := few_wt hct
    refine AT_seq_region fun K3 hK3 => ?_
    simp [row_map, hct]
    repeat (refine ⟨by first | omega | (simp only [List.length_take, List.length_map, List.length_append, List.length_cons, List.length_nil]; omega) | (simp at *; omega), ?_⟩)
    try (
      refine RVn_call (c_law04x_awake g rnd hres) ?_
      simp [row_map, hct]
      repeat (refine ⟨by first | omega | (simp only [List.length_take, List.length_map, List.length_append, List.length_cons, List.length_nil]; omega) | (simp at *; omega), ?_⟩))
    try (
      refine RVn_call (c_ref04x_Few g rnd t hft) ?_
      simp [row_map, hct]
      repeat (refine ⟨by first | omega | (simp only [List.length_take, List.length_map, List.length_append, List.length_cons, List.length_nil]; omega) | (simp at *; omega), ?_⟩))
    refine hK3 _ ?_
    clear hK3 K3
    refine AT_cond (b := false) (g := none) (by simp [hct]) (fun hb => ?_) (fun hb => ?_)
    ·
      cases hb
    ·
      clear hb
      refine AT_skip ?_
      try simp only [thenA, inBlockA, ite_true, ite_false, reduceIte, Nat.reduceEqDiff]
      refine hK2 _ ?_
      refine AT_seq_region fun K4 hK4 => ?_
      simp [row_map, hct]
      repeat (refine ⟨by first | omega | (simp only [List.length_take, List.length_map, List.length_append, List.length_cons, List.length_nil]; omega) | (simp at *; omega), ?_⟩)
      refine RVn_call (c_ref04x_List g rnd t (by omega)) ?_
      simp [row_map, hct]
      repeat (refine ⟨by first | omega | (simp only [List.length_take, List.length_map, List.length_append, List.length_cons, List.length_nil]; omega) | (simp at *; omega), ?_⟩)
      refine hK4 _ ?_
      clear hK4 K4
      refine AT_seq_region fun K5 hK5 => ?_
      simp [row_map, hct]
      repeat (refine ⟨by first | omega | (simp only [List.length_take, List.length_map, List.length_append, List.length_cons, List.length_nil]; omega) | (simp at *; omega), ?_⟩)
      refine hK5 _ ?_
      clear hK5 K5
      refine AT_seq_k fun K6 hK6 => ?_
      refine AT_seq_region fun K7 hK7 => ?_
      simp [row_map, hct]
      repeat (refine ⟨by first | omega | (simp only [List.length_take, List.length_map, List.length_append, List.length_cons, List.length_nil]; omega) | (simp at *; omega), ?_⟩)
      refine hK7 _ ?_
      clear hK7 K7
      refine AT_block ?_
      refine AT_loop_q [3,4,5,1] [1] (fun j s => ∃ k, k ≤ (lst t).length ∧ j = (lst t).length - k ∧ s = { n := 36, tm := [(3, .v (.slice ((lst t).map encS)) none), (4, .v (.slice ((((lst t).take k).map idTy).map encTy)) (some (4, 24))), (5, .v (.int .i64 k) none), (1, .lp 1 0)], bx := [(1, encTy t)], tb := [], sh := [], hint := [(4, 24)] }) ((lst t).length) (by first | rfl | simp) ?_ ?_
      ·
        exact ⟨0, by simp⟩
      ·
        rintro j s ⟨k, hk, rfl, rfl⟩ K8 hK8
        refine AT_seq_k fun K9 hK9 => ?_
        refine AT_seq_region fun K10 hK10 => ?_
        have hll := lst_wt t
        simp [row_map, hct]
        repeat (refine ⟨by first | omega | (simp only [List.length_take, List.length_map, List.length_append, List.length_cons, List.length_nil]; omega) | (simp at *; omega), ?_⟩)
        refine hK10 _ ?_
        clear hK10 K10
        refine AT_cond (g := none) rfl (fun hb19 => ?_) (fun hb19 => ?_)
        ·
          try simp [row_map, hct] at hb19
          refine AT_skip ?_
          try simp only [thenA, inBlockA, ite_true, ite_false, reduceIte, Nat.reduceEqDiff]
          refine hK9 _ ?_
          refine AT_seq_k fun K11 hK11 => ?_
          refine AT_block ?_
          refine AT_region_q fun K12 hK12 => ?_
          have hll := lst_wt t
          have hlm : (List.map (encTy ∘ idTy) (lst t)).length = (lst t).length := by simp
          simp [row_map, hct, hb19]
          repeat (refine ⟨by first | omega | (simp only [List.length_take, List.length_map, List.length_append, List.length_cons, List.length_nil]; omega) | (simp at *; omega), ?_⟩)
          refine hK12 _ ?_
          clear hK12 K12
          try simp only [thenA, inBlockA, ite_true, ite_false, reduceIte, Nat.reduceEqDiff]
          refine hK11 _ ?_
          refine AT_region_q fun K13 hK13 => ?_
          simp [row_map, hct, hb19]
          repeat (refine ⟨by first | omega | (simp only [List.length_take, List.length_map, List.length_append, List.length_cons, List.length_nil]; omega) | (simp at *; omega), ?_⟩)
          refine hK13 _ ?_
          clear hK13 K13
          try simp only [thenA, inBlockA, ite_true, ite_false, reduceIte, Nat.reduceEqDiff]
          refine hK8 _ (by first | rfl | simp) ((lst t).length - (k+1)) (by omega) ?_
          have hs2 := take_map_succ (encTy ∘ idTy) (lst t) k hb19
          exact ⟨k+1, by omega, by omega, by simp [hs2, idTy, encTy_mk]⟩
        ·
          try simp [row_map, hct] at hb19
          refine AT_exit ?_
          try simp only [thenA, inBlockA, ite_true, ite_false, reduceIte, Nat.reduceEqDiff]
          refine hK6 _ ?_
          refine AT_seq_draw Pt.mixed (by kernel_rfl) fun K14 hK14 => ?_
          have hll := lst_wt t
          have hlm : ((lst t).map (encTy ∘ idTy)).length ≤ k := by rw [List.length_map]; omega
          try rw [List.take_of_length_le hlm]
          try rw [List.take_of_length_le hb19]
          simp [row_map, hct, hb19]
          repeat (refine ⟨by first | omega | (simp only [List.length_take, List.length_map, List.length_append, List.length_cons, List.length_nil]; omega) | (simp at *; omega), ?_⟩)
          refine RVdn_call (by simpa only [List.map_map] using subst_self g rnd t (by omega)) ?_
          simp [row_map, hct, hb19]
          repeat (refine ⟨by first | omega | (simp only [List.length_take, List.length_map, List.length_append, List.length_cons, List.length_nil]; omega) | (simp at *; omega), ?_⟩)
          refine RVdn_call ((eqT_refl t ▸ c_ref04x_Equal g rnd t t (by omega) : Valid Tryd.prog (G0 g rnd) 26 [.agg (encTy t), .agg (encTy t)] (.bool true))) ?_
          simp [row_map, hct, hb19]
          repeat (refine ⟨by first | omega | (simp only [List.length_take, List.length_map, List.length_append, List.length_cons, List.length_nil]; omega) | (simp at *; omega), ?_⟩)
          refine hK14 _ ?_
          clear hK14 K14
          refine AT_ret ?_
          simp [row_map, Tryd.f8]
  ·
    refine AT_seq_region fun K15 hK15 => ?_
    simp [row_map, hct]
    repeat (refine ⟨by first | omega | (simp only [List.length_take, List.length_map, List.length_append, List.length_cons, List.length_nil]; omega) | (simp at *; omega), ?_⟩)
    try (
      refine RVn_call (c_law04x_awake g rnd hres) ?_
      simp [row_map, hct]
      repeat (refine ⟨by first | omega | (simp only [List.length_take, List.length_map, List.length_append, List.length_cons, List.length_nil]; omega) | (simp at *; omega), ?_⟩))
    try (
      refine RVn_call (c_ref04x_Few g rnd t hft) ?_
      simp [row_map, hct]
      repeat (refine ⟨by first | omega | (simp only [List.length_take, List.length_map, List.length_append, List.length_cons, List.length_nil]; omega) | (simp at *; omega), ?_⟩))
    refine hK15 _ ?_
    clear hK15 K15
    refine AT_cond (b := true) (g := none) (by simp [hct]) (fun hb => ?_) (fun hb => ?_)
    ·
      clear hb
      refine AT_seq_region fun K16 hK16 => ?_
      simp [row_map, hct]
      repeat (refine ⟨by first | omega | (simp only [List.length_take, List.length_map, List.length_append, List.length_cons, List.length_nil]; omega) | (simp at *; omega), ?_⟩)
      refine RVn_call (c_law04x_awake g rnd hres) ?_
      simp [row_map, hct]
      repeat (refine ⟨by first | omega | (simp only [List.length_take, List.length_map, List.length_append, List.length_cons, List.length_nil]; omega) | (simp at *; omega), ?_⟩)
      refine hK16 _ ?_
      clear hK16 K16
      refine AT_ret ?_
      simp [row_map, Tryd.f8]
    ·
      cases hb

theorem c_law04x_TypesMatchReference (a b : Ty) (hfa : fit a) (hfb : fit b) (hres : g 0 = some reservedA) : Valid Tryd.prog (G0 g rnd) 3 [.agg (encTy a), .agg (encTy b)] (.bool true) := by

  refine valid_of [] Tryd.func3 rfl (by kernel_rfl) ?_
  refine AT_seq_region fun K1 hK1 => ?_
  simp [Tryd.f3]
  repeat (refine ⟨by first | omega | (simp at *; omega), ?_⟩)
  refine hK1 _ ?_
  clear hK1 K1
  refine AT_seq_k fun K2 hK2 => ?_
  by_cases hca : cnt a 0 ≤ 200
  ·
    have hwa := few_wt hca
    by_cases hcb : cnt b 0 ≤ 200
    ·
      have hwb := few_wt hcb
      refine AT_seq_region fun K3 hK3 => ?_
      simp [hca, hcb]
      repeat (refine ⟨by first | omega | (simp at *; omega), ?_⟩)
      try (
        refine RVn_call (c_law04x_awake g rnd hres) ?_
        simp [hca, hcb]
        repeat (refine ⟨by first | omega | (simp at *; omega), ?_⟩))
      try (
        refine RVn_call (c_ref04x_Few g rnd a hfa) ?_
        simp [hca, hcb]
        repeat (refine ⟨by first | omega | (simp at *; omega), ?_⟩))
      try (
        refine RVn_call (c_ref04x_Few g rnd b hfb) ?_
        simp [hca, hcb]
        repeat (refine ⟨by first | omega | (simp at *; omega), ?_⟩))
      refine hK3 _ ?_
      clear hK3 K3
      refine AT_cond (b := false) (g := none) (by simp [hca, hcb]) (fun hb => ?_) (fun hb => ?_)
      ·
        cases hb
      ·
        clear hb
        refine AT_skip ?_
        try simp only [thenA, inBlockA, ite_true, ite_false, reduceIte, Nat.reduceEqDiff]
        refine hK2 _ ?_
        refine AT_seq_region fun K4 hK4 => ?_
        simp [hca, hcb]
        repeat (refine ⟨by first | omega | (simp at *; omega), ?_⟩)
        refine RVn_call (c_types_Compare g rnd a b (by omega)) ?_
        simp [hca, hcb]
        repeat (refine ⟨by first | omega | (simp at *; omega), ?_⟩)
        refine hK4 _ ?_
        clear hK4 K4
        refine AT_seq_k fun K5 hK5 => ?_
        refine AT_seq_draw Pt.mixed (by kernel_rfl) fun K6 hK6 => ?_
        have hll := lst_wt a
        simp [hca, hcb]
        repeat (refine ⟨by first | omega | (simp at *; omega), ?_⟩)
        refine RVdn_call (c_ref04x_Compare g rnd a b (by omega)) ?_
        simp [hca, hcb]
        repeat (refine ⟨by first | omega | (simp at *; omega), ?_⟩)
        refine RVdn_call (c_types_Same g rnd a b (by omega)) ?_
        simp [hca, hcb]
        repeat (refine ⟨by first | omega | (simp at *; omega), ?_⟩)
        refine RVdn_call (c_types_Text g rnd a (by omega)) ?_
        simp [hca, hcb]
        repeat (refine ⟨by first | omega | (simp at *; omega), ?_⟩)
        refine RVdn_call (c_ref04x_Text g rnd a (by omega)) ?_
        simp [hca, hcb]
        repeat (refine ⟨by first | omega | (simp at *; omega), ?_⟩)
        refine RVdn_call (c_types_Depth g rnd a (by omega)) ?_
        simp [hca, hcb]
        repeat (refine ⟨by first | omega | (simp at *; omega), ?_⟩)
        refine RVdn_call (c_ref04x_Depth g rnd a (by omega)) ?_
        simp [hca, hcb]
        repeat (refine ⟨by first | omega | (simp at *; omega), ?_⟩)
        refine RVdn_call (c_types_Size g rnd a (by omega)) ?_
        simp [hca, hcb]
        repeat (refine ⟨by first | omega | (simp at *; omega), ?_⟩)
        refine RVdn_call (c_ref04x_List g rnd a (by omega)) ?_
        simp [hca, hcb]
        repeat (refine ⟨by first | omega | (simp at *; omega), ?_⟩)
        refine RVdn_call (c_types_Right g rnd a (by omega) hres) ?_
        simp [hca, hcb]
        repeat (refine ⟨by first | omega | (simp at *; omega), ?_⟩)
        refine RVdn_call (c_ref04x_Right g rnd a (by omega)) ?_
        simp [hca, hcb]
        repeat (refine ⟨by first | omega | (simp at *; omega), ?_⟩)
        refine hK6 _ ?_
        clear hK6 K6
        refine AT_cond (b := false) (g := none) (by simp [hca, hcb]) (fun hb => ?_) (fun hb => ?_)
        ·
          cases hb
        ·
          clear hb
          refine AT_skip ?_
          try simp only [thenA, inBlockA, ite_true, ite_false, reduceIte, Nat.reduceEqDiff]
          refine hK5 _ ?_
          cases hra : rightT a
          ·
            refine AT_seq_draw Pt.mixed (by kernel_rfl) fun K7 hK7 => ?_
            simp [hca, hcb, hra]
            repeat (refine ⟨by first | omega | (simp at *; omega), ?_⟩)
            try (
              refine RVdn_call (c_ref04x_Right g rnd a (by omega)) ?_
              simp [hca, hcb, hra]
              repeat (refine ⟨by first | omega | (simp at *; omega), ?_⟩))
            try (
              refine RVdn_call (c_ref04x_Right g rnd b (by omega)) ?_
              simp [hca, hcb, hra]
              repeat (refine ⟨by first | omega | (simp at *; omega), ?_⟩))
            try (
              refine RVdn_call (c_types_Text g rnd a (by omega)) ?_
              simp [hca, hcb, hra]
              repeat (refine ⟨by first | omega | (simp at *; omega), ?_⟩))
            try (
              refine RVdn_call (c_types_Text g rnd b (by omega)) ?_
              simp [hca, hcb, hra]
              repeat (refine ⟨by first | omega | (simp at *; omega), ?_⟩))
            refine hK7 _ ?_
            clear hK7 K7
            refine AT_ret ?_
            simp [Tryd.f3]
          ·
            cases hrb : rightT b
            ·
              refine AT_seq_draw Pt.mixed (by kernel_rfl) fun K8 hK8 => ?_
              simp [hca, hcb, hra, hrb]
              repeat (refine ⟨by first | omega | (simp at *; omega), ?_⟩)
              try (
                refine RVdn_call (c_ref04x_Right g rnd a (by omega)) ?_
                simp [hca, hcb, hra, hrb]
                repeat (refine ⟨by first | omega | (simp at *; omega), ?_⟩))
              try (
                refine RVdn_call (c_ref04x_Right g rnd b (by omega)) ?_
                simp [hca, hcb, hra, hrb]
                repeat (refine ⟨by first | omega | (simp at *; omega), ?_⟩))
              try (
                refine RVdn_call (c_types_Text g rnd a (by omega)) ?_
                simp [hca, hcb, hra, hrb]
                repeat (refine ⟨by first | omega | (simp at *; omega), ?_⟩))
              try (
                refine RVdn_call (c_types_Text g rnd b (by omega)) ?_
                simp [hca, hcb, hra, hrb]
                repeat (refine ⟨by first | omega | (simp at *; omega), ?_⟩))
              refine hK8 _ ?_
              clear hK8 K8
              refine AT_ret ?_
              simp [Tryd.f3]
            ·
              have hts := txt_same hra hrb
              refine AT_seq_draw Pt.mixed (by kernel_rfl) fun K9 hK9 => ?_
              simp [hca, hcb, hra, hrb, hts]
              repeat (refine ⟨by first | omega | (simp at *; omega), ?_⟩)
              try (
                refine RVdn_call (c_ref04x_Right g rnd a (by omega)) ?_
                simp [hca, hcb, hra, hrb, hts]
                repeat (refine ⟨by first | omega | (simp at *; omega), ?_⟩))
              try (
                refine RVdn_call (c_ref04x_Right g rnd b (by omega)) ?_
                simp [hca, hcb, hra, hrb, hts]
                repeat (refine ⟨by first | omega | (simp at *; omega), ?_⟩))
              try (
                refine RVdn_call (c_types_Text g rnd a (by omega)) ?_
                simp [hca, hcb, hra, hrb, hts]
                repeat (refine ⟨by first | omega | (simp at *; omega), ?_⟩))
              try (
                refine RVdn_call (c_types_Text g rnd b (by omega)) ?_
                simp [hca, hcb, hra, hrb, hts]
                repeat (refine ⟨by first | omega | (simp at *; omega), ?_⟩))
              refine hK9 _ ?_
              clear hK9 K9
              refine AT_ret ?_
              simp [Tryd.f3]
    ·
      refine AT_seq_region fun K10 hK10 => ?_
      simp [hca, hcb]
      repeat (refine ⟨by first | omega | (simp at *; omega), ?_⟩)
      try (
        refine RVn_call (c_law04x_awake g rnd hres) ?_
        simp [hca, hcb]
        repeat (refine ⟨by first | omega | (simp at *; omega), ?_⟩))
      try (
        refine RVn_call (c_ref04x_Few g rnd a hfa) ?_
        simp [hca, hcb]
        repeat (refine ⟨by first | omega | (simp at *; omega), ?_⟩))
      try (
        refine RVn_call (c_ref04x_Few g rnd b hfb) ?_
        simp [hca, hcb]
        repeat (refine ⟨by first | omega | (simp at *; omega), ?_⟩))
      refine hK10 _ ?_
      clear hK10 K10
      refine AT_cond (b := true) (g := none) (by simp [hca, hcb]) (fun hb => ?_) (fun hb => ?_)
      ·
        clear hb
        refine AT_seq_region fun K11 hK11 => ?_
        simp [hca, hcb]
        repeat (refine ⟨by first | omega | (simp at *; omega), ?_⟩)
        refine RVn_call (c_law04x_awake g rnd hres) ?_
        simp [hca, hcb]
        repeat (refine ⟨by first | omega | (simp at *; omega), ?_⟩)
        refine hK11 _ ?_
        clear hK11 K11
        refine AT_ret ?_
        simp [Tryd.f3]
      ·
        cases hb
  ·
    refine AT_seq_region fun K12 hK12 => ?_
    simp [hca]
    repeat (refine ⟨by first | omega | (simp at *; omega), ?_⟩)
    try (
      refine RVn_call (c_law04x_awake g rnd hres) ?_
      simp [hca]
      repeat (refine ⟨by first | omega | (simp at *; omega), ?_⟩))
    try (
      refine RVn_call (c_ref04x_Few g rnd a hfa) ?_
      simp [hca]
      repeat (refine ⟨by first | omega | (simp at *; omega), ?_⟩))
    try (
      refine RVn_call (c_ref04x_Few g rnd b hfb) ?_
      simp [hca]
      repeat (refine ⟨by first | omega | (simp at *; omega), ?_⟩))
    refine hK12 _ ?_
    clear hK12 K12
    refine AT_cond (b := true) (g := none) (by simp [hca]) (fun hb => ?_) (fun hb => ?_)
    ·
      clear hb
      refine AT_seq_region fun K13 hK13 => ?_
      simp [hca]
      repeat (refine ⟨by first | omega | (simp at *; omega), ?_⟩)
      refine RVn_call (c_law04x_awake g rnd hres) ?_
      simp [hca]
      repeat (refine ⟨by first | omega | (simp at *; omega), ?_⟩)
      refine hK13 _ ?_
      clear hK13 K13
      refine AT_ret ?_
      simp [Tryd.f3]
    ·
      cases hb

end Go.Proofs.YtghmdnfdocdgfaaDoor

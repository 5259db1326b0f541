/- Contracts. -/
import Derived.Test.YtghmdnfdocdgfaaDoorPt
import Derived.Test.YtghmdnfdocdgfaaDoorPvZ
import Derived.Test.YtghmdnfdocdgfaaDoorXTyR
import Derived.Test.YtghmdnfdocdgfaaDoorXTyE
import Derived.Test.YtghmdnfdocdgfaaDoorXTyD
import Derived.Test.YtghmdnfdocdgfaaDoorXTyP
set_option linter.all false
set_option maxHeartbeats 1000000
set_option maxRecDepth 10000
namespace Go.Proofs.YtghmdnfdocdgfaaDoor
open Go Go.Pv
variable (g : Nat → Option (List AV)) (rnd : Bool)

theorem c_law04x_TypesNames (t : Ty) (m : Int) (hm0 : 0 ≤ m) (hm1 : m ≤ 255) (hft : fit t) (hres : g 0 = some reservedA) : Valid Tryd.prog (G0 g false) 5 [.agg (encTy t), .int .u8 m] (.bool true) := by
  have hwr : IntKind.i64.wrap m = m := by rw [IntKind.wrap_i64]; omega
  have hll := lst_wt t
  refine valid_of [] Tryd.func5 rfl (by kernel_rfl) ?_
  refine AT_seq_region fun K1 hK1 => ?_
  simp [row_map, hwr, AS.out, Tryd.f5]
  repeat (refine ⟨by first | omega | (simp at *; omega), ?_⟩)
  refine hK1 _ ?_
  clear hK1 K1
  refine AT_seq_k fun K2 hK2 => ?_
  by_cases hct : cnt t 0 ≤ 200
  ·
    have hwt := few_wt hct
    refine AT_seq_region fun K3 hK3 => ?_
    simp [row_map, hwr, AS.out, hct]
    repeat (refine ⟨by first | omega | (simp at *; omega), ?_⟩)
    try (
      refine RVn_call (c_law04x_awake g false hres) ?_
      simp [row_map, hwr, AS.out, hct]
      repeat (refine ⟨by first | omega | (simp at *; omega), ?_⟩))
    try (
      refine RVn_call (c_ref04x_Few g false t hft) ?_
      simp [row_map, hwr, AS.out, hct]
      repeat (refine ⟨by first | omega | (simp at *; omega), ?_⟩))
    refine hK3 _ ?_
    clear hK3 K3
    refine AT_cond (b := false) (g := none) (by simp [hct]) (fun hb => ?_) (fun hb => ?_)
    ·
      cases hb
    ·
      clear hb
      refine AT_skip ?_
      try simp only [thenA, inBlockA, ite_true, ite_false, reduceIte, Nat.reduceEqDiff]
      refine hK2 _ ?_
      refine AT_seq_region fun K4 hK4 => ?_
      simp [row_map, hwr, AS.out, hct]
      repeat (refine ⟨by first | omega | (simp at *; omega), ?_⟩)
      refine RVn_call (c_ref04x_List g false t (by omega)) ?_
      simp [row_map, hwr, AS.out, hct]
      repeat (refine ⟨by first | omega | (simp at *; omega), ?_⟩)
      refine hK4 _ ?_
      clear hK4 K4
      refine AT_seq_region fun K5 hK5 => ?_
      simp [row_map, hwr, AS.out, hct]
      repeat (refine ⟨by first | omega | (simp at *; omega), ?_⟩)
      refine RVn_call (c_types_Names g false t) ?_
      simp [row_map, hwr, AS.out, hct]
      repeat (refine ⟨by first | omega | (simp at *; omega), ?_⟩)
      refine hK5 _ ?_
      clear hK5 K5
      refine AT_seq_k fun K6 hK6 => ?_
      refine AT_seq_region fun K7 hK7 => ?_
      simp [row_map, hwr, AS.out, hct]
      repeat (refine ⟨by first | omega | (simp at *; omega), ?_⟩)
      refine hK7 _ ?_
      clear hK7 K7
      refine AT_cond (b := false) (g := none) (by simp [hct]) (fun hb => ?_) (fun hb => ?_)
      ·
        cases hb
      ·
        clear hb
        refine AT_skip ?_
        try simp only [thenA, inBlockA, ite_true, ite_false, reduceIte, Nat.reduceEqDiff]
        refine hK6 _ ?_
        refine AT_seq_region fun K8 hK8 => ?_
        simp [row_map, hwr, AS.out, hct]
        repeat (refine ⟨by first | omega | (simp at *; omega), ?_⟩)
        refine hK8 _ ?_
        clear hK8 K8
        refine AT_seq_k fun K9 hK9 => ?_
        refine AT_seq_region fun K10 hK10 => ?_
        simp [row_map, hwr, AS.out, hct]
        repeat (refine ⟨by first | omega | (simp at *; omega), ?_⟩)
        refine hK10 _ ?_
        clear hK10 K10
        refine AT_block ?_
        refine AT_keep [3,4,5,7,23] [3,4,5,7] (by first | rfl | simp) ?_
        refine AT_rangeFunc rfl rfl (by first | rfl | simp) (by first | decide | simp) [3,4,5,7] (by decide) (elM ((lst t).map AV.str) m) (goM m) (feedG (goM m) [] ((lst t).map AV.str)) (fun Y hP hgo hel => ⟨_, by have h := c_types_Names_1 g Y hP t (by omega) [] (elOk_M hel hgo _ _ (by simp) (by simpa using hm0)); rw [feed_G, hgo] at h; exact h⟩) (fun s => { n := 51, tm := [(3, .lp 3 0), (4, .lp 4 0), (5, .lp 5 0), (7, .lp 7 0), (23, .v (.func 40 [.ro (encTy t)]) none)], bx := [(3, [.int .u8 m]), (4, [.bool false]), (5, [.slice ((lst t).map encS)]), (7, [.int .i64 s.length])], tb := [], sh := [], hint := [] }) (by first | rfl | simp) ?_ ?_
        ·
          intro s x hel
          obtain ⟨hel, hsm⟩ := hel
          obtain ⟨hsl, rfl⟩ := elP_get hel
          have hsn : ¬ (lst t).length ≤ s.length := by omega
          refine AT_region_q fun K12 hK12 => ?_
          simp [row_map, hwr, AS.out, hct, hsl, hsn]
          repeat (refine ⟨by first | omega | (simp at *; omega), ?_⟩)
          refine hK12 _ ?_
          clear hK12 K12
          try simp only [thenA, inBlockA, ite_true, ite_false, reduceIte, Nat.reduceEqDiff]
          refine AT_block ?_
          refine AT_seq_k fun K13 hK13 => ?_
          refine AT_seq_region fun K14 hK14 => ?_
          skip
          simp [row_map, hwr, AS.out, hsl, hct, hsl, hsn]
          repeat (refine ⟨by first | omega | (simp at *; omega), ?_⟩)
          refine hK14 _ ?_
          clear hK14 K14
          refine AT_cond (b := false) (g := none) (by simp [hsl, hct, hsl, hsn]) (fun hb => ?_) (fun hb => ?_)
          ·
            cases hb
          ·
            clear hb
            refine AT_skip ?_
            try simp only [thenA, inBlockA, ite_true, ite_false, reduceIte, Nat.reduceEqDiff]
            refine hK13 _ ?_
            refine AT_seq_region fun K15 hK15 => ?_
            simp [row_map, hwr, AS.out, hct, hsl, hsn]
            repeat (refine ⟨by first | omega | (simp at *; omega), ?_⟩)
            refine hK15 _ ?_
            clear hK15 K15
            refine AT_seq_region fun K16 hK16 => ?_
            simp [row_map, hwr, AS.out, hct, hsl, hsn]
            repeat (refine ⟨by first | omega | (simp at *; omega), ?_⟩)
            refine hK16 _ ?_
            clear hK16 K16
            refine AT_cond (g := none) rfl (fun hb42 => ?_) (fun hb42 => ?_)
            ·
              try simp [row_map, hwr, AS.out, hct, hsl, hsn] at hb42
              refine AT_exit ?_
              try simp only [thenA, inBlockA, ite_true, ite_false, reduceIte, Nat.reduceEqDiff]
              refine ⟨by simp only [goM, decide_eq_false_iff_not]; omega, by first | rfl | simp [tmOk], [3,4,5,7], by first | rfl | simp, ?_⟩
              refine AT_exit ?_
              try simp only [thenA, inBlockA, ite_true, ite_false, reduceIte, Nat.reduceEqDiff]
              refine hK9 _ ?_
              refine AT_seq_region fun K17 hK17 => ?_
              skip
              simp [row_map, hwr, AS.out, hct, hsl, hsn, hb42]
              repeat (refine ⟨by first | omega | (simp at *; omega), ?_⟩)
              refine hK17 _ ?_
              clear hK17 K17
              refine AT_ret ?_
              simp [row_map, hwr, AS.out, Tryd.f5]
              first | omega | (intro; omega) | skip
            ·
              try simp [row_map, hwr, AS.out, hct, hsl, hsn] at hb42
              refine AT_skip ?_
              try simp only [thenA, inBlockA, ite_true, ite_false, reduceIte, Nat.reduceEqDiff]
              refine ⟨by simp only [goM, decide_eq_true_eq]; omega, by first | rfl | simp [tmOk], [3,4,5,7], by first | rfl | simp, ?_⟩
              simp [AS.out]
        ·
          intro hfin
          obtain ⟨hf1, hf2⟩ := feedG_M m _ _ hfin
          rw [hf1]
          have hf3 : ((lst t).length : Int) ≤ m := by
            rcases hf2 with h | h
            · have := congrArg List.length h
              rw [List.length_map] at this
              simp only [List.length_nil] at this; omega
            · simpa using h
          try simp only [thenA, inBlockA, ite_true, ite_false, reduceIte, Nat.reduceEqDiff]
          refine hK9 _ ?_
          refine AT_seq_region fun K18 hK18 => ?_
          skip
          simp [row_map, hwr, AS.out, hct]
          repeat (refine ⟨by first | omega | (simp at *; omega), ?_⟩)
          refine hK18 _ ?_
          clear hK18 K18
          refine AT_ret ?_
          simp [row_map, hwr, AS.out, Tryd.f5]
          first | omega | (intro; omega) | skip
  ·
    refine AT_seq_region fun K19 hK19 => ?_
    simp [row_map, hwr, AS.out, hct]
    repeat (refine ⟨by first | omega | (simp at *; omega), ?_⟩)
    try (
      refine RVn_call (c_law04x_awake g false hres) ?_
      simp [row_map, hwr, AS.out, hct]
      repeat (refine ⟨by first | omega | (simp at *; omega), ?_⟩))
    try (
      refine RVn_call (c_ref04x_Few g false t hft) ?_
      simp [row_map, hwr, AS.out, hct]
      repeat (refine ⟨by first | omega | (simp at *; omega), ?_⟩))
    refine hK19 _ ?_
    clear hK19 K19
    refine AT_cond (b := true) (g := none) (by simp [hct]) (fun hb => ?_) (fun hb => ?_)
    ·
      clear hb
      refine AT_seq_region fun K20 hK20 => ?_
      simp [row_map, hwr, AS.out, hct]
      repeat (refine ⟨by first | omega | (simp at *; omega), ?_⟩)
      refine RVn_call (c_law04x_awake g false hres) ?_
      simp [row_map, hwr, AS.out, hct]
      repeat (refine ⟨by first | omega | (simp at *; omega), ?_⟩)
      refine hK20 _ ?_
      clear hK20 K20
      refine AT_ret ?_
      simp [row_map, hwr, AS.out, Tryd.f5]
      first | omega | (intro; omega) | skip
    ·
      cases hb

end Go.Proofs.YtghmdnfdocdgfaaDoor

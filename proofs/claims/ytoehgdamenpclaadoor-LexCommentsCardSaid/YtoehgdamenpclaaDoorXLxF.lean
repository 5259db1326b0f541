/- Contracts: joined texts, lines, errors. -/
import Derived.Test.YtoehgdamenpclaaDoorPt
import Derived.Test.YtoehgdamenpclaaDoorPvLc
import Derived.Test.YtoehgdamenpclaaDoorPvX
import Derived.Test.YtoehgdamenpclaaDoorXLxE
import Derived.Test.YtoehgdamenpclaaDoorXLxD
import Derived.Test.YtoehgdamenpclaaDoorXLxC
import Derived.Test.YtoehgdamenpclaaDoorXErA
import Derived.Test.YtoehgdamenpclaaDoorXShelf
import Derived.Test.YtoehgdamenpclaaDoorXLbJ
set_option linter.all false
set_option maxHeartbeats 1000000
set_option maxRecDepth 10000
namespace Go.Proofs.YtoehgdamenpclaaDoor
open Go Go.Pv
variable (g : Nat → Option (List AV)) (rnd : Bool)

theorem c_law03x_told (n : Int) (hty : g 0 = some errTy) : Valid Tryd.prog (G0 g rnd) 11 [.iface 64 (.agg [.int .i64 1, .int .i64 n]), .int .i64 n] (.bool true) := by

  refine valid_of [] Tryd.func11 rfl (by kernel_rfl) ?_
  refine AT_seq_region fun K1 hK1 => ?_
  simp [Tryd.f11]
  repeat (refine ⟨by first | omega | assumption | exact Rows_map _ _ encK_cells _ | (simp at *; omega), ?_⟩)
  refine hK1 _ ?_
  clear hK1 K1
  refine AT_seq_region fun K2 hK2 => ?_
  simp
  repeat (refine ⟨by first | omega | assumption | exact Rows_map _ _ encK_cells _ | (simp at *; omega), ?_⟩)
  refine RVn_call (fault_Code_f g rnd hty _ _) ?_
  simp
  repeat (refine ⟨by first | omega | assumption | exact Rows_map _ _ encK_cells _ | (simp at *; omega), ?_⟩)
  refine hK2 _ ?_
  clear hK2 K2
  refine AT_seq_region fun K3 hK3 => ?_
  simp
  repeat (refine ⟨by first | omega | assumption | exact Rows_map _ _ encK_cells _ | (simp at *; omega), ?_⟩)
  refine RVn_call (fault_At_f g rnd hty _ _) ?_
  simp
  repeat (refine ⟨by first | omega | assumption | exact Rows_map _ _ encK_cells _ | (simp at *; omega), ?_⟩)
  refine hK3 _ ?_
  clear hK3 K3
  refine AT_seq_region fun K4 hK4 => ?_
  simp
  repeat (refine ⟨by first | omega | assumption | exact Rows_map _ _ encK_cells _ | (simp at *; omega), ?_⟩)
  refine hK4 _ ?_
  clear hK4 K4
  refine AT_ret ?_
  simp [Tryd.f11]

theorem c_ref03x_Same (a : List Tk) (hl : a.length ≤ 1000000000) : Valid Tryd.prog (G0 g rnd) 12 [.slice (a.map encK), .slice (a.map encK)] (.bool true) := by

  refine valid_of [] Tryd.func12 rfl (by kernel_rfl) ?_
  refine AT_seq_region fun K1 hK1 => ?_
  simp [row_map, encK, Tryd.f12]
  repeat (refine ⟨by first | omega | assumption | exact Rows_map _ _ encK_cells _ | (simp at *; omega), ?_⟩)
  refine hK1 _ ?_
  clear hK1 K1
  refine AT_seq_k fun K2 hK2 => ?_
  refine AT_seq_region fun K3 hK3 => ?_
  simp [row_map, encK]
  repeat (refine ⟨by first | omega | assumption | exact Rows_map _ _ encK_cells _ | (simp at *; omega), ?_⟩)
  refine hK3 _ ?_
  clear hK3 K3
  refine AT_cond (b := false) (g := none) (by simp) (fun hb => ?_) (fun hb => ?_)
  ·
    cases hb
  ·
    clear hb
    refine AT_skip ?_
    try simp only [thenA, inBlockA, noGotoA, ite_true, ite_false, reduceIte, Nat.reduceEqDiff]
    refine hK2 _ ?_
    refine AT_seq_k fun K4 hK4 => ?_
    refine AT_seq_region fun K5 hK5 => ?_
    simp [row_map, encK]
    repeat (refine ⟨by first | omega | assumption | exact Rows_map _ _ encK_cells _ | (simp at *; omega), ?_⟩)
    refine hK5 _ ?_
    clear hK5 K5
    refine AT_block ?_
    refine AT_loop_q [0,1,5] [] (fun j s => ∃ k, k ≤ a.length ∧ j = a.length - k ∧ s = { n := 26, tm := [(0, .v (.slice (a.map encK)) none), (1, .v (.slice (a.map encK)) none), (5, .v (.int .i64 k) none)], bx := [], tb := [], sh := [], hint := [] }) (a.length) (by first | rfl | simp) ?_ ?_
    ·
      exact ⟨0, by simp⟩
    ·
      rintro j s ⟨k, hk, rfl, rfl⟩ K6 hK6
      refine AT_seq_k fun K7 hK7 => ?_
      refine AT_seq_region fun K8 hK8 => ?_
      simp [row_map, encK]
      repeat (refine ⟨by first | omega | assumption | exact Rows_map _ _ encK_cells _ | (simp at *; omega), ?_⟩)
      refine hK8 _ ?_
      clear hK8 K8
      refine AT_cond (g := none) rfl (fun hb14 => ?_) (fun hb14 => ?_)
      ·
        try simp [row_map, encK] at hb14
        refine AT_skip ?_
        try simp only [thenA, inBlockA, noGotoA, ite_true, ite_false, reduceIte, Nat.reduceEqDiff]
        refine hK7 _ ?_
        refine AT_seq_k fun K9 hK9 => ?_
        refine AT_block ?_
        refine AT_seq_draw Pt.mixed (by kernel_rfl) fun K10 hK10 => ?_
        simp [row_map, encK, hb14]
        repeat (refine ⟨by first | omega | assumption | exact Rows_map _ _ encK_cells _ | (simp at *; omega), ?_⟩)
        refine hK10 _ ?_
        clear hK10 K10
        refine AT_cond (b := false) (g := none) (by simp [hb14]) (fun hb => ?_) (fun hb => ?_)
        ·
          cases hb
        ·
          clear hb
          refine AT_skip ?_
          try simp only [thenA, inBlockA, noGotoA, ite_true, ite_false, reduceIte, Nat.reduceEqDiff]
          refine hK9 _ ?_
          refine AT_region_q fun K11 hK11 => ?_
          simp [row_map, encK, hb14]
          repeat (refine ⟨by first | omega | assumption | exact Rows_map _ _ encK_cells _ | (simp at *; omega), ?_⟩)
          refine hK11 _ ?_
          clear hK11 K11
          try simp only [thenA, inBlockA, noGotoA, ite_true, ite_false, reduceIte, Nat.reduceEqDiff]
          refine hK6 _ (by first | rfl | simp) (a.length - (k+1)) (by omega) ?_
          exact ⟨k+1, by omega, by omega, by simp⟩
      ·
        try simp [row_map, encK] at hb14
        refine AT_exit ?_
        try simp only [thenA, inBlockA, noGotoA, ite_true, ite_false, reduceIte, Nat.reduceEqDiff]
        refine hK4 _ ?_
        refine AT_seq_region fun K12 hK12 => ?_
        simp [row_map, encK, hb14]
        repeat (refine ⟨by first | omega | assumption | exact Rows_map _ _ encK_cells _ | (simp at *; omega), ?_⟩)
        refine hK12 _ ?_
        clear hK12 K12
        refine AT_ret ?_
        simp [row_map, encK, Tryd.f12]

theorem c_lex_Join (a : List Tk) (hz : szK (a.map ktOf) ≤ 1000000000) : Valid Tryd.prog (G0 g rnd) 14 [.slice (a.map encK)] (.str (joinK (a.map ktOf))) := by
  have hl : a.length ≤ 1000000000 := by have := szK_len (a.map ktOf); rw [List.length_map] at this; omega
  have hjz := joinK_sz (a.map ktOf)
  have hjl := jt_len (a.map ktOf)
  rw [List.length_map] at hjl
  refine valid_of [(3, 9)] Tryd.func14 rfl (by kernel_rfl) ?_
  refine AT_seq_region fun K1 hK1 => ?_
  simp [row_map, encK, Tryd.f14]
  repeat (refine ⟨by first | omega | assumption | exact Rows_map _ _ encK_cells _ | (simp at *; omega), ?_⟩)
  refine hK1 _ ?_
  clear hK1 K1
  refine AT_seq_region fun K2 hK2 => ?_
  simp [row_map, encK]
  repeat (refine ⟨by first | omega | assumption | exact Rows_map _ _ encK_cells _ | (simp at *; omega), ?_⟩)
  refine hK2 _ ?_
  clear hK2 K2
  refine AT_seq_k fun K3 hK3 => ?_
  refine AT_seq_region fun K4 hK4 => ?_
  simp [row_map, encK]
  repeat (refine ⟨by first | omega | assumption | exact Rows_map _ _ encK_cells _ | (simp at *; omega), ?_⟩)
  refine hK4 _ ?_
  clear hK4 K4
  refine AT_block ?_
  refine AT_loop_q [3,6,7,8] [] (fun j s => ∃ k, k ≤ a.length ∧ j = a.length - k ∧ s = { n := 23, tm := [(3, .v (.slice ((jt ((a.map ktOf).take k)).map encS)) (some (3, 9))), (6, .v (.slice (a.map encK)) none), (7, .v (.int .i64 a.length) none), (8, .v (.int .i64 k) none)], bx := [], tb := [], sh := [], hint := [(3, 9)] }) (a.length) (by first | rfl | simp) ?_ ?_
  ·
    exact ⟨0, by simp [jt]⟩
  ·
    rintro j s ⟨k, hk, rfl, rfl⟩ K5 hK5
    refine AT_seq_region fun K6 hK6 => ?_
    simp [row_map, encK]
    repeat (refine ⟨by first | omega | assumption | exact Rows_map _ _ encK_cells _ | (simp at *; omega), ?_⟩)
    refine hK6 _ ?_
    clear hK6 K6
    refine AT_seq_k fun K7 hK7 => ?_
    refine AT_cond (g := none) rfl (fun hb9 => ?_) (fun hb9 => ?_)
    ·
      try simp [row_map, encK] at hb9
      refine AT_skip ?_
      try simp only [thenA, inBlockA, noGotoA, ite_true, ite_false, reduceIte, Nat.reduceEqDiff]
      refine hK7 _ ?_
      refine AT_seq_k fun K8 hK8 => ?_
      refine AT_block ?_
      refine AT_seq_region fun K9 hK9 => ?_
      simp [row_map, encK, hb9]
      repeat (refine ⟨by first | omega | assumption | exact Rows_map _ _ encK_cells _ | (simp at *; omega), ?_⟩)
      refine hK9 _ ?_
      clear hK9 K9
      cases h3 : (a[k].1 != 3)
      ·
        have h3b : a[k].1 = 3 := by simpa using h3
        refine AT_seq_region fun K10 hK10 => ?_
        simp [row_map, encK, hb9, h3]
        repeat (refine ⟨by first | omega | assumption | exact Rows_map _ _ encK_cells _ | (simp at *; omega), ?_⟩)
        refine hK10 _ ?_
        clear hK10 K10
        refine AT_cond (b := false) (g := none) (by simp [hb9, h3]) (fun hb => ?_) (fun hb => ?_)
        ·
          cases hb
        ·
          clear hb
          refine AT_skip ?_
          try simp only [thenA, inBlockA, noGotoA, ite_true, ite_false, reduceIte, Nat.reduceEqDiff]
          refine hK8 _ ?_
          refine AT_region_q fun K11 hK11 => ?_
          simp [row_map, encK, hb9, h3]
          repeat (refine ⟨by first | omega | assumption | exact Rows_map _ _ encK_cells _ | (simp at *; omega), ?_⟩)
          refine hK11 _ ?_
          clear hK11 K11
          try simp only [thenA, inBlockA, noGotoA, ite_true, ite_false, reduceIte, Nat.reduceEqDiff]
          refine hK5 _ (by first | rfl | simp) (a.length - (k+1)) (by omega) ?_
          have hj := jt_take2 hb9
          first
          | (rw [if_pos h3b, List.append_nil] at hj
             exact ⟨k+1, by omega, by omega, by rw [hj]; simp⟩)
          | (rw [if_neg h3b] at hj
             exact ⟨k+1, by omega, by omega, by rw [hj]; simp [encS]⟩)
      ·
        have h3b : ¬ a[k].1 = 3 := by simpa using h3
        refine AT_seq_region fun K12 hK12 => ?_
        simp [row_map, encK, hb9, h3]
        repeat (refine ⟨by first | omega | assumption | exact Rows_map _ _ encK_cells _ | (simp at *; omega), ?_⟩)
        refine hK12 _ ?_
        clear hK12 K12
        refine AT_cond (b := true) (g := none) (by simp [hb9, h3]) (fun hb => ?_) (fun hb => ?_)
        ·
          clear hb
          refine AT_region_q fun K13 hK13 => ?_
          have hjk := jt_len ((a.map ktOf).take k)
          rw [List.length_take] at hjk
          simp [row_map, encK, hb9, h3]
          repeat (refine ⟨by first | omega | assumption | exact Rows_map _ _ encK_cells _ | (simp at *; omega), ?_⟩)
          refine hK13 _ ?_
          clear hK13 K13
          try simp only [thenA, inBlockA, noGotoA, ite_true, ite_false, reduceIte, Nat.reduceEqDiff]
          refine hK8 _ ?_
          refine AT_region_q fun K14 hK14 => ?_
          simp [row_map, encK, hb9, h3]
          repeat (refine ⟨by first | omega | assumption | exact Rows_map _ _ encK_cells _ | (simp at *; omega), ?_⟩)
          refine hK14 _ ?_
          clear hK14 K14
          try simp only [thenA, inBlockA, noGotoA, ite_true, ite_false, reduceIte, Nat.reduceEqDiff]
          refine hK5 _ (by first | rfl | simp) (a.length - (k+1)) (by omega) ?_
          have hj := jt_take2 hb9
          first
          | (rw [if_pos h3b, List.append_nil] at hj
             exact ⟨k+1, by omega, by omega, by rw [hj]; simp⟩)
          | (rw [if_neg h3b] at hj
             exact ⟨k+1, by omega, by omega, by rw [hj]; simp [encS]⟩)
        ·
          cases hb
    ·
      try simp [row_map, encK] at hb9
      refine AT_exit ?_
      try simp only [thenA, inBlockA, noGotoA, ite_true, ite_false, reduceIte, Nat.reduceEqDiff]
      refine hK3 _ ?_
      refine AT_seq_region fun K15 hK15 => ?_
      rw [take_kt hb9]
      simp [row_map, encK, hb9]
      repeat (refine ⟨by first | omega | assumption | exact Rows_map _ _ encK_cells _ | (simp at *; omega), ?_⟩)
      refine RVn_call (c_strings_Join g rnd (jt (a.map ktOf)) [32] (by omega) (by rw [joinK] at hjz; omega)) ?_
      simp [row_map, encK, hb9]
      repeat (refine ⟨by first | omega | assumption | exact Rows_map _ _ encK_cells _ | (simp at *; omega), ?_⟩)
      refine hK15 _ ?_
      clear hK15 K15
      refine AT_ret ?_
      simp [row_map, encK, Tryd.f14]
      rfl

theorem c_ref03x_Join (a : List Tk) (hz : szK (a.map ktOf) ≤ 1000000000) : Valid Tryd.prog (G0 g rnd) 15 [.slice (a.map encK)] (.str (refJ (a.map ktOf))) := by
  have hl : a.length ≤ 1000000000 := by have := szK_len (a.map ktOf); rw [List.length_map] at this; omega
  refine valid_of [] Tryd.func15 rfl (by kernel_rfl) ?_
  refine AT_seq_region fun K1 hK1 => ?_
  simp [row_map, encK, Tryd.f15]
  repeat (refine ⟨by first | omega | assumption | exact Rows_map _ _ encK_cells _ | (simp at *; omega), ?_⟩)
  refine hK1 _ ?_
  clear hK1 K1
  refine AT_seq_region fun K2 hK2 => ?_
  simp [row_map, encK]
  repeat (refine ⟨by first | omega | assumption | exact Rows_map _ _ encK_cells _ | (simp at *; omega), ?_⟩)
  refine hK2 _ ?_
  clear hK2 K2
  refine AT_seq_k fun K3 hK3 => ?_
  refine AT_seq_region fun K4 hK4 => ?_
  simp [row_map, encK]
  repeat (refine ⟨by first | omega | assumption | exact Rows_map _ _ encK_cells _ | (simp at *; omega), ?_⟩)
  refine hK4 _ ?_
  clear hK4 K4
  refine AT_block ?_
  refine AT_loop_q [0,3,4] [] (fun j s => ∃ k, k ≤ a.length ∧ j = a.length - k ∧ s = { n := 37, tm := [(0, .v (.slice (a.map encK)) none), (3, .v (.str (refJ ((a.map ktOf).take k))) none), (4, .v (.int .i64 k) none)], bx := [], tb := [], sh := [], hint := [] }) (a.length) (by first | rfl | simp) ?_ ?_
  ·
    exact ⟨0, by simp [refJ]⟩
  ·
    rintro j s ⟨k, hk, rfl, rfl⟩ K5 hK5
    refine AT_seq_k fun K6 hK6 => ?_
    refine AT_seq_region fun K7 hK7 => ?_
    simp [row_map, encK]
    repeat (refine ⟨by first | omega | assumption | exact Rows_map _ _ encK_cells _ | (simp at *; omega), ?_⟩)
    refine hK7 _ ?_
    clear hK7 K7
    refine AT_cond (g := none) rfl (fun hb8 => ?_) (fun hb8 => ?_)
    ·
      try simp [row_map, encK] at hb8
      refine AT_skip ?_
      try simp only [thenA, inBlockA, noGotoA, ite_true, ite_false, reduceIte, Nat.reduceEqDiff]
      refine hK6 _ ?_
      refine AT_seq_k fun K8 hK8 => ?_
      refine AT_block ?_
      refine AT_seq_k fun K9 hK9 => ?_
      cases h3 : (a[k].1 != 3)
      ·
        have h3b : a[k].1 = 3 := by simpa using h3
        refine AT_seq_region fun K10 hK10 => ?_
        have hrz := refJ_sz ((a.map ktOf).take k)
        have hrt := szK_take (a.map ktOf) k
        have hrg := szK_kt_get hb8
        simp [row_map, encK, hb8, h3]
        repeat (refine ⟨by first | omega | assumption | exact Rows_map _ _ encK_cells _ | (simp at *; omega), ?_⟩)
        refine hK10 _ ?_
        clear hK10 K10
        refine AT_cond (b := false) (g := none) (by simp [hb8, h3]) (fun hb => ?_) (fun hb => ?_)
        ·
          cases hb
        ·
          clear hb
          refine AT_skip ?_
          try simp only [thenA, inBlockA, noGotoA, ite_true, ite_false, reduceIte, Nat.reduceEqDiff]
          refine hK9 _ ?_
          refine AT_seq_region fun K11 hK11 => ?_
          simp [row_map, encK, hb8, h3]
          repeat (refine ⟨by first | omega | assumption | exact Rows_map _ _ encK_cells _ | (simp at *; omega), ?_⟩)
          refine hK11 _ ?_
          clear hK11 K11
          refine AT_cond (b := false) (g := none) (by simp [hb8, h3]) (fun hb => ?_) (fun hb => ?_)
          ·
            cases hb
          ·
            clear hb
            refine AT_skip ?_
            try simp only [thenA, inBlockA, noGotoA, ite_true, ite_false, reduceIte, Nat.reduceEqDiff]
            refine hK8 _ ?_
            refine AT_region_q fun K12 hK12 => ?_
            simp [row_map, encK, hb8, h3]
            repeat (refine ⟨by first | omega | assumption | exact Rows_map _ _ encK_cells _ | (simp at *; omega), ?_⟩)
            refine hK12 _ ?_
            clear hK12 K12
            try simp only [thenA, inBlockA, noGotoA, ite_true, ite_false, reduceIte, Nat.reduceEqDiff]
            refine hK5 _ (by first | rfl | simp) (a.length - (k+1)) (by omega) ?_
            have hj := refJ_kt2 hb8
            exact ⟨k+1, by omega, by omega, by rw [hj]; first | (simp [refJS, ktOf, h3b]; done) | (simp [refJS, ktOf, h3b, he]; done)⟩
      ·
        have h3b : ¬ a[k].1 = 3 := by simpa using h3
        by_cases he : refJ ((a.map ktOf).take k) = []
        ·
          refine AT_seq_region fun K13 hK13 => ?_
          have hrz := refJ_sz ((a.map ktOf).take k)
          have hrt := szK_take (a.map ktOf) k
          have hrg := szK_kt_get hb8
          simp [row_map, encK, hb8, h3, he]
          repeat (refine ⟨by first | omega | assumption | exact Rows_map _ _ encK_cells _ | (simp at *; omega), ?_⟩)
          refine hK13 _ ?_
          clear hK13 K13
          refine AT_cond (b := false) (g := none) (by simp [hb8, h3, he]) (fun hb => ?_) (fun hb => ?_)
          ·
            cases hb
          ·
            clear hb
            refine AT_skip ?_
            try simp only [thenA, inBlockA, noGotoA, ite_true, ite_false, reduceIte, Nat.reduceEqDiff]
            refine hK9 _ ?_
            refine AT_seq_region fun K14 hK14 => ?_
            simp [row_map, encK, hb8, h3, he]
            repeat (refine ⟨by first | omega | assumption | exact Rows_map _ _ encK_cells _ | (simp at *; omega), ?_⟩)
            refine hK14 _ ?_
            clear hK14 K14
            refine AT_cond (b := true) (g := none) (by simp [hb8, h3, he]) (fun hb => ?_) (fun hb => ?_)
            ·
              clear hb
              refine AT_region_q fun K15 hK15 => ?_
              simp [row_map, encK, hb8, h3, he]
              repeat (refine ⟨by first | omega | assumption | exact Rows_map _ _ encK_cells _ | (simp at *; omega), ?_⟩)
              refine hK15 _ ?_
              clear hK15 K15
              try simp only [thenA, inBlockA, noGotoA, ite_true, ite_false, reduceIte, Nat.reduceEqDiff]
              refine hK8 _ ?_
              refine AT_region_q fun K16 hK16 => ?_
              simp [row_map, encK, hb8, h3, he]
              repeat (refine ⟨by first | omega | assumption | exact Rows_map _ _ encK_cells _ | (simp at *; omega), ?_⟩)
              refine hK16 _ ?_
              clear hK16 K16
              try simp only [thenA, inBlockA, noGotoA, ite_true, ite_false, reduceIte, Nat.reduceEqDiff]
              refine hK5 _ (by first | rfl | simp) (a.length - (k+1)) (by omega) ?_
              have hj := refJ_kt2 hb8
              exact ⟨k+1, by omega, by omega, by rw [hj]; first | (simp [refJS, ktOf, h3b]; done) | (simp [refJS, ktOf, h3b, he]; done)⟩
            ·
              cases hb
        ·
          refine AT_seq_region fun K17 hK17 => ?_
          have hrz := refJ_sz ((a.map ktOf).take k)
          have hrt := szK_take (a.map ktOf) k
          have hrg := szK_kt_get hb8
          simp [row_map, encK, hb8, h3, he]
          repeat (refine ⟨by first | omega | assumption | exact Rows_map _ _ encK_cells _ | (simp at *; omega), ?_⟩)
          refine hK17 _ ?_
          clear hK17 K17
          refine AT_cond (b := true) (g := none) (by simp [hb8, h3, he]) (fun hb => ?_) (fun hb => ?_)
          ·
            clear hb
            refine AT_region_q fun K18 hK18 => ?_
            simp [row_map, encK, hb8, h3, he]
            repeat (refine ⟨by first | omega | assumption | exact Rows_map _ _ encK_cells _ | (simp at *; omega), ?_⟩)
            refine hK18 _ ?_
            clear hK18 K18
            try simp only [thenA, inBlockA, noGotoA, ite_true, ite_false, reduceIte, Nat.reduceEqDiff]
            refine hK9 _ ?_
            refine AT_seq_region fun K19 hK19 => ?_
            simp [row_map, encK, hb8, h3, he]
            repeat (refine ⟨by first | omega | assumption | exact Rows_map _ _ encK_cells _ | (simp at *; omega), ?_⟩)
            refine hK19 _ ?_
            clear hK19 K19
            refine AT_cond (b := true) (g := none) (by simp [hb8, h3, he]) (fun hb => ?_) (fun hb => ?_)
            ·
              clear hb
              refine AT_region_q fun K20 hK20 => ?_
              simp [row_map, encK, hb8, h3, he]
              repeat (refine ⟨by first | omega | assumption | exact Rows_map _ _ encK_cells _ | (simp at *; omega), ?_⟩)
              refine hK20 _ ?_
              clear hK20 K20
              try simp only [thenA, inBlockA, noGotoA, ite_true, ite_false, reduceIte, Nat.reduceEqDiff]
              refine hK8 _ ?_
              refine AT_region_q fun K21 hK21 => ?_
              simp [row_map, encK, hb8, h3, he]
              repeat (refine ⟨by first | omega | assumption | exact Rows_map _ _ encK_cells _ | (simp at *; omega), ?_⟩)
              refine hK21 _ ?_
              clear hK21 K21
              try simp only [thenA, inBlockA, noGotoA, ite_true, ite_false, reduceIte, Nat.reduceEqDiff]
              refine hK5 _ (by first | rfl | simp) (a.length - (k+1)) (by omega) ?_
              have hj := refJ_kt2 hb8
              exact ⟨k+1, by omega, by omega, by rw [hj]; first | (simp [refJS, ktOf, h3b]; done) | (simp [refJS, ktOf, h3b, he]; done)⟩
            ·
              cases hb
          ·
            cases hb
    ·
      try simp [row_map, encK] at hb8
      refine AT_exit ?_
      try simp only [thenA, inBlockA, noGotoA, ite_true, ite_false, reduceIte, Nat.reduceEqDiff]
      refine hK3 _ ?_
      refine AT_seq_region fun K22 hK22 => ?_
      simp [row_map, encK, hb8]
      repeat (refine ⟨by first | omega | assumption | exact Rows_map _ _ encK_cells _ | (simp at *; omega), ?_⟩)
      refine hK22 _ ?_
      clear hK22 K22
      refine AT_ret ?_
      simp [row_map, encK, Tryd.f15]
      rw [take_kt hb8]

theorem c_strings_Count (s : Str) : Valid Tryd.prog (G0 g rnd) 33 [.str s, .str [10]] (.int .i64 (s.count 10 : Nat)) :=
  valid_two (by kernel_rfl) (fun _ _ _ h => rep_str h) (fun _ _ _ h => rep_str h) (fun _ _ => .int _ _) (fun w => Any.strings_Count_one {Tryd.laysM138 with} ⟨s.toArray⟩ 10 w)

theorem c_internal_bytealg_LastIndexByteString (s : Str) (hs : s.length ≤ 1000000000) : Valid Tryd.prog (G0 g rnd) 44 [.str s, .int .u8 10] (.int .i64 (lastI s)) :=
  valid_two (by kernel_rfl) (fun _ _ _ h => rep_str h) (fun _ _ _ h => rep_int h) (fun _ _ => .int _ _) (fun w => by
    have h := Tryd.bytealg_LastIndexByteString_nm ⟨s.toArray⟩ 10 (by simp [ByteArray.size]; omega) w
    rw [lastI_lib] at h
    exact h)

theorem c_strings_LastIndexByte (s : Str) (hs : s.length ≤ 1000000000) : Valid Tryd.prog (G0 g rnd) 34 [.str s, .int .u8 10] (.int .i64 (lastI s)) := by

  refine valid_of [] Tryd.func34 rfl (by kernel_rfl) ?_
  refine AT_seq_region fun K1 hK1 => ?_
  simp [Tryd.f34]
  repeat (refine ⟨by first | omega | assumption | exact Rows_map _ _ encK_cells _ | (simp at *; omega), ?_⟩)
  refine hK1 _ ?_
  clear hK1 K1
  refine AT_seq_region fun K2 hK2 => ?_
  simp
  repeat (refine ⟨by first | omega | assumption | exact Rows_map _ _ encK_cells _ | (simp at *; omega), ?_⟩)
  refine RVn_call (c_internal_bytealg_LastIndexByteString g rnd s hs) ?_
  simp
  repeat (refine ⟨by first | omega | assumption | exact Rows_map _ _ encK_cells _ | (simp at *; omega), ?_⟩)
  refine hK2 _ ?_
  clear hK2 K2
  refine AT_ret ?_
  simp [Tryd.f34]

theorem c_lex_Line (s : Str) (i : Int) (hs : s.length ≤ 1000000000) (hi : -9223372036854775808 ≤ i ∧ i ≤ 9223372036854775807) : Valid Tryd.prog (G0 g rnd) 18 [.str s, .int .i64 i] (.tup [.int .i64 ((lnR (s.take (clampN i s.length))).1 : Nat), .int .i64 ((lnR (s.take (clampN i s.length))).2 : Nat)]) := by
  obtain ⟨m, hm⟩ : ∃ m, m = clampN i s.length := ⟨_, rfl⟩
  have hm2 := clampN_if i s.length
  have hm3 := clampN_le i s.length
  rw [← hm] at hm2 hm3 ⊢
  have hmin : min m s.length = m := Nat.min_eq_left hm3
  have hlw := lnR_law (s.take m)
  have hlg := lastI_ge (s.take m)
  have hlc := (List.count_le_length (a := (10 : UInt8)) (l := s.take m))
  rw [List.length_take, hmin] at hlw hlc
  refine valid_of [] Tryd.func18 rfl (by kernel_rfl) ?_
  refine AT_seq_region fun K1 hK1 => ?_
  simp [hm2, hmin, Tryd.f18]
  repeat (refine ⟨by first | omega | assumption | exact Rows_map _ _ encK_cells _ | (simp at *; omega), ?_⟩)
  refine hK1 _ ?_
  clear hK1 K1
  refine AT_seq_region fun K2 hK2 => ?_
  simp [hm2, hmin]
  repeat (refine ⟨by first | omega | assumption | exact Rows_map _ _ encK_cells _ | (simp at *; omega), ?_⟩)
  refine hK2 _ ?_
  clear hK2 K2
  refine AT_seq_region fun K3 hK3 => ?_
  simp [hm2, hmin]
  repeat (refine ⟨by first | omega | assumption | exact Rows_map _ _ encK_cells _ | (simp at *; omega), ?_⟩)
  refine RVn_call (c_strings_Count g rnd _) ?_
  simp [hm2, hmin]
  repeat (refine ⟨by first | omega | assumption | exact Rows_map _ _ encK_cells _ | (simp at *; omega), ?_⟩)
  refine RVn_call (c_strings_LastIndexByte g rnd (s.take m) (by rw [List.length_take]; omega)) ?_
  simp [hm2, hmin]
  repeat (refine ⟨by first | omega | assumption | exact Rows_map _ _ encK_cells _ | (simp at *; omega), ?_⟩)
  refine hK3 _ ?_
  clear hK3 K3
  refine AT_ret ?_
  simp [hm2, hmin, Tryd.f18]
  exact ⟨by omega, by omega⟩

end Go.Proofs.YtoehgdamenpclaaDoor

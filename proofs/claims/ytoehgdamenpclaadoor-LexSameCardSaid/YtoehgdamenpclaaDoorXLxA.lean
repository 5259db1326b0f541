/- Contracts: lex. -/
import Derived.Test.YtoehgdamenpclaaDoorPt
import Derived.Test.YtoehgdamenpclaaDoorPvLc
import Derived.Test.YtoehgdamenpclaaDoorPvX
set_option linter.all false
set_option maxHeartbeats 1000000
set_option maxRecDepth 10000
namespace Go.Proofs.YtoehgdamenpclaaDoor
open Go Go.Pv
variable (g : Nat → Option (List AV)) (rnd : Bool)

theorem c_lex_Tokens_1 (k n i : Int) (src : Str) (out : List (List AV)) (hs : src.length ≤ 65536) (hi : 0 ≤ i) (hn : 0 ≤ n) (hin : i + n ≤ src.length) (hout : Pv.Rows 3 out) (hol : out.length ≤ 65536) : ValidB Tryd.prog (G0 g rnd) 21 [.int .i64 k, .int .i64 n] [4, 1, 5] [(4, [.slice out]), (1, [.str src]), (5, [.int .i64 i])] [(4, 0, gid 4 0, 43)] (.tup []) [(5, [.int .i64 (i + n)]), (4, [.slice (out ++ [[.int .i64 k, .str ((src.take (i + n).toNat).drop i.toNat), .int .i64 i]])]), (4, [.slice out]), (1, [.str src]), (5, [.int .i64 i])] [(4, 0, gid 4 0, 43)] := by

  refine validB_of [] Tryd.func21 rfl (by kernel_rfl) (by simp) ?_
  refine AT_seq_draw Pt.mixed (by kernel_rfl) fun K1 hK1 => ?_
  simp [Tryd.f21]
  repeat (refine ⟨by first | omega | assumption | (constructor <;> first | assumption | omega) | (simp at *; omega), ?_⟩)
  refine hK1 _ ?_
  clear hK1 K1
  refine AT_region_q fun K2 hK2 => ?_
  simp
  repeat (refine ⟨by first | omega | assumption | (constructor <;> first | assumption | omega) | (simp at *; omega), ?_⟩)
  refine hK2 _ ?_
  clear hK2 K2
  try simp only [thenA, inBlockA, noGotoA, ite_true, ite_false, reduceIte, Nat.reduceEqDiff]
  simp [Tryd.f21]

theorem c_lex_Same_1 (x y : Tk) : Valid Tryd.prog (G0 g rnd) 32 [.agg (encK x), .agg (encK y)] (.bool (kq x y)) := by

  refine valid_of [] Tryd.func32 rfl (by kernel_rfl) ?_
  refine AT_seq_region fun K1 hK1 => ?_
  simp [encK, Tryd.f32]
  repeat (refine ⟨by first | omega | assumption | exact Rows_map _ _ encK_cells _ | (simp at *; omega), ?_⟩)
  refine hK1 _ ?_
  clear hK1 K1
  by_cases h1 : x.1 = y.1
  ·
    refine AT_seq_region fun K2 hK2 => ?_
    simp [encK, h1]
    repeat (refine ⟨by first | omega | assumption | exact Rows_map _ _ encK_cells _ | (simp at *; omega), ?_⟩)
    refine hK2 _ ?_
    clear hK2 K2
    refine AT_ret ?_
    simp [encK, Tryd.f32]
    all_goals simp [kq, h1]
  ·
    have h1b : (x.1 == y.1) = false := by simpa using h1
    refine AT_seq_region fun K3 hK3 => ?_
    simp [encK, h1b]
    repeat (refine ⟨by first | omega | assumption | exact Rows_map _ _ encK_cells _ | (simp at *; omega), ?_⟩)
    refine hK3 _ ?_
    clear hK3 K3
    refine AT_ret ?_
    simp [encK, Tryd.f32]
    all_goals simp [kq, h1]

theorem c_slices_EqualFunc_lex_Token_lex_Token_lex_Token_lex_Token (a b : List Tk) (hl : a.length ≤ 1000000000) : Valid Tryd.prog (G0 g rnd) 31 [.slice (a.map encK), .slice (b.map encK), .func 32 []] (.bool (alk a b)) := by

  refine valid_of [] Tryd.func31 rfl (by kernel_rfl) ?_
  refine AT_seq_region fun K1 hK1 => ?_
  simp [row_map, encK, Tryd.f31]
  repeat (refine ⟨by first | omega | assumption | exact Rows_map _ _ encK_cells _ | (simp at *; omega), ?_⟩)
  refine hK1 _ ?_
  clear hK1 K1
  refine AT_seq_k fun K2 hK2 => ?_
  refine AT_seq_region fun K3 hK3 => ?_
  simp [row_map, encK]
  repeat (refine ⟨by first | omega | assumption | exact Rows_map _ _ encK_cells _ | (simp at *; omega), ?_⟩)
  refine hK3 _ ?_
  clear hK3 K3
  refine AT_cond (g := none) rfl (fun hb14 => ?_) (fun hb14 => ?_)
  ·
    try simp [row_map, encK] at hb14
    refine AT_seq_region fun K4 hK4 => ?_
    simp [row_map, encK, hb14]
    repeat (refine ⟨by first | omega | assumption | exact Rows_map _ _ encK_cells _ | (simp at *; omega), ?_⟩)
    refine hK4 _ ?_
    clear hK4 K4
    refine AT_ret ?_
    simp [row_map, encK, Tryd.f31]
    first
    | (rw [alk_len (show a.length ≠ b.length by omega)]; done)
    | (rw [hc, hda, hdb, alk_cons, hb30]; rfl)
    | (rw [hc, List.drop_eq_nil_of_le hb18, List.drop_eq_nil_of_le (show b.length ≤ k by omega)]; rfl)
  ·
    try simp [row_map, encK] at hb14
    have hab : a.length = b.length := by omega
    refine AT_skip ?_
    try simp only [thenA, inBlockA, noGotoA, ite_true, ite_false, reduceIte, Nat.reduceEqDiff]
    refine hK2 _ ?_
    refine AT_seq_k fun K5 hK5 => ?_
    refine AT_seq_region fun K6 hK6 => ?_
    simp [row_map, encK]
    repeat (refine ⟨by first | omega | assumption | exact Rows_map _ _ encK_cells _ | (simp at *; omega), ?_⟩)
    refine hK6 _ ?_
    clear hK6 K6
    refine AT_block ?_
    refine AT_loop_q [0,1,2,15,16,17] [] (fun j s => ∃ k, k ≤ a.length ∧ alk a b = alk (a.drop k) (b.drop k) ∧ j = a.length - k ∧ s = { n := 32, tm := [(0, .v (.slice (a.map encK)) none), (1, .v (.slice (b.map encK)) none), (2, .v (.func 32 []) none), (15, .v (.slice (a.map encK)) none), (16, .v (.int .i64 a.length) none), (17, .v (.int .i64 k) none)], bx := [], tb := [], sh := [], hint := [] }) (a.length) (by first | rfl | simp) ?_ ?_
    ·
      exact ⟨0, by simp⟩
    ·
      rintro j s ⟨k, hk, hc, rfl, rfl⟩ K7 hK7
      refine AT_seq_region fun K8 hK8 => ?_
      simp [row_map, encK]
      repeat (refine ⟨by first | omega | assumption | exact Rows_map _ _ encK_cells _ | (simp at *; omega), ?_⟩)
      refine hK8 _ ?_
      clear hK8 K8
      refine AT_seq_k fun K9 hK9 => ?_
      refine AT_cond (g := none) rfl (fun hb18 => ?_) (fun hb18 => ?_)
      ·
        try simp [row_map, encK] at hb18
        refine AT_skip ?_
        try simp only [thenA, inBlockA, noGotoA, ite_true, ite_false, reduceIte, Nat.reduceEqDiff]
        refine hK9 _ ?_
        refine AT_seq_k fun K10 hK10 => ?_
        refine AT_block ?_
        refine AT_seq_region fun K11 hK11 => ?_
        simp [row_map, encK, hb18]
        repeat (refine ⟨by first | omega | assumption | exact Rows_map _ _ encK_cells _ | (simp at *; omega), ?_⟩)
        refine hK11 _ ?_
        clear hK11 K11
        refine AT_seq_region fun K12 hK12 => ?_
        have hkb : k < b.length := by omega
        have hda := List.drop_eq_getElem_cons hb18
        have hdb := List.drop_eq_getElem_cons hkb
        simp [row_map, encK, hkb, hb18]
        repeat (refine ⟨by first | omega | assumption | exact Rows_map _ _ encK_cells _ | (simp at *; omega), ?_⟩)
        refine hK12 _ ?_
        clear hK12 K12
        refine AT_seq_region fun K13 hK13 => ?_
        simp [row_map, encK, hb18]
        repeat (refine ⟨by first | omega | assumption | exact Rows_map _ _ encK_cells _ | (simp at *; omega), ?_⟩)
        refine RVn_call (c_lex_Same_1 g rnd a[k] b[k]) ?_
        simp [row_map, encK, hb18]
        repeat (refine ⟨by first | omega | assumption | exact Rows_map _ _ encK_cells _ | (simp at *; omega), ?_⟩)
        refine hK13 _ ?_
        clear hK13 K13
        refine AT_cond (g := none) rfl (fun hb30 => ?_) (fun hb30 => ?_)
        ·
          try simp [row_map, encK, hb18] at hb30
          refine AT_seq_region fun K14 hK14 => ?_
          simp [row_map, encK, hb18, hb30]
          repeat (refine ⟨by first | omega | assumption | exact Rows_map _ _ encK_cells _ | (simp at *; omega), ?_⟩)
          refine hK14 _ ?_
          clear hK14 K14
          refine AT_ret ?_
          simp [row_map, encK, Tryd.f31]
          first
          | (rw [alk_len (show a.length ≠ b.length by omega)]; done)
          | (rw [hc, hda, hdb, alk_cons, hb30]; rfl)
          | (rw [hc, List.drop_eq_nil_of_le hb18, List.drop_eq_nil_of_le (show b.length ≤ k by omega)]; rfl)
        ·
          try simp [row_map, encK, hb18] at hb30
          refine AT_skip ?_
          try simp only [thenA, inBlockA, noGotoA, ite_true, ite_false, reduceIte, Nat.reduceEqDiff]
          refine hK10 _ ?_
          refine AT_region_q fun K15 hK15 => ?_
          simp [row_map, encK, hb18, hb30]
          repeat (refine ⟨by first | omega | assumption | exact Rows_map _ _ encK_cells _ | (simp at *; omega), ?_⟩)
          refine hK15 _ ?_
          clear hK15 K15
          try simp only [thenA, inBlockA, noGotoA, ite_true, ite_false, reduceIte, Nat.reduceEqDiff]
          refine hK7 _ (by first | rfl | simp) (a.length - (k+1)) (by omega) ?_
          refine ⟨k+1, by omega, ?_, by omega, by simp⟩
          rw [hc, hda, hdb, alk_cons, hb30, Bool.true_and]
      ·
        try simp [row_map, encK] at hb18
        refine AT_exit ?_
        try simp only [thenA, inBlockA, noGotoA, ite_true, ite_false, reduceIte, Nat.reduceEqDiff]
        refine hK5 _ ?_
        refine AT_seq_region fun K16 hK16 => ?_
        simp [row_map, encK, hb18]
        repeat (refine ⟨by first | omega | assumption | exact Rows_map _ _ encK_cells _ | (simp at *; omega), ?_⟩)
        refine hK16 _ ?_
        clear hK16 K16
        refine AT_ret ?_
        simp [row_map, encK, Tryd.f31]
        first
        | (rw [alk_len (show a.length ≠ b.length by omega)]; done)
        | (rw [hc, hda, hdb, alk_cons, hb30]; rfl)
        | (rw [hc, List.drop_eq_nil_of_le hb18, List.drop_eq_nil_of_le (show b.length ≤ k by omega)]; rfl)

theorem c_lex_Same (a b : List Tk) (hl : a.length ≤ 1000000000) : Valid Tryd.prog (G0 g rnd) 16 [.slice (a.map encK), .slice (b.map encK)] (.bool (alk a b)) := by

  refine valid_of [] Tryd.func16 rfl (by kernel_rfl) ?_
  refine AT_seq_region fun K1 hK1 => ?_
  simp [Tryd.f16]
  repeat (refine ⟨by first | omega | assumption | exact Rows_map _ _ encK_cells _ | (simp at *; omega), ?_⟩)
  refine hK1 _ ?_
  clear hK1 K1
  refine AT_seq_region fun K2 hK2 => ?_
  simp
  repeat (refine ⟨by first | omega | assumption | exact Rows_map _ _ encK_cells _ | (simp at *; omega), ?_⟩)
  refine RVn_call (c_slices_EqualFunc_lex_Token_lex_Token_lex_Token_lex_Token g rnd a b hl) ?_
  simp
  repeat (refine ⟨by first | omega | assumption | exact Rows_map _ _ encK_cells _ | (simp at *; omega), ?_⟩)
  refine hK2 _ ?_
  clear hK2 K2
  refine AT_ret ?_
  simp [Tryd.f16]

theorem c_ref03x_Alike (a b : List Tk) (hl : a.length ≤ 1000000000) : Valid Tryd.prog (G0 g rnd) 17 [.slice (a.map encK), .slice (b.map encK)] (.bool (alk a b)) := by

  refine valid_of [] Tryd.func17 rfl (by kernel_rfl) ?_
  refine AT_seq_region fun K1 hK1 => ?_
  simp [row_map, encK, Tryd.f17]
  repeat (refine ⟨by first | omega | assumption | exact Rows_map _ _ encK_cells _ | (simp at *; omega), ?_⟩)
  refine hK1 _ ?_
  clear hK1 K1
  refine AT_seq_k fun K2 hK2 => ?_
  refine AT_seq_region fun K3 hK3 => ?_
  simp [row_map, encK]
  repeat (refine ⟨by first | omega | assumption | exact Rows_map _ _ encK_cells _ | (simp at *; omega), ?_⟩)
  refine hK3 _ ?_
  clear hK3 K3
  refine AT_cond (g := none) rfl (fun hb10 => ?_) (fun hb10 => ?_)
  ·
    try simp [row_map, encK] at hb10
    refine AT_seq_region fun K4 hK4 => ?_
    simp [row_map, encK, hb10]
    repeat (refine ⟨by first | omega | assumption | exact Rows_map _ _ encK_cells _ | (simp at *; omega), ?_⟩)
    refine hK4 _ ?_
    clear hK4 K4
    refine AT_ret ?_
    simp [row_map, encK, Tryd.f17]
    first
    | (rw [alk_len (show a.length ≠ b.length by omega)]; done)
    | (rw [hc, hda, hdb, alk_cons]; simp [kq, h1]; done)
    | (rw [hc, hda, hdb, alk_cons]; simp [kq, h1, hb40]; done)
    | (rw [hc, List.drop_eq_nil_of_le hb14, List.drop_eq_nil_of_le (show b.length ≤ k by omega)]; rfl)
  ·
    try simp [row_map, encK] at hb10
    have hab : a.length = b.length := by omega
    refine AT_skip ?_
    try simp only [thenA, inBlockA, noGotoA, ite_true, ite_false, reduceIte, Nat.reduceEqDiff]
    refine hK2 _ ?_
    refine AT_seq_k fun K5 hK5 => ?_
    refine AT_seq_region fun K6 hK6 => ?_
    simp [row_map, encK]
    repeat (refine ⟨by first | omega | assumption | exact Rows_map _ _ encK_cells _ | (simp at *; omega), ?_⟩)
    refine hK6 _ ?_
    clear hK6 K6
    refine AT_block ?_
    refine AT_loop_q [0,1,5] [] (fun j s => ∃ k, k ≤ a.length ∧ alk a b = alk (a.drop k) (b.drop k) ∧ j = a.length - k ∧ s = { n := 41, tm := [(0, .v (.slice (a.map encK)) none), (1, .v (.slice (b.map encK)) none), (5, .v (.int .i64 k) none)], bx := [], tb := [], sh := [], hint := [] }) (a.length) (by first | rfl | simp) ?_ ?_
    ·
      exact ⟨0, by simp⟩
    ·
      rintro j s ⟨k, hk, hc, rfl, rfl⟩ K7 hK7
      refine AT_seq_k fun K8 hK8 => ?_
      refine AT_seq_region fun K9 hK9 => ?_
      simp [row_map, encK]
      repeat (refine ⟨by first | omega | assumption | exact Rows_map _ _ encK_cells _ | (simp at *; omega), ?_⟩)
      refine hK9 _ ?_
      clear hK9 K9
      refine AT_cond (g := none) rfl (fun hb14 => ?_) (fun hb14 => ?_)
      ·
        try simp [row_map, encK] at hb14
        refine AT_skip ?_
        try simp only [thenA, inBlockA, noGotoA, ite_true, ite_false, reduceIte, Nat.reduceEqDiff]
        refine hK8 _ ?_
        refine AT_seq_k fun K10 hK10 => ?_
        refine AT_block ?_
        have hkb : k < b.length := by omega
        have hda := List.drop_eq_getElem_cons hb14
        have hdb := List.drop_eq_getElem_cons hkb
        by_cases h1 : a[k].1 = b[k].1
        ·
          refine AT_seq_draw Pt.mixed (by kernel_rfl) fun K11 hK11 => ?_
          simp [row_map, encK, hb14, hkb, h1]
          repeat (refine ⟨by first | omega | assumption | exact Rows_map _ _ encK_cells _ | (simp at *; omega), ?_⟩)
          refine hK11 _ ?_
          clear hK11 K11
          refine AT_cond (g := none) rfl (fun hb40 => ?_) (fun hb40 => ?_)
          ·
            try simp [row_map, encK, hb14, hkb, h1] at hb40
            refine AT_seq_region fun K12 hK12 => ?_
            simp [row_map, encK, hb14, hkb, h1, hb40]
            repeat (refine ⟨by first | omega | assumption | exact Rows_map _ _ encK_cells _ | (simp at *; omega), ?_⟩)
            refine hK12 _ ?_
            clear hK12 K12
            refine AT_ret ?_
            simp [row_map, encK, Tryd.f17]
            first
            | (rw [alk_len (show a.length ≠ b.length by omega)]; done)
            | (rw [hc, hda, hdb, alk_cons]; simp [kq, h1]; done)
            | (rw [hc, hda, hdb, alk_cons]; simp [kq, h1, hb40]; done)
            | (rw [hc, List.drop_eq_nil_of_le hb14, List.drop_eq_nil_of_le (show b.length ≤ k by omega)]; rfl)
          ·
            try simp [row_map, encK, hb14, hkb, h1] at hb40
            refine AT_skip ?_
            try simp only [thenA, inBlockA, noGotoA, ite_true, ite_false, reduceIte, Nat.reduceEqDiff]
            refine hK10 _ ?_
            refine AT_region_q fun K13 hK13 => ?_
            simp [row_map, encK, hb14, hkb, h1, hb40]
            repeat (refine ⟨by first | omega | assumption | exact Rows_map _ _ encK_cells _ | (simp at *; omega), ?_⟩)
            refine hK13 _ ?_
            clear hK13 K13
            try simp only [thenA, inBlockA, noGotoA, ite_true, ite_false, reduceIte, Nat.reduceEqDiff]
            refine hK7 _ (by first | rfl | simp) (a.length - (k+1)) (by omega) ?_
            refine ⟨k+1, by omega, ?_, by omega, by simp⟩
            rw [hc, hda, hdb, alk_cons, show kq a[k] b[k] = true by simp [kq, h1, hb40], Bool.true_and]
        ·
          have h1b : (a[k].1 != b[k].1) = true := by simpa using h1
          refine AT_seq_draw Pt.mixed (by kernel_rfl) fun K14 hK14 => ?_
          simp [row_map, encK, hb14, hkb, h1b]
          repeat (refine ⟨by first | omega | assumption | exact Rows_map _ _ encK_cells _ | (simp at *; omega), ?_⟩)
          refine hK14 _ ?_
          clear hK14 K14
          refine AT_cond (b := true) (g := none) (by simp [hb14, hkb, h1b]) (fun hb => ?_) (fun hb => ?_)
          ·
            clear hb
            refine AT_seq_region fun K15 hK15 => ?_
            simp [row_map, encK, hb14, hkb, h1b]
            repeat (refine ⟨by first | omega | assumption | exact Rows_map _ _ encK_cells _ | (simp at *; omega), ?_⟩)
            refine hK15 _ ?_
            clear hK15 K15
            refine AT_ret ?_
            simp [row_map, encK, Tryd.f17]
            first
            | (rw [alk_len (show a.length ≠ b.length by omega)]; done)
            | (rw [hc, hda, hdb, alk_cons]; simp [kq, h1]; done)
            | (rw [hc, hda, hdb, alk_cons]; simp [kq, h1, hb40]; done)
            | (rw [hc, List.drop_eq_nil_of_le hb14, List.drop_eq_nil_of_le (show b.length ≤ k by omega)]; rfl)
          ·
            cases hb
      ·
        try simp [row_map, encK] at hb14
        refine AT_exit ?_
        try simp only [thenA, inBlockA, noGotoA, ite_true, ite_false, reduceIte, Nat.reduceEqDiff]
        refine hK5 _ ?_
        refine AT_seq_region fun K16 hK16 => ?_
        simp [row_map, encK, hb14]
        repeat (refine ⟨by first | omega | assumption | exact Rows_map _ _ encK_cells _ | (simp at *; omega), ?_⟩)
        refine hK16 _ ?_
        clear hK16 K16
        refine AT_ret ?_
        simp [row_map, encK, Tryd.f17]
        first
        | (rw [alk_len (show a.length ≠ b.length by omega)]; done)
        | (rw [hc, hda, hdb, alk_cons]; simp [kq, h1]; done)
        | (rw [hc, hda, hdb, alk_cons]; simp [kq, h1, hb40]; done)
        | (rw [hc, List.drop_eq_nil_of_le hb14, List.drop_eq_nil_of_le (show b.length ≤ k by omega)]; rfl)

theorem c_law03x_plain (a : List Tk) (hl : a.length ≤ 1000000) : Valid Tryd.prog (G0 g rnd) 13 [.slice (a.map encK)] (.slice (a.map encK)) := by

  refine valid_of [(3, 44)] Tryd.func13 rfl (by kernel_rfl) ?_
  refine AT_seq_region fun K1 hK1 => ?_
  simp [row_map, encK, Tryd.f13]
  repeat (refine ⟨by first | omega | assumption | exact Rows_map _ _ encK_cells _ | exact ⟨rows_takeK _ _, by omega⟩ | (simp at *; omega), ?_⟩)
  refine hK1 _ ?_
  clear hK1 K1
  refine AT_seq_region fun K2 hK2 => ?_
  simp [row_map, encK]
  repeat (refine ⟨by first | omega | assumption | exact Rows_map _ _ encK_cells _ | exact ⟨rows_takeK _ _, by omega⟩ | (simp at *; omega), ?_⟩)
  refine hK2 _ ?_
  clear hK2 K2
  refine AT_seq_k fun K3 hK3 => ?_
  refine AT_seq_region fun K4 hK4 => ?_
  simp [row_map, encK]
  repeat (refine ⟨by first | omega | assumption | exact Rows_map _ _ encK_cells _ | exact ⟨rows_takeK _ _, by omega⟩ | (simp at *; omega), ?_⟩)
  refine hK4 _ ?_
  clear hK4 K4
  refine AT_block ?_
  refine AT_loop_q [0,3,4] [] (fun j s => ∃ k, k ≤ a.length ∧ j = a.length - k ∧ s = { n := 19, tm := [(0, .v (.slice (a.map encK)) none), (3, .v (.slice ((a.take k).map encK)) (some (3, 44))), (4, .v (.int .i64 k) none)], bx := [], tb := [], sh := [], hint := [(3, 44)] }) (a.length) (by first | rfl | simp) ?_ ?_
  ·
    exact ⟨0, by simp⟩
  ·
    rintro j s ⟨k, hk, rfl, rfl⟩ K5 hK5
    refine AT_seq_k fun K6 hK6 => ?_
    refine AT_seq_region fun K7 hK7 => ?_
    simp [row_map, encK]
    repeat (refine ⟨by first | omega | assumption | exact Rows_map _ _ encK_cells _ | exact ⟨rows_takeK _ _, by omega⟩ | (simp at *; omega), ?_⟩)
    refine hK7 _ ?_
    clear hK7 K7
    refine AT_cond (g := none) rfl (fun hb8 => ?_) (fun hb8 => ?_)
    ·
      try simp [row_map, encK] at hb8
      refine AT_skip ?_
      try simp only [thenA, inBlockA, noGotoA, ite_true, ite_false, reduceIte, Nat.reduceEqDiff]
      refine hK6 _ ?_
      refine AT_seq_k fun K8 hK8 => ?_
      refine AT_block ?_
      refine AT_region_q fun K9 hK9 => ?_
      simp [row_map, encK, hb8]
      repeat (refine ⟨by first | omega | assumption | exact Rows_map _ _ encK_cells _ | exact ⟨rows_takeK _ _, by omega⟩ | (simp at *; omega), ?_⟩)
      refine hK9 _ ?_
      clear hK9 K9
      try simp only [thenA, inBlockA, noGotoA, ite_true, ite_false, reduceIte, Nat.reduceEqDiff]
      refine hK8 _ ?_
      refine AT_region_q fun K10 hK10 => ?_
      simp [row_map, encK, hb8]
      repeat (refine ⟨by first | omega | assumption | exact Rows_map _ _ encK_cells _ | exact ⟨rows_takeK _ _, by omega⟩ | (simp at *; omega), ?_⟩)
      refine hK10 _ ?_
      clear hK10 K10
      try simp only [thenA, inBlockA, noGotoA, ite_true, ite_false, reduceIte, Nat.reduceEqDiff]
      refine hK5 _ (by first | rfl | simp) (a.length - (k+1)) (by omega) ?_
      refine ⟨k+1, by omega, by omega, ?_⟩
      rw [take_encK k a hb8]
      first | rfl | simp
    ·
      try simp [row_map, encK] at hb8
      refine AT_exit ?_
      try simp only [thenA, inBlockA, noGotoA, ite_true, ite_false, reduceIte, Nat.reduceEqDiff]
      refine hK3 _ ?_
      refine AT_seq_region fun K11 hK11 => ?_
      simp [row_map, encK, hb8]
      repeat (refine ⟨by first | omega | assumption | exact Rows_map _ _ encK_cells _ | exact ⟨rows_takeK _ _, by omega⟩ | (simp at *; omega), ?_⟩)
      refine hK11 _ ?_
      clear hK11 K11
      refine AT_ret ?_
      simp [row_map, encK, Tryd.f13]
      first | rw [List.take_of_length_le (by simpa using hb8)] | simp [List.take_of_length_le (show (a.map encK).length ≤ k by simpa using hb8)]

end Go.Proofs.YtoehgdamenpclaaDoor

/- Contracts: words, errors, lines. -/
import Derived.Test.YtoehgdamenpclaaDoorPt
import Derived.Test.YtoehgdamenpclaaDoorPvLc
import Derived.Test.YtoehgdamenpclaaDoorPvX
import Derived.Test.YtoehgdamenpclaaDoorXNaA
import Derived.Test.YtoehgdamenpclaaDoorXShelf
set_option linter.all false
set_option maxHeartbeats 1000000
set_option maxRecDepth 10000
namespace Go.Proofs.YtoehgdamenpclaaDoor
open Go Go.Pv
variable (g : Nat → Option (List AV)) (rnd : Bool)

theorem c_lex_word (s : Str) (hs : s.length ≤ 1000000) : Valid Tryd.prog (G0 g rnd) 25 [.str s] (.int .i64 (wordN s : Nat)) := by

  refine valid_of [] Tryd.func25 rfl (by kernel_rfl) ?_
  refine AT_seq_region fun K1 hK1 => ?_
  simp [Tryd.f25]
  repeat (refine ⟨by first | omega | assumption | exact Rows_map _ _ encK_cells _ | (simp at *; omega), ?_⟩)
  refine hK1 _ ?_
  clear hK1 K1
  refine AT_seq_region fun K2 hK2 => ?_
  simp
  repeat (refine ⟨by first | omega | assumption | exact Rows_map _ _ encK_cells _ | (simp at *; omega), ?_⟩)
  refine hK2 _ ?_
  clear hK2 K2
  refine AT_seq_k fun K3 hK3 => ?_
  refine AT_block ?_
  refine AT_loop_q [0,3] [] (fun j s1 => ∃ k, k ≤ s.length ∧ wordN s = k + wordN (s.drop k) ∧ j = s.length - k ∧ s1 = { n := 25, tm := [(0, .v (.str s) none), (3, .v (.int .i64 (k : Nat)) none)], bx := [], tb := [], sh := [], hint := [] }) (s.length) (by first | rfl | simp) ?_ ?_
  ·
    exact ⟨0, by simp⟩
  ·
    rintro j s1 ⟨k, hk, hc, rfl, rfl⟩ K4 hK4
    refine AT_seq_k fun K5 hK5 => ?_
    by_cases hks : k < s.length
    ·
      have hda := List.drop_eq_getElem_cons hks
      by_cases h1 : 1 ≤ clsI s[k].toNat
      ·
        by_cases h2 : clsI s[k].toNat ≤ 3
        ·
          refine AT_seq_region fun K6 hK6 => ?_
          simp [hks, h1, h2]
          repeat (refine ⟨by first | omega | assumption | exact Rows_map _ _ encK_cells _ | (simp at *; omega), ?_⟩)
          try (
            refine RVn_call (c_name_Class g rnd _) ?_
            simp [hks, h1, h2]
            repeat (refine ⟨by first | omega | assumption | exact Rows_map _ _ encK_cells _ | (simp at *; omega), ?_⟩))
          try (
            refine RVn_call (c_name_Class g rnd _) ?_
            simp [hks, h1, h2]
            repeat (refine ⟨by first | omega | assumption | exact Rows_map _ _ encK_cells _ | (simp at *; omega), ?_⟩))
          refine hK6 _ ?_
          clear hK6 K6
          refine AT_cond (b := true) (g := none) (by simp [hks, h1, h2]) (fun hb => ?_) (fun hb => ?_)
          ·
            clear hb
            refine AT_skip ?_
            try simp only [thenA, inBlockA, noGotoA, ite_true, ite_false, reduceIte, Nat.reduceEqDiff]
            refine hK5 _ ?_
            refine AT_block ?_
            refine AT_region_q fun K7 hK7 => ?_
            simp [hks, h1, h2]
            repeat (refine ⟨by first | omega | assumption | exact Rows_map _ _ encK_cells _ | (simp at *; omega), ?_⟩)
            refine hK7 _ ?_
            clear hK7 K7
            try simp only [thenA, inBlockA, noGotoA, ite_true, ite_false, reduceIte, Nat.reduceEqDiff]
            refine hK4 _ (by first | rfl | simp) (s.length - (k+1)) (by omega) ?_
            refine ⟨k+1, by omega, ?_, by omega, by simp⟩
            rw [hc, hda, wordN_cons, if_pos (by simp [wc, h1, h2])]; omega
          ·
            cases hb
        ·
          refine AT_seq_region fun K8 hK8 => ?_
          simp [hks, h1, h2]
          repeat (refine ⟨by first | omega | assumption | exact Rows_map _ _ encK_cells _ | (simp at *; omega), ?_⟩)
          try (
            refine RVn_call (c_name_Class g rnd _) ?_
            simp [hks, h1, h2]
            repeat (refine ⟨by first | omega | assumption | exact Rows_map _ _ encK_cells _ | (simp at *; omega), ?_⟩))
          try (
            refine RVn_call (c_name_Class g rnd _) ?_
            simp [hks, h1, h2]
            repeat (refine ⟨by first | omega | assumption | exact Rows_map _ _ encK_cells _ | (simp at *; omega), ?_⟩))
          refine hK8 _ ?_
          clear hK8 K8
          refine AT_cond (b := false) (g := none) (by simp [hks, h1, h2]) (fun hb => ?_) (fun hb => ?_)
          ·
            cases hb
          ·
            clear hb
            refine AT_exit ?_
            try simp only [thenA, inBlockA, noGotoA, ite_true, ite_false, reduceIte, Nat.reduceEqDiff]
            refine hK3 _ ?_
            refine AT_seq_region fun K9 hK9 => ?_
            simp [hks, h1, h2]
            repeat (refine ⟨by first | omega | assumption | exact Rows_map _ _ encK_cells _ | (simp at *; omega), ?_⟩)
            refine hK9 _ ?_
            clear hK9 K9
            refine AT_ret ?_
            simp [Tryd.f25]
            first
            | (rw [hc, hda, wordN_cons]; simp [wc, h1]; done)
            | (rw [hc, hda, wordN_cons]; simp [wc, h1, h2]; done)
            | (rw [hc, List.drop_eq_nil_of_le (by omega)]; simp [wordN]; done)
      ·
        refine AT_seq_region fun K10 hK10 => ?_
        simp [hks, h1]
        repeat (refine ⟨by first | omega | assumption | exact Rows_map _ _ encK_cells _ | (simp at *; omega), ?_⟩)
        try (
          refine RVn_call (c_name_Class g rnd _) ?_
          simp [hks, h1]
          repeat (refine ⟨by first | omega | assumption | exact Rows_map _ _ encK_cells _ | (simp at *; omega), ?_⟩))
        try (
          refine RVn_call (c_name_Class g rnd _) ?_
          simp [hks, h1]
          repeat (refine ⟨by first | omega | assumption | exact Rows_map _ _ encK_cells _ | (simp at *; omega), ?_⟩))
        refine hK10 _ ?_
        clear hK10 K10
        refine AT_cond (b := false) (g := none) (by simp [hks, h1]) (fun hb => ?_) (fun hb => ?_)
        ·
          cases hb
        ·
          clear hb
          refine AT_exit ?_
          try simp only [thenA, inBlockA, noGotoA, ite_true, ite_false, reduceIte, Nat.reduceEqDiff]
          refine hK3 _ ?_
          refine AT_seq_region fun K11 hK11 => ?_
          simp [hks, h1]
          repeat (refine ⟨by first | omega | assumption | exact Rows_map _ _ encK_cells _ | (simp at *; omega), ?_⟩)
          refine hK11 _ ?_
          clear hK11 K11
          refine AT_ret ?_
          simp [Tryd.f25]
          first
          | (rw [hc, hda, wordN_cons]; simp [wc, h1]; done)
          | (rw [hc, hda, wordN_cons]; simp [wc, h1, h2]; done)
          | (rw [hc, List.drop_eq_nil_of_le (by omega)]; simp [wordN]; done)
    ·
      refine AT_seq_region fun K12 hK12 => ?_
      simp [hks]
      repeat (refine ⟨by first | omega | assumption | exact Rows_map _ _ encK_cells _ | (simp at *; omega), ?_⟩)
      try (
        refine RVn_call (c_name_Class g rnd _) ?_
        simp [hks]
        repeat (refine ⟨by first | omega | assumption | exact Rows_map _ _ encK_cells _ | (simp at *; omega), ?_⟩))
      try (
        refine RVn_call (c_name_Class g rnd _) ?_
        simp [hks]
        repeat (refine ⟨by first | omega | assumption | exact Rows_map _ _ encK_cells _ | (simp at *; omega), ?_⟩))
      refine hK12 _ ?_
      clear hK12 K12
      refine AT_cond (b := false) (g := none) (by simp [hks]) (fun hb => ?_) (fun hb => ?_)
      ·
        cases hb
      ·
        clear hb
        refine AT_exit ?_
        try simp only [thenA, inBlockA, noGotoA, ite_true, ite_false, reduceIte, Nat.reduceEqDiff]
        refine hK3 _ ?_
        refine AT_seq_region fun K13 hK13 => ?_
        simp [hks]
        repeat (refine ⟨by first | omega | assumption | exact Rows_map _ _ encK_cells _ | (simp at *; omega), ?_⟩)
        refine hK13 _ ?_
        clear hK13 K13
        refine AT_ret ?_
        simp [Tryd.f25]
        first
        | (rw [hc, hda, wordN_cons]; simp [wc, h1]; done)
        | (rw [hc, hda, wordN_cons]; simp [wc, h1, h2]; done)
        | (rw [hc, List.drop_eq_nil_of_le (by omega)]; simp [wordN]; done)

theorem c_fault_New (c n : Int) : Valid Tryd.prog (G0 g rnd) 20 [.int .i64 c, .int .i64 n] (.iface 64 (.agg [.int .i64 c, .int .i64 n])) := by

  refine valid_of [] Tryd.func20 rfl (by kernel_rfl) ?_
  refine AT_seq_region fun K1 hK1 => ?_
  simp [Tryd.f20]
  repeat (refine ⟨by first | omega | assumption | exact Rows_map _ _ encK_cells _ | (simp at *; omega), ?_⟩)
  refine hK1 _ ?_
  clear hK1 K1
  refine AT_seq_region fun K2 hK2 => ?_
  simp
  repeat (refine ⟨by first | omega | assumption | exact Rows_map _ _ encK_cells _ | (simp at *; omega), ?_⟩)
  refine hK2 _ ?_
  clear hK2 K2
  refine AT_ret ?_
  simp [Tryd.f20]

theorem c_internal_stringslite_HasPrefix (s p : Str) : Valid Tryd.prog (G0 g rnd) 35 [.str s, .str p] (.bool (Lib.hasPrefix s p)) :=
  valid_two (by kernel_rfl) (fun _ _ _ h => rep_str h) (fun _ _ _ h => rep_str h) (fun _ _ => .bool _) (fun w => Tryd.stringslite_HasPrefix ⟨s.toArray⟩ ⟨p.toArray⟩ w)

theorem c_strings_HasPrefix (s p : Str) : Valid Tryd.prog (G0 g rnd) 23 [.str s, .str p] (.bool (Lib.hasPrefix s p)) := by

  refine valid_of [] Tryd.func23 rfl (by kernel_rfl) ?_
  refine AT_seq_region fun K1 hK1 => ?_
  simp [Tryd.f23]
  repeat (refine ⟨by first | omega | assumption | exact Rows_map _ _ encK_cells _ | (simp at *; omega), ?_⟩)
  refine hK1 _ ?_
  clear hK1 K1
  refine AT_seq_region fun K2 hK2 => ?_
  simp
  repeat (refine ⟨by first | omega | assumption | exact Rows_map _ _ encK_cells _ | (simp at *; omega), ?_⟩)
  refine RVn_call (c_internal_stringslite_HasPrefix g rnd _ _) ?_
  simp
  repeat (refine ⟨by first | omega | assumption | exact Rows_map _ _ encK_cells _ | (simp at *; omega), ?_⟩)
  refine hK2 _ ?_
  clear hK2 K2
  refine AT_ret ?_
  simp [Tryd.f23]

theorem c_internal_stringslite_IndexByte (s : Str) (c : UInt8) : Valid Tryd.prog (G0 g rnd) 36 [.str s, .int .u8 c.toNat] (.int .i64 (Lib.indexByte s c)) :=
  valid_two (by kernel_rfl) (fun _ _ _ h => rep_str h) (fun _ _ _ h => rep_int h) (fun _ _ => .int _ _) (fun w => by
    have := Tryd.stringslite_IndexByte ⟨s.toArray⟩ c.toNat w
    simpa using this)

theorem c_strings_IndexByte (s : Str) (c : UInt8) : Valid Tryd.prog (G0 g rnd) 24 [.str s, .int .u8 c.toNat] (.int .i64 (Lib.indexByte s c)) := by

  refine valid_of [] Tryd.func24 rfl (by kernel_rfl) ?_
  refine AT_seq_region fun K1 hK1 => ?_
  simp [Tryd.f24]
  repeat (refine ⟨by first | omega | assumption | exact Rows_map _ _ encK_cells _ | (simp at *; omega), ?_⟩)
  refine hK1 _ ?_
  clear hK1 K1
  refine AT_seq_region fun K2 hK2 => ?_
  simp
  repeat (refine ⟨by first | omega | assumption | exact Rows_map _ _ encK_cells _ | (simp at *; omega), ?_⟩)
  refine RVn_call (c_internal_stringslite_IndexByte g rnd _ _) ?_
  simp
  repeat (refine ⟨by first | omega | assumption | exact Rows_map _ _ encK_cells _ | (simp at *; omega), ?_⟩)
  refine hK2 _ ?_
  clear hK2 K2
  refine AT_ret ?_
  simp [Tryd.f24]

end Go.Proofs.YtoehgdamenpclaaDoor

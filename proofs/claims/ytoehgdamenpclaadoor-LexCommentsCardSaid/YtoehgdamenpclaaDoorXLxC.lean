/- Contracts: lex.Tokens. -/
import Derived.Test.YtoehgdamenpclaaDoorPt
import Derived.Test.YtoehgdamenpclaaDoorPvLc
import Derived.Test.YtoehgdamenpclaaDoorPvX
import Derived.Test.YtoehgdamenpclaaDoorXLxB
import Derived.Test.YtoehgdamenpclaaDoorXLxA
import Derived.Test.YtoehgdamenpclaaDoorXNaA
set_option linter.all false
set_option maxHeartbeats 1000000
set_option maxRecDepth 10000
namespace Go.Proofs.YtoehgdamenpclaaDoor
open Go Go.Pv
variable (g : Nat → Option (List AV)) (rnd : Bool)

theorem c_lex_Tokens (s : Str) (hs : s.length ≤ 1000000000) : Valid Tryd.prog (G0 g rnd) 9 [.str s] (lexV 64 (lexT s)) := by

  refine valid_of [(104000, 43)] Tryd.func9 rfl (by kernel_rfl) ?_
  refine AT_seq_region fun K1 hK1 => ?_
  simp [Tryd.f9]
  repeat (refine ⟨by first | omega | assumption | exact Rows_map _ _ encK_cells _ | exact ⟨Rows_map _ _ encK_cells _, by omega⟩ | (simp at *; omega), ?_⟩)
  refine hK1 _ ?_
  clear hK1 K1
  refine AT_scope ?_
  refine AT_seq_k fun K2 hK2 => ?_
  refine AT_seq_region fun K3 hK3 => ?_
  simp
  repeat (refine ⟨by first | omega | assumption | exact Rows_map _ _ encK_cells _ | exact ⟨Rows_map _ _ encK_cells _, by omega⟩ | (simp at *; omega), ?_⟩)
  refine hK3 _ ?_
  clear hK3 K3
  refine AT_cond (g := none) rfl (fun hb11 => ?_) (fun hb11 => ?_)
  ·
    try simp at hb11
    refine AT_seq_region fun K4 hK4 => ?_
    simp [hb11]
    repeat (refine ⟨by first | omega | assumption | exact Rows_map _ _ encK_cells _ | exact ⟨Rows_map _ _ encK_cells _, by omega⟩ | (simp at *; omega), ?_⟩)
    refine RVn_call (c_fault_New g rnd _ _) ?_
    simp [hb11]
    repeat (refine ⟨by first | omega | assumption | exact Rows_map _ _ encK_cells _ | exact ⟨Rows_map _ _ encK_cells _, by omega⟩ | (simp at *; omega), ?_⟩)
    refine hK4 _ ?_
    clear hK4 K4
    refine AT_ret ?_
    simp [Tryd.f9]
    first
    | (obtain ⟨n, rfl⟩ : ∃ m, n = m + 1 := ⟨n - 1, by omega⟩
       rw [lxA_com0 hb17 hb23 hb31 hb37] at hc
       rw [hc]
       exact ⟨_, rfl, by simp [encK]⟩)
    | (obtain ⟨n, rfl⟩ : ∃ m, n = m + 1 := ⟨n - 1, by omega⟩
       rw [lxA_bad hb17 hb23 hb31 hb41 hb51] at hc
       rw [hc]
       exact ⟨_, rfl, by simp [encK]⟩)
    | (obtain ⟨n, rfl⟩ : ∃ m, n = m + 1 := ⟨n - 1, by omega⟩
       rw [lxA_end hk hb17] at hc
       rw [hc]
       exact ⟨_, rfl, by simp [encK]⟩)
    | (rw [show lexT s = (none, 65536) by unfold lexT; rw [if_neg (by omega)]]
       exact ⟨_, rfl, by simp⟩)
  ·
    try simp at hb11
    refine AT_skip ?_
    try simp only [thenA, inBlockA, noGotoA, ite_true, ite_false, reduceIte, Nat.reduceEqDiff]
    refine hK2 _ ?_
    refine AT_seq_region fun K5 hK5 => ?_
    simp [hb11]
    repeat (refine ⟨by first | omega | assumption | exact Rows_map _ _ encK_cells _ | exact ⟨Rows_map _ _ encK_cells _, by omega⟩ | (simp at *; omega), ?_⟩)
    refine hK5 _ ?_
    clear hK5 K5
    refine AT_seq_region fun K6 hK6 => ?_
    simp [hb11]
    repeat (refine ⟨by first | omega | assumption | exact Rows_map _ _ encK_cells _ | exact ⟨Rows_map _ _ encK_cells _, by omega⟩ | (simp at *; omega), ?_⟩)
    refine hK6 _ ?_
    clear hK6 K6
    refine AT_seq_region fun K7 hK7 => ?_
    simp [hb11]
    repeat (refine ⟨by first | omega | assumption | exact Rows_map _ _ encK_cells _ | exact ⟨Rows_map _ _ encK_cells _, by omega⟩ | (simp at *; omega), ?_⟩)
    refine hK7 _ ?_
    clear hK7 K7
    refine AT_seq_k fun K8 hK8 => ?_
    refine AT_label ?_
    try simp only [thenA, inBlockA, noGotoA, ite_true, ite_false, reduceIte, Nat.reduceEqDiff]
    refine hK8 _ ?_
    refine AT_seq_k fun K9 hK9 => ?_
    refine AT_block ?_
    refine AT_loop_q [1,2,3,4,5,6] [4,1,5] (fun j s1 => ∃ k n out, (k ≤ s.length ∧ out.length ≤ k ∧ s.length - k < n) ∧ lexT s = lxA n out k (s.drop k) ∧ j = s.length - k ∧ s1 = { n := 65, tm := [(1, .lp 1 0), (2, .v (.slice []) none), (3, .v .nilIface none), (4, .lp 4 0), (5, .lp 5 0), (6, .cl 21 [4, 1, 5])], bx := [(4, [.slice (out.map encK)]), (1, [.str s]), (5, [.int .i64 (k : Nat)])], tb := [(4, 0, gid 4 0, 43)], sh := [], hint := [(104000, 43)] }) (s.length) (by first | rfl | simp) ?_ ?_
    ·
      exact ⟨0, s.length + 1, [], by simp [lexT]; omega⟩
    ·
      rintro j s1 ⟨k, n, out, ⟨hk, hol, hn⟩, hc, rfl, rfl⟩ K10 hK10
      refine AT_seq_k fun K11 hK11 => ?_
      refine AT_seq_region fun K12 hK12 => ?_
      simp [hb11]
      repeat (refine ⟨by first | omega | assumption | exact Rows_map _ _ encK_cells _ | exact ⟨Rows_map _ _ encK_cells _, by omega⟩ | (simp at *; omega), ?_⟩)
      refine hK12 _ ?_
      clear hK12 K12
      refine AT_cond (g := none) rfl (fun hb17 => ?_) (fun hb17 => ?_)
      ·
        try simp [hb11] at hb17
        refine AT_skip ?_
        try simp only [thenA, inBlockA, noGotoA, ite_true, ite_false, reduceIte, Nat.reduceEqDiff]
        refine hK11 _ ?_
        refine AT_block ?_
        refine AT_seq_region fun K13 hK13 => ?_
        simp [hb11, hb17]
        repeat (refine ⟨by first | omega | assumption | exact Rows_map _ _ encK_cells _ | exact ⟨Rows_map _ _ encK_cells _, by omega⟩ | (simp at *; omega), ?_⟩)
        refine hK13 _ ?_
        clear hK13 K13
        refine AT_block ?_
        refine AT_seq_region fun K14 hK14 => ?_
        simp [hb11, hb17]
        repeat (refine ⟨by first | omega | assumption | exact Rows_map _ _ encK_cells _ | exact ⟨Rows_map _ _ encK_cells _, by omega⟩ | (simp at *; omega), ?_⟩)
        refine RVn_call (c_name_Class g rnd _) ?_
        simp [hb11, hb17]
        repeat (refine ⟨by first | omega | assumption | exact Rows_map _ _ encK_cells _ | exact ⟨Rows_map _ _ encK_cells _, by omega⟩ | (simp at *; omega), ?_⟩)
        refine hK14 _ ?_
        clear hK14 K14
        refine AT_cond (g := none) rfl (fun hb23 => ?_) (fun hb23 => ?_)
        ·
          try simp [hb11, hb17] at hb23
          refine AT_region_q fun K15 hK15 => ?_
          obtain ⟨kk, hkk⟩ : ∃ kk, kk = k + 1 := ⟨_, rfl⟩
          simp [hb11, hb17, hb23]
          repeat (refine ⟨by first | omega | assumption | exact Rows_map _ _ encK_cells _ | exact ⟨Rows_map _ _ encK_cells _, by omega⟩ | (simp at *; omega), ?_⟩)
          refine hK15 _ ?_
          clear hK15 K15
          try simp only [thenA, inBlockA, noGotoA, ite_true, ite_false, reduceIte, Nat.reduceEqDiff]
          refine hK10 _ (by first | rfl | simp) (s.length - kk) (by omega) ?_
          have hn1 : 0 < n := by omega
          obtain ⟨n, rfl⟩ : ∃ m, n = m + 1 := ⟨n - 1, by omega⟩
          first
          | (rw [lxA_sp hb17 hb23] at hc
             refine ⟨kk, n, _, ⟨?_, ?_, ?_⟩, by rw [hc, ← hkk], rfl, ?_⟩
             · omega
             · (try simp only [List.length_append, List.length_singleton]); omega
             · omega
             · simp [hkk, encK, List.map_append])
          | (rw [lxA_com hb17 hb23 hb31 hb37] at hc
             refine ⟨kk, n, _, ⟨?_, ?_, ?_⟩, by rw [hc, ← hkk], rfl, ?_⟩
             · omega
             · (try simp only [List.length_append, List.length_singleton]); omega
             · omega
             · simp [hkk, encK, List.map_append, Int.toNat_of_nonneg hb37])
          | (rw [lxA_word hb17 hb23 hb31 hb41] at hc
             refine ⟨kk, n, _, ⟨?_, ?_, ?_⟩, by rw [hc, ← hkk], rfl, ?_⟩
             · omega
             · (try simp only [List.length_append, List.length_singleton]); omega
             · omega
             · simp [hkk, encK, List.map_append, toNat_add, drop_take_add])
          | (rw [lxA_sign hb17 hb23 hb31 hb41 hb51] at hc
             refine ⟨kk, n, _, ⟨?_, ?_, ?_⟩, by rw [hc, ← hkk], rfl, ?_⟩
             · omega
             · (try simp only [List.length_append, List.length_singleton]); omega
             · omega
             · simp [hkk, encK, List.map_append, drop_take_one hb17])
        ·
          try simp [hb11, hb17] at hb23
          refine AT_seq_region fun K16 hK16 => ?_
          simp [hb11, hb17, hb23]
          repeat (refine ⟨by first | omega | assumption | exact Rows_map _ _ encK_cells _ | exact ⟨Rows_map _ _ encK_cells _, by omega⟩ | (simp at *; omega), ?_⟩)
          refine RVn_call (c_strings_HasPrefix g rnd _ _) ?_
          simp [hb11, hb17, hb23]
          repeat (refine ⟨by first | omega | assumption | exact Rows_map _ _ encK_cells _ | exact ⟨Rows_map _ _ encK_cells _, by omega⟩ | (simp at *; omega), ?_⟩)
          refine hK16 _ ?_
          clear hK16 K16
          refine AT_cond (g := none) rfl (fun hb31 => ?_) (fun hb31 => ?_)
          ·
            try simp [hb11, hb17, hb23] at hb31
            refine AT_seq_region fun K17 hK17 => ?_
            simp [hb11, hb17, hb23, hb31]
            repeat (refine ⟨by first | omega | assumption | exact Rows_map _ _ encK_cells _ | exact ⟨Rows_map _ _ encK_cells _, by omega⟩ | (simp at *; omega), ?_⟩)
            refine RVn_call (c_strings_IndexByte g rnd _ 10) ?_
            simp [hb11, hb17, hb23, hb31]
            repeat (refine ⟨by first | omega | assumption | exact Rows_map _ _ encK_cells _ | exact ⟨Rows_map _ _ encK_cells _, by omega⟩ | (simp at *; omega), ?_⟩)
            refine hK17 _ ?_
            clear hK17 K17
            refine AT_seq_k fun K18 hK18 => ?_
            refine AT_seq_region fun K19 hK19 => ?_
            simp [hb11, hb17, hb23, hb31]
            repeat (refine ⟨by first | omega | assumption | exact Rows_map _ _ encK_cells _ | exact ⟨Rows_map _ _ encK_cells _, by omega⟩ | (simp at *; omega), ?_⟩)
            refine hK19 _ ?_
            clear hK19 K19
            refine AT_cond (g := none) rfl (fun hb37 => ?_) (fun hb37 => ?_)
            ·
              try simp [hb11, hb17, hb23, hb31] at hb37
              refine AT_exit ?_
              try simp only [thenA, inBlockA, noGotoA, ite_true, ite_false, reduceIte, Nat.reduceEqDiff]
              refine hK9 _ ?_
              refine AT_seq_region fun K20 hK20 => ?_
              simp [hb11, hb17, hb23, hb31, hb37]
              repeat (refine ⟨by first | omega | assumption | exact Rows_map _ _ encK_cells _ | exact ⟨Rows_map _ _ encK_cells _, by omega⟩ | (simp at *; omega), ?_⟩)
              refine hK20 _ ?_
              clear hK20 K20
              refine AT_ret ?_
              simp [Tryd.f9]
              first
              | (obtain ⟨n, rfl⟩ : ∃ m, n = m + 1 := ⟨n - 1, by omega⟩
                 rw [lxA_com0 hb17 hb23 hb31 hb37] at hc
                 rw [hc]
                 exact ⟨_, rfl, by simp [encK]⟩)
              | (obtain ⟨n, rfl⟩ : ∃ m, n = m + 1 := ⟨n - 1, by omega⟩
                 rw [lxA_bad hb17 hb23 hb31 hb41 hb51] at hc
                 rw [hc]
                 exact ⟨_, rfl, by simp [encK]⟩)
              | (obtain ⟨n, rfl⟩ : ∃ m, n = m + 1 := ⟨n - 1, by omega⟩
                 rw [lxA_end hk hb17] at hc
                 rw [hc]
                 exact ⟨_, rfl, by simp [encK]⟩)
              | (rw [show lexT s = (none, 65536) by unfold lexT; rw [if_neg (by omega)]]
                 exact ⟨_, rfl, by simp⟩)
            ·
              try simp [hb11, hb17, hb23, hb31] at hb37
              refine AT_skip ?_
              try simp only [thenA, inBlockA, noGotoA, ite_true, ite_false, reduceIte, Nat.reduceEqDiff]
              refine hK18 _ ?_
              refine AT_region_q fun K21 hK21 => ?_
              have hil := Lib.indexByte_ge (s.drop k) 10
              have hiu := (indexByte_lt (s.drop k) 10).resolve_right (by simp; omega)
              rw [List.length_drop] at hiu
              obtain ⟨kk, hkk⟩ : ∃ kk, kk = k + (Lib.indexByte (s.drop k) 10).toNat := ⟨_, rfl⟩
              have hcp := com_pos hb17 hb31 hb37
              simp [hb11, hb17, hb23, hb31, hb37]
              repeat (refine ⟨by first | omega | assumption | exact Rows_map _ _ encK_cells _ | exact ⟨Rows_map _ _ encK_cells _, by omega⟩ | (simp at *; omega), ?_⟩)
              refine hK21 _ ?_
              clear hK21 K21
              try simp only [thenA, inBlockA, noGotoA, ite_true, ite_false, reduceIte, Nat.reduceEqDiff]
              refine hK10 _ (by first | rfl | simp) (s.length - kk) (by omega) ?_
              have hn1 : 0 < n := by omega
              obtain ⟨n, rfl⟩ : ∃ m, n = m + 1 := ⟨n - 1, by omega⟩
              first
              | (rw [lxA_sp hb17 hb23] at hc
                 refine ⟨kk, n, _, ⟨?_, ?_, ?_⟩, by rw [hc, ← hkk], rfl, ?_⟩
                 · omega
                 · (try simp only [List.length_append, List.length_singleton]); omega
                 · omega
                 · simp [hkk, encK, List.map_append])
              | (rw [lxA_com hb17 hb23 hb31 hb37] at hc
                 refine ⟨kk, n, _, ⟨?_, ?_, ?_⟩, by rw [hc, ← hkk], rfl, ?_⟩
                 · omega
                 · (try simp only [List.length_append, List.length_singleton]); omega
                 · omega
                 · simp [hkk, encK, List.map_append, Int.toNat_of_nonneg hb37])
              | (rw [lxA_word hb17 hb23 hb31 hb41] at hc
                 refine ⟨kk, n, _, ⟨?_, ?_, ?_⟩, by rw [hc, ← hkk], rfl, ?_⟩
                 · omega
                 · (try simp only [List.length_append, List.length_singleton]); omega
                 · omega
                 · simp [hkk, encK, List.map_append, toNat_add, drop_take_add])
              | (rw [lxA_sign hb17 hb23 hb31 hb41 hb51] at hc
                 refine ⟨kk, n, _, ⟨?_, ?_, ?_⟩, by rw [hc, ← hkk], rfl, ?_⟩
                 · omega
                 · (try simp only [List.length_append, List.length_singleton]); omega
                 · omega
                 · simp [hkk, encK, List.map_append, drop_take_one hb17])
          ·
            try simp [hb11, hb17, hb23] at hb31
            refine AT_seq_region fun K22 hK22 => ?_
            simp [hb11, hb17, hb23, hb31]
            repeat (refine ⟨by first | omega | assumption | exact Rows_map _ _ encK_cells _ | exact ⟨Rows_map _ _ encK_cells _, by omega⟩ | (simp at *; omega), ?_⟩)
            refine RVn_call (c_name_Class g rnd _) ?_
            simp [hb11, hb17, hb23, hb31]
            repeat (refine ⟨by first | omega | assumption | exact Rows_map _ _ encK_cells _ | exact ⟨Rows_map _ _ encK_cells _, by omega⟩ | (simp at *; omega), ?_⟩)
            refine hK22 _ ?_
            clear hK22 K22
            refine AT_cond (g := none) rfl (fun hb41 => ?_) (fun hb41 => ?_)
            ·
              try simp [hb11, hb17, hb23, hb31] at hb41
              refine AT_region_q fun K23 hK23 => ?_
              have hwl := wordN_le (s.drop k)
              rw [List.length_drop] at hwl
              obtain ⟨kk, hkk⟩ : ∃ kk, kk = k + wordN (s.drop k) := ⟨_, rfl⟩
              have hcp := wordN_pos hb17 hb41
              simp [hb11, hb17, hb23, hb31, hb41]
              repeat (refine ⟨by first | omega | assumption | exact Rows_map _ _ encK_cells _ | exact ⟨Rows_map _ _ encK_cells _, by omega⟩ | (simp at *; omega), ?_⟩)
              refine RVn_call (c_lex_word g rnd _ (by simp; omega)) ?_
              simp [hb11, hb17, hb23, hb31, hb41]
              repeat (refine ⟨by first | omega | assumption | exact Rows_map _ _ encK_cells _ | exact ⟨Rows_map _ _ encK_cells _, by omega⟩ | (simp at *; omega), ?_⟩)
              refine RVn_callB (c_lex_Tokens_1 g rnd _ _ _ _ _ (by omega) (by omega) (by omega) (by omega) (Rows_map _ _ encK_cells _) (by simp; omega)) (by simp) ?_
              simp [hb11, hb17, hb23, hb31, hb41]
              repeat (refine ⟨by first | omega | assumption | exact Rows_map _ _ encK_cells _ | exact ⟨Rows_map _ _ encK_cells _, by omega⟩ | (simp at *; omega), ?_⟩)
              refine hK23 _ ?_
              clear hK23 K23
              try simp only [thenA, inBlockA, noGotoA, ite_true, ite_false, reduceIte, Nat.reduceEqDiff]
              refine hK10 _ (by first | rfl | simp) (s.length - kk) (by omega) ?_
              have hn1 : 0 < n := by omega
              obtain ⟨n, rfl⟩ : ∃ m, n = m + 1 := ⟨n - 1, by omega⟩
              first
              | (rw [lxA_sp hb17 hb23] at hc
                 refine ⟨kk, n, _, ⟨?_, ?_, ?_⟩, by rw [hc, ← hkk], rfl, ?_⟩
                 · omega
                 · (try simp only [List.length_append, List.length_singleton]); omega
                 · omega
                 · simp [hkk, encK, List.map_append])
              | (rw [lxA_com hb17 hb23 hb31 hb37] at hc
                 refine ⟨kk, n, _, ⟨?_, ?_, ?_⟩, by rw [hc, ← hkk], rfl, ?_⟩
                 · omega
                 · (try simp only [List.length_append, List.length_singleton]); omega
                 · omega
                 · simp [hkk, encK, List.map_append, Int.toNat_of_nonneg hb37])
              | (rw [lxA_word hb17 hb23 hb31 hb41] at hc
                 refine ⟨kk, n, _, ⟨?_, ?_, ?_⟩, by rw [hc, ← hkk], rfl, ?_⟩
                 · omega
                 · (try simp only [List.length_append, List.length_singleton]); omega
                 · omega
                 · simp [hkk, encK, List.map_append, toNat_add, drop_take_add])
              | (rw [lxA_sign hb17 hb23 hb31 hb41 hb51] at hc
                 refine ⟨kk, n, _, ⟨?_, ?_, ?_⟩, by rw [hc, ← hkk], rfl, ?_⟩
                 · omega
                 · (try simp only [List.length_append, List.length_singleton]); omega
                 · omega
                 · simp [hkk, encK, List.map_append, drop_take_one hb17])
            ·
              try simp [hb11, hb17, hb23, hb31] at hb41
              refine AT_seq_region fun K24 hK24 => ?_
              simp [hb11, hb17, hb23, hb31, hb41]
              repeat (refine ⟨by first | omega | assumption | exact Rows_map _ _ encK_cells _ | exact ⟨Rows_map _ _ encK_cells _, by omega⟩ | (simp at *; omega), ?_⟩)
              refine RVn_call (c_strings_IndexByte g rnd _ _) ?_
              simp [hb11, hb17, hb23, hb31, hb41]
              repeat (refine ⟨by first | omega | assumption | exact Rows_map _ _ encK_cells _ | exact ⟨Rows_map _ _ encK_cells _, by omega⟩ | (simp at *; omega), ?_⟩)
              refine hK24 _ ?_
              clear hK24 K24
              refine AT_cond (g := none) rfl (fun hb51 => ?_) (fun hb51 => ?_)
              ·
                try simp [hb11, hb17, hb23, hb31, hb41] at hb51
                refine AT_region_q fun K25 hK25 => ?_
                obtain ⟨kk, hkk⟩ : ∃ kk, kk = k + 1 := ⟨_, rfl⟩
                simp [hb11, hb17, hb23, hb31, hb41, hb51]
                repeat (refine ⟨by first | omega | assumption | exact Rows_map _ _ encK_cells _ | exact ⟨Rows_map _ _ encK_cells _, by omega⟩ | (simp at *; omega), ?_⟩)
                refine RVn_callB (c_lex_Tokens_1 g rnd _ _ _ _ _ (by omega) (by omega) (by omega) (by omega) (Rows_map _ _ encK_cells _) (by simp; omega)) (by simp) ?_
                simp [hb11, hb17, hb23, hb31, hb41, hb51]
                repeat (refine ⟨by first | omega | assumption | exact Rows_map _ _ encK_cells _ | exact ⟨Rows_map _ _ encK_cells _, by omega⟩ | (simp at *; omega), ?_⟩)
                refine hK25 _ ?_
                clear hK25 K25
                try simp only [thenA, inBlockA, noGotoA, ite_true, ite_false, reduceIte, Nat.reduceEqDiff]
                refine hK10 _ (by first | rfl | simp) (s.length - kk) (by omega) ?_
                have hn1 : 0 < n := by omega
                obtain ⟨n, rfl⟩ : ∃ m, n = m + 1 := ⟨n - 1, by omega⟩
                first
                | (rw [lxA_sp hb17 hb23] at hc
                   refine ⟨kk, n, _, ⟨?_, ?_, ?_⟩, by rw [hc, ← hkk], rfl, ?_⟩
                   · omega
                   · (try simp only [List.length_append, List.length_singleton]); omega
                   · omega
                   · simp [hkk, encK, List.map_append])
                | (rw [lxA_com hb17 hb23 hb31 hb37] at hc
                   refine ⟨kk, n, _, ⟨?_, ?_, ?_⟩, by rw [hc, ← hkk], rfl, ?_⟩
                   · omega
                   · (try simp only [List.length_append, List.length_singleton]); omega
                   · omega
                   · simp [hkk, encK, List.map_append, Int.toNat_of_nonneg hb37])
                | (rw [lxA_word hb17 hb23 hb31 hb41] at hc
                   refine ⟨kk, n, _, ⟨?_, ?_, ?_⟩, by rw [hc, ← hkk], rfl, ?_⟩
                   · omega
                   · (try simp only [List.length_append, List.length_singleton]); omega
                   · omega
                   · simp [hkk, encK, List.map_append, toNat_add, drop_take_add])
                | (rw [lxA_sign hb17 hb23 hb31 hb41 hb51] at hc
                   refine ⟨kk, n, _, ⟨?_, ?_, ?_⟩, by rw [hc, ← hkk], rfl, ?_⟩
                   · omega
                   · (try simp only [List.length_append, List.length_singleton]); omega
                   · omega
                   · simp [hkk, encK, List.map_append, drop_take_one hb17])
              ·
                try simp [hb11, hb17, hb23, hb31, hb41] at hb51
                refine AT_seq_region fun K26 hK26 => ?_
                simp [hb11, hb17, hb23, hb31, hb41, hb51]
                repeat (refine ⟨by first | omega | assumption | exact Rows_map _ _ encK_cells _ | exact ⟨Rows_map _ _ encK_cells _, by omega⟩ | (simp at *; omega), ?_⟩)
                refine RVn_call (c_fault_New g rnd _ _) ?_
                simp [hb11, hb17, hb23, hb31, hb41, hb51]
                repeat (refine ⟨by first | omega | assumption | exact Rows_map _ _ encK_cells _ | exact ⟨Rows_map _ _ encK_cells _, by omega⟩ | (simp at *; omega), ?_⟩)
                refine hK26 _ ?_
                clear hK26 K26
                refine AT_ret ?_
                simp [Tryd.f9]
                first
                | (obtain ⟨n, rfl⟩ : ∃ m, n = m + 1 := ⟨n - 1, by omega⟩
                   rw [lxA_com0 hb17 hb23 hb31 hb37] at hc
                   rw [hc]
                   exact ⟨_, rfl, by simp [encK]⟩)
                | (obtain ⟨n, rfl⟩ : ∃ m, n = m + 1 := ⟨n - 1, by omega⟩
                   rw [lxA_bad hb17 hb23 hb31 hb41 hb51] at hc
                   rw [hc]
                   exact ⟨_, rfl, by simp [encK]⟩)
                | (obtain ⟨n, rfl⟩ : ∃ m, n = m + 1 := ⟨n - 1, by omega⟩
                   rw [lxA_end hk hb17] at hc
                   rw [hc]
                   exact ⟨_, rfl, by simp [encK]⟩)
                | (rw [show lexT s = (none, 65536) by unfold lexT; rw [if_neg (by omega)]]
                   exact ⟨_, rfl, by simp⟩)
      ·
        try simp [hb11] at hb17
        refine AT_exit ?_
        try simp only [thenA, inBlockA, noGotoA, ite_true, ite_false, reduceIte, Nat.reduceEqDiff]
        refine hK9 _ ?_
        refine AT_seq_region fun K27 hK27 => ?_
        simp [hb11, hb17]
        repeat (refine ⟨by first | omega | assumption | exact Rows_map _ _ encK_cells _ | exact ⟨Rows_map _ _ encK_cells _, by omega⟩ | (simp at *; omega), ?_⟩)
        refine hK27 _ ?_
        clear hK27 K27
        refine AT_ret ?_
        simp [Tryd.f9]
        first
        | (obtain ⟨n, rfl⟩ : ∃ m, n = m + 1 := ⟨n - 1, by omega⟩
           rw [lxA_com0 hb17 hb23 hb31 hb37] at hc
           rw [hc]
           exact ⟨_, rfl, by simp [encK]⟩)
        | (obtain ⟨n, rfl⟩ : ∃ m, n = m + 1 := ⟨n - 1, by omega⟩
           rw [lxA_bad hb17 hb23 hb31 hb41 hb51] at hc
           rw [hc]
           exact ⟨_, rfl, by simp [encK]⟩)
        | (obtain ⟨n, rfl⟩ : ∃ m, n = m + 1 := ⟨n - 1, by omega⟩
           rw [lxA_end hk hb17] at hc
           rw [hc]
           exact ⟨_, rfl, by simp [encK]⟩)
        | (rw [show lexT s = (none, 65536) by unfold lexT; rw [if_neg (by omega)]]
           exact ⟨_, rfl, by simp⟩)

end Go.Proofs.YtoehgdamenpclaaDoor

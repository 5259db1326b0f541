import Derived.Test.YtpjkdaechknogaaDoorPt
import Derived.Test.YtpjkdaechknogaaDoorPvPb
import Derived.Test.YtpjkdaechknogaaDoorPvY
import Derived.Test.YtpjkdaechknogaaDoorXLxA
import Derived.Test.YtpjkdaechknogaaDoorXNaI
import Derived.Test.YtpjkdaechknogaaDoorXRdD
import Derived.Test.YtpjkdaechknogaaDoorXNaB
section
/- Contracts: lex.Tokens. -/
set_option linter.all false
set_option maxHeartbeats 1000000
set_option maxRecDepth 10000
namespace Go.Proofs.YtpjkdaechknogaaDoor
open Go Go.Pv
variable (g : Nat → Option (List AV)) (rnd : Bool)

theorem c_lex_Tokens (s : Str) (hs : s.length ≤ 1000000000) : Valid Tryd.prog (G0 g rnd) 19 [.str s] (lexV 110 (lexT s)) := by

 refine valid_of [(104000, 86)] Tryd.func19 rfl (by kernel_rfl) ?_
 refine AT_seq_region fun K1 hK1 => ?_
 simp [Tryd.f19]
 repeat (refine ⟨by first | omega | assumption | exact Rows_map _ _ encK_cells _ | exact ⟨Rows_map _ _ encK_cells _, by omega⟩ | (simp at *; omega), ?_⟩)
 refine hK1 _ ?_
 clear hK1 K1
 refine AT_scope ?_
 refine AT_seq_k fun K2 hK2 => ?_
 refine AT_seq_region fun K3 hK3 => ?_
 simp
 repeat (refine ⟨by first | omega | assumption | exact Rows_map _ _ encK_cells _ | exact ⟨Rows_map _ _ encK_cells _, by omega⟩ | (simp at *; omega), ?_⟩)
 refine hK3 _ ?_
 clear hK3 K3
 refine AT_cond (g := none) rfl (fun hb11 => ?_) (fun hb11 => ?_)
 ·
  try simp at hb11
  refine AT_seq_region fun K4 hK4 => ?_
  simp [hb11]
  repeat (refine ⟨by first | omega | assumption | exact Rows_map _ _ encK_cells _ | exact ⟨Rows_map _ _ encK_cells _, by omega⟩ | (simp at *; omega), ?_⟩)
  refine RVn_call (c_fault_New g rnd _ _) ?_
  simp [hb11]
  repeat (refine ⟨by first | omega | assumption | exact Rows_map _ _ encK_cells _ | exact ⟨Rows_map _ _ encK_cells _, by omega⟩ | (simp at *; omega), ?_⟩)
  refine hK4 _ ?_
  clear hK4 K4
  refine AT_ret ?_
  simp [Tryd.f19]
  first
  | (obtain ⟨n, rfl⟩ : ∃ m, n = m + 1 := ⟨n - 1, by omega⟩
     rw [lxA_com0 hb17 hb23 hb31 hb37] at hc
     rw [hc]
     exact ⟨_, rfl, by simp [encK]⟩)
  | (obtain ⟨n, rfl⟩ : ∃ m, n = m + 1 := ⟨n - 1, by omega⟩
     rw [lxA_bad hb17 hb23 hb31 hb41 hb51] at hc
     rw [hc]
     exact ⟨_, rfl, by simp [encK]⟩)
  | (obtain ⟨n, rfl⟩ : ∃ m, n = m + 1 := ⟨n - 1, by omega⟩
     rw [lxA_end hk hb17] at hc
     rw [hc]
     exact ⟨_, rfl, by simp [encK]⟩)
  | (rw [show lexT s = (none, 65536) by unfold lexT; rw [if_neg (by omega)]]
     exact ⟨_, rfl, by simp⟩)
 ·
  try simp at hb11
  refine AT_skip ?_
  try simp only [nrm, reduceIte, Nat.reduceEqDiff]
  refine hK2 _ ?_
  refine AT_seq_region fun K5 hK5 => ?_
  simp [hb11]
  repeat (refine ⟨by first | omega | assumption | exact Rows_map _ _ encK_cells _ | exact ⟨Rows_map _ _ encK_cells _, by omega⟩ | (simp at *; omega), ?_⟩)
  refine hK5 _ ?_
  clear hK5 K5
  refine AT_seq_region fun K6 hK6 => ?_
  simp [hb11]
  repeat (refine ⟨by first | omega | assumption | exact Rows_map _ _ encK_cells _ | exact ⟨Rows_map _ _ encK_cells _, by omega⟩ | (simp at *; omega), ?_⟩)
  refine hK6 _ ?_
  clear hK6 K6
  refine AT_seq_region fun K7 hK7 => ?_
  simp [hb11]
  repeat (refine ⟨by first | omega | assumption | exact Rows_map _ _ encK_cells _ | exact ⟨Rows_map _ _ encK_cells _, by omega⟩ | (simp at *; omega), ?_⟩)
  refine hK7 _ ?_
  clear hK7 K7
  refine AT_seq_k fun K8 hK8 => ?_
  refine AT_label ?_
  try simp only [nrm, reduceIte, Nat.reduceEqDiff]
  refine hK8 _ ?_
  refine AT_seq_k fun K9 hK9 => ?_
  refine AT_block ?_
  refine AT_loop_q [1,2,3,4,5,6] [4,1,5] (fun j s1 => ∃ k n out, (k ≤ s.length ∧ out.length ≤ k ∧ s.length - k < n) ∧ lexT s = lxA n out k (s.drop k) ∧ j = s.length - k ∧ s1 = { n := 65, tm := [(1, .lp 1 0), (2, .v (.slice []) none), (3, .v .nilIface none), (4, .lp 4 0), (5, .lp 5 0), (6, .cl 47 [4, 1, 5])], bx := [(4, [.slice (out.map encK)]), (1, [.str s]), (5, [.int .i64 (k : Nat)])], tb := [(4, 0, gid 4 0, 86)], sh := [], hint := [(104000, 86)] }) (s.length) (by first | rfl | simp) ?_ ?_
  ·
   exact ⟨0, s.length + 1, [], by simp [lexT]; omega⟩
  ·
   rintro j s1 ⟨k, n, out, ⟨hk, hol, hn⟩, hc, rfl, rfl⟩ K10 hK10
   refine AT_seq_k fun K11 hK11 => ?_
   refine AT_seq_region fun K12 hK12 => ?_
   simp [hb11]
   repeat (refine ⟨by first | omega | assumption | exact Rows_map _ _ encK_cells _ | exact ⟨Rows_map _ _ encK_cells _, by omega⟩ | (simp at *; omega), ?_⟩)
   refine hK12 _ ?_
   clear hK12 K12
   refine AT_cond (g := none) rfl (fun hb17 => ?_) (fun hb17 => ?_)
   ·
    try simp [hb11] at hb17
    refine AT_skip ?_
    try simp only [nrm, reduceIte, Nat.reduceEqDiff]
    refine hK11 _ ?_
    refine AT_block ?_
    refine AT_seq_region fun K13 hK13 => ?_
    simp [hb11, hb17]
    repeat (refine ⟨by first | omega | assumption | exact Rows_map _ _ encK_cells _ | exact ⟨Rows_map _ _ encK_cells _, by omega⟩ | (simp at *; omega), ?_⟩)
    refine hK13 _ ?_
    clear hK13 K13
    refine AT_block ?_
    refine AT_seq_region fun K14 hK14 => ?_
    simp [hb11, hb17]
    repeat (refine ⟨by first | omega | assumption | exact Rows_map _ _ encK_cells _ | exact ⟨Rows_map _ _ encK_cells _, by omega⟩ | (simp at *; omega), ?_⟩)
    refine RVn_call (c_name_Class g rnd _) ?_
    simp [hb11, hb17]
    repeat (refine ⟨by first | omega | assumption | exact Rows_map _ _ encK_cells _ | exact ⟨Rows_map _ _ encK_cells _, by omega⟩ | (simp at *; omega), ?_⟩)
    refine hK14 _ ?_
    clear hK14 K14
    refine AT_cond (g := none) rfl (fun hb23 => ?_) (fun hb23 => ?_)
    ·
     try simp [hb11, hb17] at hb23
     refine AT_region_q fun K15 hK15 => ?_
     obtain ⟨kk, hkk⟩ : ∃ kk, kk = k + 1 := ⟨_, rfl⟩
     simp [hb11, hb17, hb23]
     repeat (refine ⟨by first | omega | assumption | exact Rows_map _ _ encK_cells _ | exact ⟨Rows_map _ _ encK_cells _, by omega⟩ | (simp at *; omega), ?_⟩)
     refine hK15 _ ?_
     clear hK15 K15
     try simp only [nrm, reduceIte, Nat.reduceEqDiff]
     refine hK10 _ (by first | rfl | simp) (s.length - kk) (by omega) ?_
     have hn1 : 0 < n := by omega
     obtain ⟨n, rfl⟩ : ∃ m, n = m + 1 := ⟨n - 1, by omega⟩
     first
     | (rw [lxA_sp hb17 hb23] at hc
        refine ⟨kk, n, _, ⟨?_, ?_, ?_⟩, by rw [hc, ← hkk], rfl, ?_⟩
        · omega
        · (try simp only [List.length_append, List.length_singleton]); omega
        · omega
        · simp [hkk, encK, List.map_append])
     | (rw [lxA_com hb17 hb23 hb31 hb37] at hc
        refine ⟨kk, n, _, ⟨?_, ?_, ?_⟩, by rw [hc, ← hkk], rfl, ?_⟩
        · omega
        · (try simp only [List.length_append, List.length_singleton]); omega
        · omega
        · simp [hkk, encK, List.map_append, Int.toNat_of_nonneg hb37])
     | (rw [lxA_word hb17 hb23 hb31 hb41] at hc
        refine ⟨kk, n, _, ⟨?_, ?_, ?_⟩, by rw [hc, ← hkk], rfl, ?_⟩
        · omega
        · (try simp only [List.length_append, List.length_singleton]); omega
        · omega
        · simp [hkk, encK, List.map_append, toNat_add, drop_take_add])
     | (rw [lxA_sign hb17 hb23 hb31 hb41 hb51] at hc
        refine ⟨kk, n, _, ⟨?_, ?_, ?_⟩, by rw [hc, ← hkk], rfl, ?_⟩
        · omega
        · (try simp only [List.length_append, List.length_singleton]); omega
        · omega
        · simp [hkk, encK, List.map_append, drop_take_one hb17])
    ·
     try simp [hb11, hb17] at hb23
     refine AT_seq_region fun K16 hK16 => ?_
     simp [hb11, hb17, hb23]
     repeat (refine ⟨by first | omega | assumption | exact Rows_map _ _ encK_cells _ | exact ⟨Rows_map _ _ encK_cells _, by omega⟩ | (simp at *; omega), ?_⟩)
     refine RVn_call (c_strings_HasPrefix g rnd _ _) ?_
     simp [hb11, hb17, hb23]
     repeat (refine ⟨by first | omega | assumption | exact Rows_map _ _ encK_cells _ | exact ⟨Rows_map _ _ encK_cells _, by omega⟩ | (simp at *; omega), ?_⟩)
     refine hK16 _ ?_
     clear hK16 K16
     refine AT_cond (g := none) rfl (fun hb31 => ?_) (fun hb31 => ?_)
     ·
      try simp [hb11, hb17, hb23] at hb31
      refine AT_seq_region fun K17 hK17 => ?_
      simp [hb11, hb17, hb23, hb31]
      repeat (refine ⟨by first | omega | assumption | exact Rows_map _ _ encK_cells _ | exact ⟨Rows_map _ _ encK_cells _, by omega⟩ | (simp at *; omega), ?_⟩)
      refine RVn_call (c_strings_IndexByte g rnd _ 10) ?_
      simp [hb11, hb17, hb23, hb31]
      repeat (refine ⟨by first | omega | assumption | exact Rows_map _ _ encK_cells _ | exact ⟨Rows_map _ _ encK_cells _, by omega⟩ | (simp at *; omega), ?_⟩)
      refine hK17 _ ?_
      clear hK17 K17
      refine AT_seq_k fun K18 hK18 => ?_
      refine AT_seq_region fun K19 hK19 => ?_
      simp [hb11, hb17, hb23, hb31]
      repeat (refine ⟨by first | omega | assumption | exact Rows_map _ _ encK_cells _ | exact ⟨Rows_map _ _ encK_cells _, by omega⟩ | (simp at *; omega), ?_⟩)
      refine hK19 _ ?_
      clear hK19 K19
      refine AT_cond (g := none) rfl (fun hb37 => ?_) (fun hb37 => ?_)
      ·
       try simp [hb11, hb17, hb23, hb31] at hb37
       refine AT_exit ?_
       try simp only [nrm, reduceIte, Nat.reduceEqDiff]
       refine hK9 _ ?_
       refine AT_seq_region fun K20 hK20 => ?_
       simp [hb11, hb17, hb23, hb31, hb37]
       repeat (refine ⟨by first | omega | assumption | exact Rows_map _ _ encK_cells _ | exact ⟨Rows_map _ _ encK_cells _, by omega⟩ | (simp at *; omega), ?_⟩)
       refine hK20 _ ?_
       clear hK20 K20
       refine AT_ret ?_
       simp [Tryd.f19]
       first
       | (obtain ⟨n, rfl⟩ : ∃ m, n = m + 1 := ⟨n - 1, by omega⟩
          rw [lxA_com0 hb17 hb23 hb31 hb37] at hc
          rw [hc]
          exact ⟨_, rfl, by simp [encK]⟩)
       | (obtain ⟨n, rfl⟩ : ∃ m, n = m + 1 := ⟨n - 1, by omega⟩
          rw [lxA_bad hb17 hb23 hb31 hb41 hb51] at hc
          rw [hc]
          exact ⟨_, rfl, by simp [encK]⟩)
       | (obtain ⟨n, rfl⟩ : ∃ m, n = m + 1 := ⟨n - 1, by omega⟩
          rw [lxA_end hk hb17] at hc
          rw [hc]
          exact ⟨_, rfl, by simp [encK]⟩)
       | (rw [show lexT s = (none, 65536) by unfold lexT; rw [if_neg (by omega)]]
          exact ⟨_, rfl, by simp⟩)
      ·
       try simp [hb11, hb17, hb23, hb31] at hb37
       refine AT_skip ?_
       try simp only [nrm, reduceIte, Nat.reduceEqDiff]
       refine hK18 _ ?_
       refine AT_region_q fun K21 hK21 => ?_
       have hil := Lib.indexByte_ge (s.drop k) 10
       have hiu := (indexByte_lt (s.drop k) 10).resolve_right (by simp; omega)
       rw [List.length_drop] at hiu
       obtain ⟨kk, hkk⟩ : ∃ kk, kk = k + (Lib.indexByte (s.drop k) 10).toNat := ⟨_, rfl⟩
       have hcp := com_pos hb17 hb31 hb37
       simp [hb11, hb17, hb23, hb31, hb37]
       repeat (refine ⟨by first | omega | assumption | exact Rows_map _ _ encK_cells _ | exact ⟨Rows_map _ _ encK_cells _, by omega⟩ | (simp at *; omega), ?_⟩)
       refine hK21 _ ?_
       clear hK21 K21
       try simp only [nrm, reduceIte, Nat.reduceEqDiff]
       refine hK10 _ (by first | rfl | simp) (s.length - kk) (by omega) ?_
       have hn1 : 0 < n := by omega
       obtain ⟨n, rfl⟩ : ∃ m, n = m + 1 := ⟨n - 1, by omega⟩
       first
       | (rw [lxA_sp hb17 hb23] at hc
          refine ⟨kk, n, _, ⟨?_, ?_, ?_⟩, by rw [hc, ← hkk], rfl, ?_⟩
          · omega
          · (try simp only [List.length_append, List.length_singleton]); omega
          · omega
          · simp [hkk, encK, List.map_append])
       | (rw [lxA_com hb17 hb23 hb31 hb37] at hc
          refine ⟨kk, n, _, ⟨?_, ?_, ?_⟩, by rw [hc, ← hkk], rfl, ?_⟩
          · omega
          · (try simp only [List.length_append, List.length_singleton]); omega
          · omega
          · simp [hkk, encK, List.map_append, Int.toNat_of_nonneg hb37])
       | (rw [lxA_word hb17 hb23 hb31 hb41] at hc
          refine ⟨kk, n, _, ⟨?_, ?_, ?_⟩, by rw [hc, ← hkk], rfl, ?_⟩
          · omega
          · (try simp only [List.length_append, List.length_singleton]); omega
          · omega
          · simp [hkk, encK, List.map_append, toNat_add, drop_take_add])
       | (rw [lxA_sign hb17 hb23 hb31 hb41 hb51] at hc
          refine ⟨kk, n, _, ⟨?_, ?_, ?_⟩, by rw [hc, ← hkk], rfl, ?_⟩
          · omega
          · (try simp only [List.length_append, List.length_singleton]); omega
          · omega
          · simp [hkk, encK, List.map_append, drop_take_one hb17])
     ·
      try simp [hb11, hb17, hb23] at hb31
      refine AT_seq_region fun K22 hK22 => ?_
      simp [hb11, hb17, hb23, hb31]
      repeat (refine ⟨by first | omega | assumption | exact Rows_map _ _ encK_cells _ | exact ⟨Rows_map _ _ encK_cells _, by omega⟩ | (simp at *; omega), ?_⟩)
      refine RVn_call (c_name_Class g rnd _) ?_
      simp [hb11, hb17, hb23, hb31]
      repeat (refine ⟨by first | omega | assumption | exact Rows_map _ _ encK_cells _ | exact ⟨Rows_map _ _ encK_cells _, by omega⟩ | (simp at *; omega), ?_⟩)
      refine hK22 _ ?_
      clear hK22 K22
      refine AT_cond (g := none) rfl (fun hb41 => ?_) (fun hb41 => ?_)
      ·
       try simp [hb11, hb17, hb23, hb31] at hb41
       refine AT_region_q fun K23 hK23 => ?_
       have hwl := wordN_le (s.drop k)
       rw [List.length_drop] at hwl
       obtain ⟨kk, hkk⟩ : ∃ kk, kk = k + wordN (s.drop k) := ⟨_, rfl⟩
       have hcp := wordN_pos hb17 hb41
       simp [hb11, hb17, hb23, hb31, hb41]
       repeat (refine ⟨by first | omega | assumption | exact Rows_map _ _ encK_cells _ | exact ⟨Rows_map _ _ encK_cells _, by omega⟩ | (simp at *; omega), ?_⟩)
       refine RVn_call (c_lex_word g rnd _ (by simp; omega)) ?_
       simp [hb11, hb17, hb23, hb31, hb41]
       repeat (refine ⟨by first | omega | assumption | exact Rows_map _ _ encK_cells _ | exact ⟨Rows_map _ _ encK_cells _, by omega⟩ | (simp at *; omega), ?_⟩)
       refine RVn_callB (c_lex_Tokens_1 g rnd _ _ _ _ _ (by omega) (by omega) (by omega) (by omega) (Rows_map _ _ encK_cells _) (by simp; omega)) (by simp) ?_
       simp [hb11, hb17, hb23, hb31, hb41]
       repeat (refine ⟨by first | omega | assumption | exact Rows_map _ _ encK_cells _ | exact ⟨Rows_map _ _ encK_cells _, by omega⟩ | (simp at *; omega), ?_⟩)
       refine hK23 _ ?_
       clear hK23 K23
       try simp only [nrm, reduceIte, Nat.reduceEqDiff]
       refine hK10 _ (by first | rfl | simp) (s.length - kk) (by omega) ?_
       have hn1 : 0 < n := by omega
       obtain ⟨n, rfl⟩ : ∃ m, n = m + 1 := ⟨n - 1, by omega⟩
       first
       | (rw [lxA_sp hb17 hb23] at hc
          refine ⟨kk, n, _, ⟨?_, ?_, ?_⟩, by rw [hc, ← hkk], rfl, ?_⟩
          · omega
          · (try simp only [List.length_append, List.length_singleton]); omega
          · omega
          · simp [hkk, encK, List.map_append])
       | (rw [lxA_com hb17 hb23 hb31 hb37] at hc
          refine ⟨kk, n, _, ⟨?_, ?_, ?_⟩, by rw [hc, ← hkk], rfl, ?_⟩
          · omega
          · (try simp only [List.length_append, List.length_singleton]); omega
          · omega
          · simp [hkk, encK, List.map_append, Int.toNat_of_nonneg hb37])
       | (rw [lxA_word hb17 hb23 hb31 hb41] at hc
          refine ⟨kk, n, _, ⟨?_, ?_, ?_⟩, by rw [hc, ← hkk], rfl, ?_⟩
          · omega
          · (try simp only [List.length_append, List.length_singleton]); omega
          · omega
          · simp [hkk, encK, List.map_append, toNat_add, drop_take_add])
       | (rw [lxA_sign hb17 hb23 hb31 hb41 hb51] at hc
          refine ⟨kk, n, _, ⟨?_, ?_, ?_⟩, by rw [hc, ← hkk], rfl, ?_⟩
          · omega
          · (try simp only [List.length_append, List.length_singleton]); omega
          · omega
          · simp [hkk, encK, List.map_append, drop_take_one hb17])
      ·
       try simp [hb11, hb17, hb23, hb31] at hb41
       refine AT_seq_region fun K24 hK24 => ?_
       simp [hb11, hb17, hb23, hb31, hb41]
       repeat (refine ⟨by first | omega | assumption | exact Rows_map _ _ encK_cells _ | exact ⟨Rows_map _ _ encK_cells _, by omega⟩ | (simp at *; omega), ?_⟩)
       refine RVn_call (c_strings_IndexByte g rnd _ _) ?_
       simp [hb11, hb17, hb23, hb31, hb41]
       repeat (refine ⟨by first | omega | assumption | exact Rows_map _ _ encK_cells _ | exact ⟨Rows_map _ _ encK_cells _, by omega⟩ | (simp at *; omega), ?_⟩)
       refine hK24 _ ?_
       clear hK24 K24
       refine AT_cond (g := none) rfl (fun hb51 => ?_) (fun hb51 => ?_)
       ·
        try simp [hb11, hb17, hb23, hb31, hb41] at hb51
        refine AT_region_q fun K25 hK25 => ?_
        obtain ⟨kk, hkk⟩ : ∃ kk, kk = k + 1 := ⟨_, rfl⟩
        simp [hb11, hb17, hb23, hb31, hb41, hb51]
        repeat (refine ⟨by first | omega | assumption | exact Rows_map _ _ encK_cells _ | exact ⟨Rows_map _ _ encK_cells _, by omega⟩ | (simp at *; omega), ?_⟩)
        refine RVn_callB (c_lex_Tokens_1 g rnd _ _ _ _ _ (by omega) (by omega) (by omega) (by omega) (Rows_map _ _ encK_cells _) (by simp; omega)) (by simp) ?_
        simp [hb11, hb17, hb23, hb31, hb41, hb51]
        repeat (refine ⟨by first | omega | assumption | exact Rows_map _ _ encK_cells _ | exact ⟨Rows_map _ _ encK_cells _, by omega⟩ | (simp at *; omega), ?_⟩)
        refine hK25 _ ?_
        clear hK25 K25
        try simp only [nrm, reduceIte, Nat.reduceEqDiff]
        refine hK10 _ (by first | rfl | simp) (s.length - kk) (by omega) ?_
        have hn1 : 0 < n := by omega
        obtain ⟨n, rfl⟩ : ∃ m, n = m + 1 := ⟨n - 1, by omega⟩
        first
        | (rw [lxA_sp hb17 hb23] at hc
           refine ⟨kk, n, _, ⟨?_, ?_, ?_⟩, by rw [hc, ← hkk], rfl, ?_⟩
           · omega
           · (try simp only [List.length_append, List.length_singleton]); omega
           · omega
           · simp [hkk, encK, List.map_append])
        | (rw [lxA_com hb17 hb23 hb31 hb37] at hc
           refine ⟨kk, n, _, ⟨?_, ?_, ?_⟩, by rw [hc, ← hkk], rfl, ?_⟩
           · omega
           · (try simp only [List.length_append, List.length_singleton]); omega
           · omega
           · simp [hkk, encK, List.map_append, Int.toNat_of_nonneg hb37])
        | (rw [lxA_word hb17 hb23 hb31 hb41] at hc
           refine ⟨kk, n, _, ⟨?_, ?_, ?_⟩, by rw [hc, ← hkk], rfl, ?_⟩
           · omega
           · (try simp only [List.length_append, List.length_singleton]); omega
           · omega
           · simp [hkk, encK, List.map_append, toNat_add, drop_take_add])
        | (rw [lxA_sign hb17 hb23 hb31 hb41 hb51] at hc
           refine ⟨kk, n, _, ⟨?_, ?_, ?_⟩, by rw [hc, ← hkk], rfl, ?_⟩
           · omega
           · (try simp only [List.length_append, List.length_singleton]); omega
           · omega
           · simp [hkk, encK, List.map_append, drop_take_one hb17])
       ·
        try simp [hb11, hb17, hb23, hb31, hb41] at hb51
        refine AT_seq_region fun K26 hK26 => ?_
        simp [hb11, hb17, hb23, hb31, hb41, hb51]
        repeat (refine ⟨by first | omega | assumption | exact Rows_map _ _ encK_cells _ | exact ⟨Rows_map _ _ encK_cells _, by omega⟩ | (simp at *; omega), ?_⟩)
        refine RVn_call (c_fault_New g rnd _ _) ?_
        simp [hb11, hb17, hb23, hb31, hb41, hb51]
        repeat (refine ⟨by first | omega | assumption | exact Rows_map _ _ encK_cells _ | exact ⟨Rows_map _ _ encK_cells _, by omega⟩ | (simp at *; omega), ?_⟩)
        refine hK26 _ ?_
        clear hK26 K26
        refine AT_ret ?_
        simp [Tryd.f19]
        first
        | (obtain ⟨n, rfl⟩ : ∃ m, n = m + 1 := ⟨n - 1, by omega⟩
           rw [lxA_com0 hb17 hb23 hb31 hb37] at hc
           rw [hc]
           exact ⟨_, rfl, by simp [encK]⟩)
        | (obtain ⟨n, rfl⟩ : ∃ m, n = m + 1 := ⟨n - 1, by omega⟩
           rw [lxA_bad hb17 hb23 hb31 hb41 hb51] at hc
           rw [hc]
           exact ⟨_, rfl, by simp [encK]⟩)
        | (obtain ⟨n, rfl⟩ : ∃ m, n = m + 1 := ⟨n - 1, by omega⟩
           rw [lxA_end hk hb17] at hc
           rw [hc]
           exact ⟨_, rfl, by simp [encK]⟩)
        | (rw [show lexT s = (none, 65536) by unfold lexT; rw [if_neg (by omega)]]
           exact ⟨_, rfl, by simp⟩)
   ·
    try simp [hb11] at hb17
    refine AT_exit ?_
    try simp only [nrm, reduceIte, Nat.reduceEqDiff]
    refine hK9 _ ?_
    refine AT_seq_region fun K27 hK27 => ?_
    simp [hb11, hb17]
    repeat (refine ⟨by first | omega | assumption | exact Rows_map _ _ encK_cells _ | exact ⟨Rows_map _ _ encK_cells _, by omega⟩ | (simp at *; omega), ?_⟩)
    refine hK27 _ ?_
    clear hK27 K27
    refine AT_ret ?_
    simp [Tryd.f19]
    first
    | (obtain ⟨n, rfl⟩ : ∃ m, n = m + 1 := ⟨n - 1, by omega⟩
       rw [lxA_com0 hb17 hb23 hb31 hb37] at hc
       rw [hc]
       exact ⟨_, rfl, by simp [encK]⟩)
    | (obtain ⟨n, rfl⟩ : ∃ m, n = m + 1 := ⟨n - 1, by omega⟩
       rw [lxA_bad hb17 hb23 hb31 hb41 hb51] at hc
       rw [hc]
       exact ⟨_, rfl, by simp [encK]⟩)
    | (obtain ⟨n, rfl⟩ : ∃ m, n = m + 1 := ⟨n - 1, by omega⟩
       rw [lxA_end hk hb17] at hc
       rw [hc]
       exact ⟨_, rfl, by simp [encK]⟩)
    | (rw [show lexT s = (none, 65536) by unfold lexT; rw [if_neg (by omega)]]
       exact ⟨_, rfl, by simp⟩)

end Go.Proofs.YtpjkdaechknogaaDoor
end

section
/- Contracts: texts, read. -/
set_option linter.all false
set_option maxHeartbeats 1000000
set_option maxRecDepth 10000
namespace Go.Proofs.YtpjkdaechknogaaDoor
open Go Go.Pv
variable (g : Nat → Option (List AV)) (rnd : Bool)

theorem c_read_New (l : List Tk) : ValidN Tryd.prog (G0 g false) 20 [.slice (l.map encK)] (encC 110 ⟨l, none⟩) := by

 refine validN_of [] Tryd.func20 rfl (by kernel_rfl) ?_
 refine AT_seq_region fun K1 hK1 => ?_
 simp [Tryd.f20]
 repeat refine sg ?_
 refine hK1 _ ?_
 clear hK1 K1
 refine AT_seq_region fun K2 hK2 => ?_
 simp
 repeat refine sg ?_
 refine hK2 _ ?_
 clear hK2 K2
 refine AT_esc 5 rfl (by simp) (noClP_of (by simp)) fun b => ?_
 refine AT_ret ?_
 simp [Tryd.f20]
 all_goals simp [encC, errA]

theorem c_read_Cursor_End (b : Nat) (c : Cur) (hb : c.l.length ≤ 1000000) : ValidC Tryd.prog (G0 g false) 30 [] b (encC 110 c) (errA 110 (endC c).err) (encC 110 (endC c)) := by

 refine validC_of [] Tryd.func30 rfl (by kernel_rfl) ?_
 refine AT_seq_region fun K1 hK1 => ?_
 simp [encK, Tryd.f30]
 repeat refine sg ?_
 refine hK1 _ ?_
 clear hK1 K1
 refine AT_seq_k fun K2 hK2 => ?_
 cases h3 : (c.first.1 != 3)
 ·
  refine AT_seq_region fun K3 hK3 => ?_
  simp [encK, h3]
  repeat refine sg ?_
  refine RVn_callC (c_read_Cursor_first g b c hb) rfl ?_
  simp [encK, h3]
  repeat refine sg ?_
  refine hK3 _ ?_
  clear hK3 K3
  refine AT_cond (b := false) (g := none) (by simp [h3]) (fun hb => ?_) (fun hb => ?_)
  ·
   cases hb
  ·
   clear hb
   refine AT_skip ?_
   try simp only [nrm, reduceIte, Nat.reduceEqDiff]
   refine hK2 _ ?_
   refine AT_seq_region fun K4 hK4 => ?_
   simp [encK, encC, h3]
   repeat refine sg ?_
   refine hK4 _ ?_
   clear hK4 K4
   refine AT_ret ?_
   simp [encK, Tryd.f30]
   all_goals simp [endC, h3, encC]
 ·
  refine AT_seq_region fun K5 hK5 => ?_
  simp [encK, h3]
  repeat refine sg ?_
  refine RVn_callC (c_read_Cursor_first g b c hb) rfl ?_
  simp [encK, h3]
  repeat refine sg ?_
  refine hK5 _ ?_
  clear hK5 K5
  refine AT_cond (b := true) (g := none) (by simp [h3]) (fun hb => ?_) (fun hb => ?_)
  ·
   clear hb
   refine AT_region_q fun K6 hK6 => ?_
   simp [encK, h3]
   repeat refine sg ?_
   refine RVn_callC (c_read_Cursor_fail g b c hb) rfl ?_
   simp [encK, h3]
   repeat refine sg ?_
   refine hK6 _ ?_
   clear hK6 K6
   try simp only [nrm, reduceIte, Nat.reduceEqDiff]
   refine hK2 _ ?_
   refine AT_seq_region fun K7 hK7 => ?_
   simp [encK, encC, h3]
   repeat refine sg ?_
   refine hK7 _ ?_
   clear hK7 K7
   refine AT_ret ?_
   simp [encK, Tryd.f30]
   all_goals simp [endC, h3, encC]
  ·
   cases hb

theorem c_read_whole_api_Type (s : Str) (hs : s.length ≤ 1000000) (hres : g 0 = some reservedA) : Valid Tryd.prog (G0 g false) 38 [.str s, .func 39 []] (.tup [.agg (encTy (wholeC 110 ty0 rdT s).1), (wholeC 110 ty0 rdT s).2]) := by

 refine valid_of [] Tryd.func38 rfl (by kernel_rfl) ?_
 refine AT_seq_region fun K1 hK1 => ?_
 simp [lexV, Tryd.f38]
 repeat refine sg ?_
 refine hK1 _ ?_
 clear hK1 K1
 refine AT_seq_region fun K2 hK2 => ?_
 simp [lexV]
 repeat refine sg ?_
 refine hK2 _ ?_
 clear hK2 K2
 rcases hx : lexT s with ⟨_ | l, m⟩
 ·
  refine AT_seq_region fun K3 hK3 => ?_
  simp [lexV]
  repeat refine sg ?_
  refine RVn_call ((by have h := c_lex_Tokens g false s (by omega); rw [hx] at h; exact h)) ?_
  simp [lexV]
  repeat refine sg ?_
  refine hK3 _ ?_
  clear hK3 K3
  refine AT_seq_k fun K4 hK4 => ?_
  refine AT_seq_region fun K5 hK5 => ?_
  simp [lexV]
  repeat refine sg ?_
  refine hK5 _ ?_
  clear hK5 K5
  refine AT_cond (b := true) (g := none) (by simp) (fun hb => ?_) (fun hb => ?_)
  ·
   clear hb
   refine AT_seq_region fun K6 hK6 => ?_
   simp [lexV]
   repeat refine sg ?_
   refine hK6 _ ?_
   clear hK6 K6
   refine AT_ret ?_
   simp [lexV, Tryd.f38]
   all_goals first | (simp [wholeC, hx, enc_ty0]; done) | (simp [wholeC, hx, ← hp, he, errA, enc_ty0]; done)
  ·
   cases hb
 ·
  obtain ⟨hsl, hll, hlt⟩ := lexT_bounds hx
  obtain ⟨p, hp⟩ : ∃ p, p = rdT l := ⟨_, rfl⟩
  have hpl : p.2.l.length ≤ l.length := by rw [hp]; exact (typeC_suf _ _).length_le
  refine AT_seq_region fun K7 hK7 => ?_
  simp [lexV]
  repeat refine sg ?_
  refine RVn_call ((by have h := c_lex_Tokens g false s (by omega); rw [hx] at h; exact h)) ?_
  simp [lexV]
  repeat refine sg ?_
  refine hK7 _ ?_
  clear hK7 K7
  refine AT_seq_k fun K8 hK8 => ?_
  refine AT_seq_region fun K9 hK9 => ?_
  simp [lexV]
  repeat refine sg ?_
  refine hK9 _ ?_
  clear hK9 K9
  refine AT_cond (b := false) (g := none) (by simp) (fun hb => ?_) (fun hb => ?_)
  ·
   cases hb
  ·
   clear hb
   refine AT_skip ?_
   try simp only [nrm, reduceIte, Nat.reduceEqDiff]
   refine hK8 _ ?_
   refine AT_seq_region fun K10 hK10 => ?_
   simp [lexV]
   repeat refine sg ?_
   refine RVn_callN (c_read_New g l) fun b => ?_
   simp [lexV]
   repeat refine sg ?_
   refine hK10 _ ?_
   clear hK10 K10
   refine AT_seq_region fun K11 hK11 => ?_
   simp [lexV]
   repeat refine sg ?_
   refine RVn_callC ((by have h := c_read_Cursor_Type g b l (fun t ht => by have := hlt t ht; omega) (by omega) (fun s hs => c_name_Is g false s (by omega) hres) (l.length + 1) ⟨l, none⟩ (Nat.lt_succ_self _) (by omega) (List.suffix_refl _); rw [show typeC (l.length + 1) ⟨l, none⟩ = p from hp.symm] at h; exact h)) rfl ?_
   simp [lexV]
   repeat refine sg ?_
   refine hK11 _ ?_
   clear hK11 K11
   refine AT_seq_k fun K12 hK12 => ?_
   refine AT_seq_region fun K13 hK13 => ?_
   simp [lexV]
   repeat refine sg ?_
   refine RVn_callC (c_read_Cursor_End g b p.2 (by omega)) rfl ?_
   simp [lexV]
   repeat refine sg ?_
   refine hK13 _ ?_
   clear hK13 K13
   cases he : (endC p.2).err
   ·
    refine AT_seq_region fun K14 hK14 => ?_
    simp [lexV, errA, he]
    repeat refine sg ?_
    refine hK14 _ ?_
    clear hK14 K14
    refine AT_cond (b := false) (g := none) (by simp [he]) (fun hb => ?_) (fun hb => ?_)
    ·
     cases hb
    ·
     clear hb
     refine AT_skip ?_
     try simp only [nrm, reduceIte, Nat.reduceEqDiff]
     refine hK12 _ ?_
     refine AT_seq_region fun K15 hK15 => ?_
     simp [lexV, he]
     repeat refine sg ?_
     refine hK15 _ ?_
     clear hK15 K15
     refine AT_ret ?_
     simp [lexV, Tryd.f38]
     all_goals first | (simp [wholeC, hx, enc_ty0]; done) | (simp [wholeC, hx, ← hp, he, errA, enc_ty0]; done)
   ·
    refine AT_seq_region fun K16 hK16 => ?_
    simp [lexV, errA, he]
    repeat refine sg ?_
    refine hK16 _ ?_
    clear hK16 K16
    refine AT_cond (b := true) (g := none) (by simp [he]) (fun hb => ?_) (fun hb => ?_)
    ·
     clear hb
     refine AT_seq_region fun K17 hK17 => ?_
     simp [lexV, he]
     repeat refine sg ?_
     refine hK17 _ ?_
     clear hK17 K17
     refine AT_ret ?_
     simp [lexV, Tryd.f38]
     all_goals first | (simp [wholeC, hx, enc_ty0]; done) | (simp [wholeC, hx, ← hp, he, errA, enc_ty0]; done)
    ·
     cases hb

theorem c_read_Type (s : Str) (hs : s.length ≤ 1000000) (hres : g 0 = some reservedA) : Valid Tryd.prog (G0 g false) 12 [.str s] (.tup [.agg (encTy (wholeC 110 ty0 rdT s).1), (wholeC 110 ty0 rdT s).2]) := by

 refine valid_of [] Tryd.func12 rfl (by kernel_rfl) ?_
 refine AT_seq_region fun K1 hK1 => ?_
 simp [Tryd.f12]
 repeat refine sg ?_
 refine hK1 _ ?_
 clear hK1 K1
 refine AT_seq_region fun K2 hK2 => ?_
 simp
 repeat refine sg ?_
 refine RVn_call (c_read_whole_api_Type g s hs hres) ?_
 simp
 repeat refine sg ?_
 refine hK2 _ ?_
 clear hK2 K2
 refine AT_ret ?_
 simp [Tryd.f12]

theorem c_read_whole_api_Expr (s : Str) (hs : s.length ≤ 1000000) (hres : g 0 = some reservedA) : Valid Tryd.prog (G0 g false) 40 [.str s, .func 41 []] (.tup [.agg (encE (wholeC 110 ex0 rdE s).1), (wholeC 110 ex0 rdE s).2]) := by

 refine valid_of [] Tryd.func40 rfl (by kernel_rfl) ?_
 refine AT_seq_region fun K1 hK1 => ?_
 simp [lexV, Tryd.f40]
 repeat refine sg ?_
 refine hK1 _ ?_
 clear hK1 K1
 refine AT_seq_region fun K2 hK2 => ?_
 simp [lexV]
 repeat refine sg ?_
 refine hK2 _ ?_
 clear hK2 K2
 rcases hx : lexT s with ⟨_ | l, m⟩
 ·
  refine AT_seq_region fun K3 hK3 => ?_
  simp [lexV]
  repeat refine sg ?_
  refine RVn_call ((by have h := c_lex_Tokens g false s (by omega); rw [hx] at h; exact h)) ?_
  simp [lexV]
  repeat refine sg ?_
  refine hK3 _ ?_
  clear hK3 K3
  refine AT_seq_k fun K4 hK4 => ?_
  refine AT_seq_region fun K5 hK5 => ?_
  simp [lexV]
  repeat refine sg ?_
  refine hK5 _ ?_
  clear hK5 K5
  refine AT_cond (b := true) (g := none) (by simp) (fun hb => ?_) (fun hb => ?_)
  ·
   clear hb
   refine AT_seq_region fun K6 hK6 => ?_
   simp [lexV]
   repeat refine sg ?_
   refine hK6 _ ?_
   clear hK6 K6
   refine AT_ret ?_
   simp [lexV, Tryd.f40]
   all_goals first | (simp [wholeC, hx, enc_ex0]; done) | (simp [wholeC, hx, ← hp, he, errA, enc_ex0]; done)
  ·
   cases hb
 ·
  obtain ⟨hsl, hll, hlt⟩ := lexT_bounds hx
  obtain ⟨p, hp⟩ : ∃ p, p = rdE l := ⟨_, rfl⟩
  have hpl : p.2.l.length ≤ l.length := by rw [hp]; exact (exprC_suf _ _).length_le
  refine AT_seq_region fun K7 hK7 => ?_
  simp [lexV]
  repeat refine sg ?_
  refine RVn_call ((by have h := c_lex_Tokens g false s (by omega); rw [hx] at h; exact h)) ?_
  simp [lexV]
  repeat refine sg ?_
  refine hK7 _ ?_
  clear hK7 K7
  refine AT_seq_k fun K8 hK8 => ?_
  refine AT_seq_region fun K9 hK9 => ?_
  simp [lexV]
  repeat refine sg ?_
  refine hK9 _ ?_
  clear hK9 K9
  refine AT_cond (b := false) (g := none) (by simp) (fun hb => ?_) (fun hb => ?_)
  ·
   cases hb
  ·
   clear hb
   refine AT_skip ?_
   try simp only [nrm, reduceIte, Nat.reduceEqDiff]
   refine hK8 _ ?_
   refine AT_seq_region fun K10 hK10 => ?_
   simp [lexV]
   repeat refine sg ?_
   refine RVn_callN (c_read_New g l) fun b => ?_
   simp [lexV]
   repeat refine sg ?_
   refine hK10 _ ?_
   clear hK10 K10
   refine AT_seq_region fun K11 hK11 => ?_
   simp [lexV]
   repeat refine sg ?_
   refine RVn_callC ((by have h := c_read_Cursor_Expr g b l (fun t ht => by have := hlt t ht; omega) (by omega) (fun s hs => c_name_Is g false s (by omega) hres) (l.length + 1) ⟨l, none⟩ (Nat.lt_succ_self _) (by omega) (List.suffix_refl _); rw [show exprC (l.length + 1) ⟨l, none⟩ = p from hp.symm] at h; exact h)) rfl ?_
   simp [lexV]
   repeat refine sg ?_
   refine hK11 _ ?_
   clear hK11 K11
   refine AT_seq_k fun K12 hK12 => ?_
   refine AT_seq_region fun K13 hK13 => ?_
   simp [lexV]
   repeat refine sg ?_
   refine RVn_callC (c_read_Cursor_End g b p.2 (by omega)) rfl ?_
   simp [lexV]
   repeat refine sg ?_
   refine hK13 _ ?_
   clear hK13 K13
   cases he : (endC p.2).err
   ·
    refine AT_seq_region fun K14 hK14 => ?_
    simp [lexV, errA, he]
    repeat refine sg ?_
    refine hK14 _ ?_
    clear hK14 K14
    refine AT_cond (b := false) (g := none) (by simp [he]) (fun hb => ?_) (fun hb => ?_)
    ·
     cases hb
    ·
     clear hb
     refine AT_skip ?_
     try simp only [nrm, reduceIte, Nat.reduceEqDiff]
     refine hK12 _ ?_
     refine AT_seq_region fun K15 hK15 => ?_
     simp [lexV, he]
     repeat refine sg ?_
     refine hK15 _ ?_
     clear hK15 K15
     refine AT_ret ?_
     simp [lexV, Tryd.f40]
     all_goals first | (simp [wholeC, hx, enc_ex0]; done) | (simp [wholeC, hx, ← hp, he, errA, enc_ex0]; done)
   ·
    refine AT_seq_region fun K16 hK16 => ?_
    simp [lexV, errA, he]
    repeat refine sg ?_
    refine hK16 _ ?_
    clear hK16 K16
    refine AT_cond (b := true) (g := none) (by simp [he]) (fun hb => ?_) (fun hb => ?_)
    ·
     clear hb
     refine AT_seq_region fun K17 hK17 => ?_
     simp [lexV, he]
     repeat refine sg ?_
     refine hK17 _ ?_
     clear hK17 K17
     refine AT_ret ?_
     simp [lexV, Tryd.f40]
     all_goals first | (simp [wholeC, hx, enc_ex0]; done) | (simp [wholeC, hx, ← hp, he, errA, enc_ex0]; done)
    ·
     cases hb

theorem c_read_Expr (s : Str) (hs : s.length ≤ 1000000) (hres : g 0 = some reservedA) : Valid Tryd.prog (G0 g false) 14 [.str s] (.tup [.agg (encE (wholeC 110 ex0 rdE s).1), (wholeC 110 ex0 rdE s).2]) := by

 refine valid_of [] Tryd.func14 rfl (by kernel_rfl) ?_
 refine AT_seq_region fun K1 hK1 => ?_
 simp [Tryd.f14]
 repeat refine sg ?_
 refine hK1 _ ?_
 clear hK1 K1
 refine AT_seq_region fun K2 hK2 => ?_
 simp
 repeat refine sg ?_
 refine RVn_call (c_read_whole_api_Expr g s hs hres) ?_
 simp
 repeat refine sg ?_
 refine hK2 _ ?_
 clear hK2 K2
 refine AT_ret ?_
 simp [Tryd.f14]

end Go.Proofs.YtpjkdaechknogaaDoor
end

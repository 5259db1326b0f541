/- Contracts: the reference's tokens. -/
import Derived.Test.YtpjkdaechknogaaDoorPt
import Derived.Test.YtpjkdaechknogaaDoorPvPb
import Derived.Test.YtpjkdaechknogaaDoorPvY
import Derived.Test.YtpjkdaechknogaaDoorXLxD
import Derived.Test.YtpjkdaechknogaaDoorXNaI
set_option linter.all false
set_option maxHeartbeats 1000000
set_option maxRecDepth 10000
namespace Go.Proofs.YtpjkdaechknogaaDoor
open Go Go.Pv
variable (g : Nat → Option (List AV)) (rnd : Bool)

theorem c_ref03x_Tokens (s : Str) (hs : s.length ≤ 1000000000) : Valid Tryd.prog (G0 g rnd) 18 [.str s] (lexR (lexT s)) := by

 refine valid_of [(3, 47)] Tryd.func18 rfl (by kernel_rfl) ?_
 refine AT_seq_region fun K1 hK1 => ?_
 simp [Tryd.f18]
 repeat ((with_reducible refine ⟨?_, ?_⟩); next => (first | omega | assumption | exact Rows_map _ _ encK_cells _ | exact ⟨Rows_map _ _ encK_cells _, by omega⟩ | exact ⟨Rows_map _ _ encK_cells _, by simp; omega⟩ | (simp at *; omega)))
 refine hK1 _ ?_
 clear hK1 K1
 refine AT_seq_k fun K2 hK2 => ?_
 refine AT_seq_region fun K3 hK3 => ?_
 simp
 repeat ((with_reducible refine ⟨?_, ?_⟩); next => (first | omega | assumption | exact Rows_map _ _ encK_cells _ | exact ⟨Rows_map _ _ encK_cells _, by omega⟩ | exact ⟨Rows_map _ _ encK_cells _, by simp; omega⟩ | (simp at *; omega)))
 refine hK3 _ ?_
 clear hK3 K3
 refine AT_cond (g := none) rfl (fun hb10 => ?_) (fun hb10 => ?_)
 ·
  try simp at hb10
  refine AT_seq_region fun K4 hK4 => ?_
  simp [hb10]
  repeat ((with_reducible refine ⟨?_, ?_⟩); next => (first | omega | assumption | exact Rows_map _ _ encK_cells _ | exact ⟨Rows_map _ _ encK_cells _, by omega⟩ | exact ⟨Rows_map _ _ encK_cells _, by simp; omega⟩ | (simp at *; omega)))
  refine hK4 _ ?_
  clear hK4 K4
  refine AT_ret ?_
  simp [Tryd.f18]
  first
  | (rw [show lexT s = (none, 65536) by unfold lexT; rw [if_neg (by omega)]]; rfl)
  | (obtain ⟨n, rfl⟩ : ∃ m, n = m + 1 := ⟨n - 1, by omega⟩
     rw [lxA_bad hb15 hb25 hpre hb55 (by have := mt sign_iff.2 hb87; omega)] at hc
     rw [hc]; rfl)
  | (obtain ⟨n, rfl⟩ : ∃ m, n = m + 1 := ⟨n - 1, by omega⟩
     rw [lxA_end hk hb15] at hc
     rw [hc]; simp [lexR, encK])
 ·
  try simp at hb10
  refine AT_skip ?_
  try simp only [nrm, reduceIte, Nat.reduceEqDiff]
  refine hK2 _ ?_
  refine AT_seq_region fun K5 hK5 => ?_
  simp [hb10]
  repeat ((with_reducible refine ⟨?_, ?_⟩); next => (first | omega | assumption | exact Rows_map _ _ encK_cells _ | exact ⟨Rows_map _ _ encK_cells _, by omega⟩ | exact ⟨Rows_map _ _ encK_cells _, by simp; omega⟩ | (simp at *; omega)))
  refine hK5 _ ?_
  clear hK5 K5
  refine AT_seq_k fun K6 hK6 => ?_
  refine AT_seq_region fun K7 hK7 => ?_
  simp [hb10]
  repeat ((with_reducible refine ⟨?_, ?_⟩); next => (first | omega | assumption | exact Rows_map _ _ encK_cells _ | exact ⟨Rows_map _ _ encK_cells _, by omega⟩ | exact ⟨Rows_map _ _ encK_cells _, by simp; omega⟩ | (simp at *; omega)))
  refine hK7 _ ?_
  clear hK7 K7
  refine AT_block ?_
  refine AT_loop_q [0,2,3,4] [2] (fun j s1 => ∃ k n out, (k ≤ s.length ∧ out.length ≤ k ∧ s.length - k < n) ∧ lexT s = lxA n out k (s.drop k) ∧ j = s.length - k ∧ s1 = { n := 107, tm := [(0, .v (.str s) none), (2, .lp 2 0), (3, .v (.slice (out.map encK)) (some (3, 47))), (4, .v (.int .i64 (k : Nat)) none)], bx := [(2, [.slice [], .int .i64 0])], tb := [], sh := [], hint := [(3, 47)] }) (s.length) (by first | rfl | simp) ?_ ?_
  ·
   exact ⟨0, s.length + 1, [], by simp [lexT]; omega⟩
  ·
   rintro j s1 ⟨k, n, out, ⟨hk, hol, hn⟩, hc, rfl, rfl⟩ K8 hK8
   refine AT_seq_k fun K9 hK9 => ?_
   refine AT_seq_region fun K10 hK10 => ?_
   simp [hb10]
   repeat ((with_reducible refine ⟨?_, ?_⟩); next => (first | omega | assumption | exact Rows_map _ _ encK_cells _ | exact ⟨Rows_map _ _ encK_cells _, by omega⟩ | exact ⟨Rows_map _ _ encK_cells _, by simp; omega⟩ | (simp at *; omega)))
   refine hK10 _ ?_
   clear hK10 K10
   refine AT_cond (g := none) rfl (fun hb15 => ?_) (fun hb15 => ?_)
   ·
    try simp [hb10] at hb15
    refine AT_skip ?_
    try simp only [nrm, reduceIte, Nat.reduceEqDiff]
    refine hK9 _ ?_
    refine AT_block ?_
    refine AT_seq_region fun K11 hK11 => ?_
    simp [hb10, hb15]
    repeat ((with_reducible refine ⟨?_, ?_⟩); next => (first | omega | assumption | exact Rows_map _ _ encK_cells _ | exact ⟨Rows_map _ _ encK_cells _, by omega⟩ | exact ⟨Rows_map _ _ encK_cells _, by simp; omega⟩ | (simp at *; omega)))
    refine hK11 _ ?_
    clear hK11 K11
    refine AT_seq_region fun K12 hK12 => ?_
    simp [hb10, hb15]
    repeat ((with_reducible refine ⟨?_, ?_⟩); next => (first | omega | assumption | exact Rows_map _ _ encK_cells _ | exact ⟨Rows_map _ _ encK_cells _, by omega⟩ | exact ⟨Rows_map _ _ encK_cells _, by simp; omega⟩ | (simp at *; omega)))
    refine hK12 _ ?_
    clear hK12 K12
    refine AT_seq_region fun K13 hK13 => ?_
    simp [hb10, hb15]
    repeat ((with_reducible refine ⟨?_, ?_⟩); next => (first | omega | assumption | exact Rows_map _ _ encK_cells _ | exact ⟨Rows_map _ _ encK_cells _, by omega⟩ | exact ⟨Rows_map _ _ encK_cells _, by simp; omega⟩ | (simp at *; omega)))
    refine RVn_call (c_ref01x_Class g rnd _) ?_
    simp [hb10, hb15]
    repeat ((with_reducible refine ⟨?_, ?_⟩); next => (first | omega | assumption | exact Rows_map _ _ encK_cells _ | exact ⟨Rows_map _ _ encK_cells _, by omega⟩ | exact ⟨Rows_map _ _ encK_cells _, by simp; omega⟩ | (simp at *; omega)))
    refine hK13 _ ?_
    clear hK13 K13
    refine AT_seq_k fun K14 hK14 => ?_
    refine AT_block ?_
    refine AT_seq_region fun K15 hK15 => ?_
    simp [hb10, hb15]
    repeat ((with_reducible refine ⟨?_, ?_⟩); next => (first | omega | assumption | exact Rows_map _ _ encK_cells _ | exact ⟨Rows_map _ _ encK_cells _, by omega⟩ | exact ⟨Rows_map _ _ encK_cells _, by simp; omega⟩ | (simp at *; omega)))
    refine hK15 _ ?_
    clear hK15 K15
    refine AT_cond (g := none) rfl (fun hb25 => ?_) (fun hb25 => ?_)
    ·
     try simp [hb10, hb15] at hb25
     refine AT_skip ?_
     try simp only [nrm, reduceIte, Nat.reduceEqDiff]
     refine hK14 _ ?_
     refine AT_region_q fun K16 hK16 => ?_
     first
     | (have hkq : q = q := rfl
        obtain ⟨kk, hkk⟩ : ∃ kk, kk = q := ⟨_, rfl⟩)
     | (obtain ⟨kk, hkk⟩ : ∃ kk, kk = k + 1 := ⟨_, rfl⟩)
     simp [hb10, hb15, hb25]
     repeat ((with_reducible refine ⟨?_, ?_⟩); next => (first | omega | assumption | exact Rows_map _ _ encK_cells _ | exact ⟨Rows_map _ _ encK_cells _, by omega⟩ | exact ⟨Rows_map _ _ encK_cells _, by simp; omega⟩ | (simp at *; omega)))
     refine hK16 _ ?_
     clear hK16 K16
     try simp only [nrm, reduceIte, Nat.reduceEqDiff]
     refine hK8 _ (by first | rfl | simp) (s.length - kk) (by omega) ?_
     have hn1 : 0 < n := by omega
     obtain ⟨n, rfl⟩ : ∃ m, n = m + 1 := ⟨n - 1, by omega⟩
     first
     | (rw [lxA_sp hb15 hb25] at hc
        refine ⟨kk, n, _, ⟨?_, ?_, ?_⟩, by rw [hc, hkk], rfl, ?_⟩
        · omega
        · (try simp only [List.length_append, List.length_singleton]); omega
        · omega
        · simp [hkk, encK, List.map_append, drop_take_one, hb15])
     | (rw [lxA_comR hb15 hb25 hpre (by omega), show k + nlN (s.drop k) = q by omega] at hc
        refine ⟨kk, n, _, ⟨?_, ?_, ?_⟩, by rw [hc, hkk], rfl, ?_⟩
        · omega
        · (try simp only [List.length_append, List.length_singleton]); omega
        · omega
        · simp [hkk, encK, List.map_append, drop_take_one, hb15])
     | (rw [lxA_word hb15 hb25 hpre hb55, show wordN (s.drop k) = q - k by omega, show k + (q - k) = q by omega] at hc
        refine ⟨kk, n, _, ⟨?_, ?_, ?_⟩, by rw [hc, hkk], rfl, ?_⟩
        · omega
        · (try simp only [List.length_append, List.length_singleton]); omega
        · omega
        · simp [hkk, encK, List.map_append, List.drop_take])
     | (rw [lxA_sign hb15 hb25 hpre hb55 (sign_iff.1 hb87)] at hc
        refine ⟨kk, n, _, ⟨?_, ?_, ?_⟩, by rw [hc, hkk], rfl, ?_⟩
        · omega
        · (try simp only [List.length_append, List.length_singleton]); omega
        · omega
        · simp [hkk, encK, List.map_append, drop_take_one, hb15])
    ·
     try simp [hb10, hb15] at hb25
     by_cases h47 : (((s[k].toNat : Nat) : Int) == 47) = true
     ·
      by_cases hk1 : (k : Int) + 1 < s.length
      ·
       have hk1n : k + 1 < s.length := by omega
       by_cases h48 : (((s[k + 1].toNat : Nat) : Int) == 47) = true
       ·
        have hpre : Lib.hasPrefix (s.drop k) [47, 47] = true := (pre_iff hb15).2 ⟨UInt8.toNat_inj.1 (Int.ofNat.inj (beq_iff_eq.1 h47)), hk1n, UInt8.toNat_inj.1 (Int.ofNat.inj (beq_iff_eq.1 h48))⟩
        refine AT_seq_region fun K17 hK17 => ?_
        simp [hb10, hb15, hb25, h47, hk1, hk1n, h48]
        repeat ((with_reducible refine ⟨?_, ?_⟩); next => (first | omega | assumption | exact Rows_map _ _ encK_cells _ | exact ⟨Rows_map _ _ encK_cells _, by omega⟩ | exact ⟨Rows_map _ _ encK_cells _, by simp; omega⟩ | (simp at *; omega)))
        refine hK17 _ ?_
        clear hK17 K17
        refine AT_cond (b := true) (g := none) (by simp [hb10, hb15, hb25, h47, hk1, hk1n, h48]) (fun hb => ?_) (fun hb => ?_)
        ·
         clear hb
         refine AT_block ?_
         refine AT_loop_q [0,2,3,4,6] [2] (fun j s1 => ∃ q, (k + 1 ≤ q ∧ q ≤ s.length) ∧ nlN (s.drop k) = q - k + nlN (s.drop q) ∧ j = s.length - q ∧ s1 = { n := 107, tm := [(0, .v (.str s) none), (2, .lp 2 0), (3, .v (.slice (out.map encK)) (some (3, 47))), (4, .v (.int .i64 (k : Nat)) none), (6, .v (.int .i64 (q : Nat)) none)], bx := [(2, [.slice [], .int .i64 0])], tb := [], sh := [], hint := [(3, 47)] }) (s.length - (k+1)) (by first | rfl | simp) ?_ ?_
         ·
          exact ⟨k + 1, by omega, by rw [List.drop_eq_getElem_cons hb15, nlN_cons, if_neg (by intro he; rw [he] at h47; exact absurd h47 (by decide))]; omega, rfl, by simp⟩
         ·
          rintro j s1 ⟨q, ⟨hq3, hq4⟩, hq, rfl, rfl⟩ K18 hK18
          refine AT_seq_k fun K19 hK19 => ?_
          by_cases hq1 : q < s.length
          ·
           by_cases hq2 : ((s[q].toNat : Nat) : Int) = 10
           ·
            have hz : nlN (s.drop q) = 0 := by rw [List.drop_eq_getElem_cons hq1, nlN_cons, if_pos (UInt8.toNat_inj.1 (Int.ofNat.inj hq2))]
            refine AT_seq_region fun K20 hK20 => ?_
            simp [hb10, hb15, hb25, h47, hk1, hk1n, h48, hq1, hq2]
            repeat ((with_reducible refine ⟨?_, ?_⟩); next => (first | omega | assumption | exact Rows_map _ _ encK_cells _ | exact ⟨Rows_map _ _ encK_cells _, by omega⟩ | exact ⟨Rows_map _ _ encK_cells _, by simp; omega⟩ | (simp at *; omega)))
            refine hK20 _ ?_
            clear hK20 K20
            refine AT_cond (b := false) (g := none) (by simp [hb10, hb15, hb25, h47, hk1, hk1n, h48, hq1, hq2]) (fun hb => ?_) (fun hb => ?_)
            ·
             cases hb
            ·
             clear hb
             refine AT_exit ?_
             try simp only [nrm, reduceIte, Nat.reduceEqDiff]
             refine hK14 _ ?_
             refine AT_region_q fun K21 hK21 => ?_
             first
             | (have hkq : q = q := rfl
                obtain ⟨kk, hkk⟩ : ∃ kk, kk = q := ⟨_, rfl⟩)
             | (obtain ⟨kk, hkk⟩ : ∃ kk, kk = k + 1 := ⟨_, rfl⟩)
             simp [hb10, hb15, hb25, h47, hk1, hk1n, h48, hq1, hq2]
             repeat ((with_reducible refine ⟨?_, ?_⟩); next => (first | omega | assumption | exact Rows_map _ _ encK_cells _ | exact ⟨Rows_map _ _ encK_cells _, by omega⟩ | exact ⟨Rows_map _ _ encK_cells _, by simp; omega⟩ | (simp at *; omega)))
             refine hK21 _ ?_
             clear hK21 K21
             try simp only [nrm, reduceIte, Nat.reduceEqDiff]
             refine hK8 _ (by first | rfl | simp) (s.length - kk) (by omega) ?_
             have hn1 : 0 < n := by omega
             obtain ⟨n, rfl⟩ : ∃ m, n = m + 1 := ⟨n - 1, by omega⟩
             first
             | (rw [lxA_sp hb15 hb25] at hc
                refine ⟨kk, n, _, ⟨?_, ?_, ?_⟩, by rw [hc, hkk], rfl, ?_⟩
                · omega
                · (try simp only [List.length_append, List.length_singleton]); omega
                · omega
                · simp [hkk, encK, List.map_append, drop_take_one, hb15])
             | (rw [lxA_comR hb15 hb25 hpre (by omega), show k + nlN (s.drop k) = q by omega] at hc
                refine ⟨kk, n, _, ⟨?_, ?_, ?_⟩, by rw [hc, hkk], rfl, ?_⟩
                · omega
                · (try simp only [List.length_append, List.length_singleton]); omega
                · omega
                · simp [hkk, encK, List.map_append, drop_take_one, hb15])
             | (rw [lxA_word hb15 hb25 hpre hb55, show wordN (s.drop k) = q - k by omega, show k + (q - k) = q by omega] at hc
                refine ⟨kk, n, _, ⟨?_, ?_, ?_⟩, by rw [hc, hkk], rfl, ?_⟩
                · omega
                · (try simp only [List.length_append, List.length_singleton]); omega
                · omega
                · simp [hkk, encK, List.map_append, List.drop_take])
             | (rw [lxA_sign hb15 hb25 hpre hb55 (sign_iff.1 hb87)] at hc
                refine ⟨kk, n, _, ⟨?_, ?_, ?_⟩, by rw [hc, hkk], rfl, ?_⟩
                · omega
                · (try simp only [List.length_append, List.length_singleton]); omega
                · omega
                · simp [hkk, encK, List.map_append, drop_take_one, hb15])
           ·
            have hz : nlN (s.drop q) = 1 + nlN (s.drop (q + 1)) := by rw [List.drop_eq_getElem_cons hq1, nlN_cons, if_neg (fun he => hq2 (by rw [he]; rfl))]
            refine AT_seq_region fun K22 hK22 => ?_
            simp [hb10, hb15, hb25, h47, hk1, hk1n, h48, hq1, hq2]
            repeat ((with_reducible refine ⟨?_, ?_⟩); next => (first | omega | assumption | exact Rows_map _ _ encK_cells _ | exact ⟨Rows_map _ _ encK_cells _, by omega⟩ | exact ⟨Rows_map _ _ encK_cells _, by simp; omega⟩ | (simp at *; omega)))
            refine hK22 _ ?_
            clear hK22 K22
            refine AT_cond (b := true) (g := none) (by simp [hb10, hb15, hb25, h47, hk1, hk1n, h48, hq1, hq2]) (fun hb => ?_) (fun hb => ?_)
            ·
             clear hb
             refine AT_skip ?_
             try simp only [nrm, reduceIte, Nat.reduceEqDiff]
             refine hK19 _ ?_
             refine AT_block ?_
             refine AT_region_q fun K23 hK23 => ?_
             simp [hb10, hb15, hb25, h47, hk1, hk1n, h48, hq1, hq2]
             repeat ((with_reducible refine ⟨?_, ?_⟩); next => (first | omega | assumption | exact Rows_map _ _ encK_cells _ | exact ⟨Rows_map _ _ encK_cells _, by omega⟩ | exact ⟨Rows_map _ _ encK_cells _, by simp; omega⟩ | (simp at *; omega)))
             refine hK23 _ ?_
             clear hK23 K23
             try simp only [nrm, reduceIte, Nat.reduceEqDiff]
             refine hK18 _ (by first | rfl | simp) (s.length - (q+1)) (by omega) ?_
             exact ⟨q + 1, by omega, by rw [hq, hz]; omega, rfl, by simp⟩
            ·
             cases hb
          ·
           have hz : nlN (s.drop q) = 0 := by rw [List.drop_eq_nil_of_le (by omega)]; rfl
           refine AT_seq_region fun K24 hK24 => ?_
           simp [hb10, hb15, hb25, h47, hk1, hk1n, h48, hq1]
           repeat ((with_reducible refine ⟨?_, ?_⟩); next => (first | omega | assumption | exact Rows_map _ _ encK_cells _ | exact ⟨Rows_map _ _ encK_cells _, by omega⟩ | exact ⟨Rows_map _ _ encK_cells _, by simp; omega⟩ | (simp at *; omega)))
           refine hK24 _ ?_
           clear hK24 K24
           refine AT_cond (b := false) (g := none) (by simp [hb10, hb15, hb25, h47, hk1, hk1n, h48, hq1]) (fun hb => ?_) (fun hb => ?_)
           ·
            cases hb
           ·
            clear hb
            refine AT_exit ?_
            try simp only [nrm, reduceIte, Nat.reduceEqDiff]
            refine hK14 _ ?_
            refine AT_region_q fun K25 hK25 => ?_
            first
            | (have hkq : q = q := rfl
               obtain ⟨kk, hkk⟩ : ∃ kk, kk = q := ⟨_, rfl⟩)
            | (obtain ⟨kk, hkk⟩ : ∃ kk, kk = k + 1 := ⟨_, rfl⟩)
            simp [hb10, hb15, hb25, h47, hk1, hk1n, h48, hq1]
            repeat ((with_reducible refine ⟨?_, ?_⟩); next => (first | omega | assumption | exact Rows_map _ _ encK_cells _ | exact ⟨Rows_map _ _ encK_cells _, by omega⟩ | exact ⟨Rows_map _ _ encK_cells _, by simp; omega⟩ | (simp at *; omega)))
            refine hK25 _ ?_
            clear hK25 K25
            try simp only [nrm, reduceIte, Nat.reduceEqDiff]
            refine hK8 _ (by first | rfl | simp) (s.length - kk) (by omega) ?_
            have hn1 : 0 < n := by omega
            obtain ⟨n, rfl⟩ : ∃ m, n = m + 1 := ⟨n - 1, by omega⟩
            first
            | (rw [lxA_sp hb15 hb25] at hc
               refine ⟨kk, n, _, ⟨?_, ?_, ?_⟩, by rw [hc, hkk], rfl, ?_⟩
               · omega
               · (try simp only [List.length_append, List.length_singleton]); omega
               · omega
               · simp [hkk, encK, List.map_append, drop_take_one, hb15])
            | (rw [lxA_comR hb15 hb25 hpre (by omega), show k + nlN (s.drop k) = q by omega] at hc
               refine ⟨kk, n, _, ⟨?_, ?_, ?_⟩, by rw [hc, hkk], rfl, ?_⟩
               · omega
               · (try simp only [List.length_append, List.length_singleton]); omega
               · omega
               · simp [hkk, encK, List.map_append, drop_take_one, hb15])
            | (rw [lxA_word hb15 hb25 hpre hb55, show wordN (s.drop k) = q - k by omega, show k + (q - k) = q by omega] at hc
               refine ⟨kk, n, _, ⟨?_, ?_, ?_⟩, by rw [hc, hkk], rfl, ?_⟩
               · omega
               · (try simp only [List.length_append, List.length_singleton]); omega
               · omega
               · simp [hkk, encK, List.map_append, List.drop_take])
            | (rw [lxA_sign hb15 hb25 hpre hb55 (sign_iff.1 hb87)] at hc
               refine ⟨kk, n, _, ⟨?_, ?_, ?_⟩, by rw [hc, hkk], rfl, ?_⟩
               · omega
               · (try simp only [List.length_append, List.length_singleton]); omega
               · omega
               · simp [hkk, encK, List.map_append, drop_take_one, hb15])
        ·
         cases hb
       ·
        have hpre : Lib.hasPrefix (s.drop k) [47, 47] = false := by
          rw [← Bool.not_eq_true, pre_iff hb15]
          rintro ⟨-, h, he⟩
          exact h48 (by rw [he]; rfl)
        rw [Bool.not_eq_true] at h48
        refine AT_seq_region fun K26 hK26 => ?_
        simp [hb10, hb15, hb25, h47, hk1, hk1n, h48]
        repeat ((with_reducible refine ⟨?_, ?_⟩); next => (first | omega | assumption | exact Rows_map _ _ encK_cells _ | exact ⟨Rows_map _ _ encK_cells _, by omega⟩ | exact ⟨Rows_map _ _ encK_cells _, by simp; omega⟩ | (simp at *; omega)))
        refine hK26 _ ?_
        clear hK26 K26
        refine AT_cond (b := false) (g := none) (by simp [hb10, hb15, hb25, h47, hk1, hk1n, h48]) (fun hb => ?_) (fun hb => ?_)
        ·
         cases hb
        ·
         clear hb
         refine AT_seq_region fun K27 hK27 => ?_
         simp [hb10, hb15, hb25, h47, hk1, hk1n, h48]
         repeat ((with_reducible refine ⟨?_, ?_⟩); next => (first | omega | assumption | exact Rows_map _ _ encK_cells _ | exact ⟨Rows_map _ _ encK_cells _, by omega⟩ | exact ⟨Rows_map _ _ encK_cells _, by simp; omega⟩ | (simp at *; omega)))
         refine hK27 _ ?_
         clear hK27 K27
         refine AT_cond (g := none) rfl (fun hb55 => ?_) (fun hb55 => ?_)
         ·
          try simp [hb10, hb15, hb25, h47, hk1, hk1n, h48] at hb55
          refine AT_seq_k fun K28 hK28 => ?_
          refine AT_block ?_
          refine AT_loop_q [0,2,3,4,6] [2] (fun j s1 => ∃ q, (k + 1 ≤ q ∧ q ≤ s.length) ∧ wordN (s.drop k) = q - k + wordN (s.drop q) ∧ j = s.length - q ∧ s1 = { n := 107, tm := [(0, .v (.str s) none), (2, .lp 2 0), (3, .v (.slice (out.map encK)) (some (3, 47))), (4, .v (.int .i64 (k : Nat)) none), (6, .v (.int .i64 (q : Nat)) none)], bx := [(2, [.slice [], .int .i64 0])], tb := [], sh := [], hint := [(3, 47)] }) (s.length - (k+1)) (by first | rfl | simp) ?_ ?_
          ·
           exact ⟨k + 1, by omega, by rw [List.drop_eq_getElem_cons hb15, wordN_cons, if_pos (by simp [wc, hb55])]; omega, rfl, by simp⟩
          ·
           rintro j s1 ⟨q, ⟨hq4, hq5⟩, hq, rfl, rfl⟩ K29 hK29
           refine AT_seq_k fun K30 hK30 => ?_
           by_cases hq1 : q < s.length
           ·
            by_cases hq2 : 0 < clsI s[q].toNat
            ·
             by_cases hq3 : clsI s[q].toNat < 4
             ·
              have hz : wordN (s.drop q) = 1 + wordN (s.drop (q + 1)) := by
                rw [List.drop_eq_getElem_cons hq1, wordN_cons, if_pos (by simp only [wc, Bool.and_eq_true, decide_eq_true_eq]; omega)]
              refine AT_seq_region fun K31 hK31 => ?_
              simp [hb10, hb15, hb25, h47, hk1, hk1n, h48, hb55, hq1, hq2, hq3]
              repeat ((with_reducible refine ⟨?_, ?_⟩); next => (first | omega | assumption | exact Rows_map _ _ encK_cells _ | exact ⟨Rows_map _ _ encK_cells _, by omega⟩ | exact ⟨Rows_map _ _ encK_cells _, by simp; omega⟩ | (simp at *; omega)))
              try (
               refine RVn_call (c_ref01x_Class g rnd _) ?_
               simp [hb10, hb15, hb25, h47, hk1, hk1n, h48, hb55, hq1, hq2, hq3]
               repeat ((with_reducible refine ⟨?_, ?_⟩); next => (first | omega | assumption | exact Rows_map _ _ encK_cells _ | exact ⟨Rows_map _ _ encK_cells _, by omega⟩ | exact ⟨Rows_map _ _ encK_cells _, by simp; omega⟩ | (simp at *; omega))))
              try (
               refine RVn_call (c_ref01x_Class g rnd _) ?_
               simp [hb10, hb15, hb25, h47, hk1, hk1n, h48, hb55, hq1, hq2, hq3]
               repeat ((with_reducible refine ⟨?_, ?_⟩); next => (first | omega | assumption | exact Rows_map _ _ encK_cells _ | exact ⟨Rows_map _ _ encK_cells _, by omega⟩ | exact ⟨Rows_map _ _ encK_cells _, by simp; omega⟩ | (simp at *; omega))))
              refine hK31 _ ?_
              clear hK31 K31
              refine AT_cond (b := true) (g := none) (by simp [hb10, hb15, hb25, h47, hk1, hk1n, h48, hb55, hq1, hq2, hq3]) (fun hb => ?_) (fun hb => ?_)
              ·
               clear hb
               refine AT_skip ?_
               try simp only [nrm, reduceIte, Nat.reduceEqDiff]
               refine hK30 _ ?_
               refine AT_block ?_
               refine AT_region_q fun K32 hK32 => ?_
               simp [hb10, hb15, hb25, h47, hk1, hk1n, h48, hb55, hq1, hq2, hq3]
               repeat ((with_reducible refine ⟨?_, ?_⟩); next => (first | omega | assumption | exact Rows_map _ _ encK_cells _ | exact ⟨Rows_map _ _ encK_cells _, by omega⟩ | exact ⟨Rows_map _ _ encK_cells _, by simp; omega⟩ | (simp at *; omega)))
               refine hK32 _ ?_
               clear hK32 K32
               try simp only [nrm, reduceIte, Nat.reduceEqDiff]
               refine hK29 _ (by first | rfl | simp) (s.length - (q+1)) (by omega) ?_
               exact ⟨q + 1, by omega, by rw [hq, hz]; omega, rfl, by simp⟩
              ·
               cases hb
             ·
              have hz : wordN (s.drop q) = 0 := by
                rw [List.drop_eq_getElem_cons hq1, wordN_cons, if_neg (by simp only [wc, Bool.and_eq_true, decide_eq_true_eq]; omega)]
              refine AT_seq_region fun K33 hK33 => ?_
              simp [hb10, hb15, hb25, h47, hk1, hk1n, h48, hb55, hq1, hq2, hq3]
              repeat ((with_reducible refine ⟨?_, ?_⟩); next => (first | omega | assumption | exact Rows_map _ _ encK_cells _ | exact ⟨Rows_map _ _ encK_cells _, by omega⟩ | exact ⟨Rows_map _ _ encK_cells _, by simp; omega⟩ | (simp at *; omega)))
              try (
               refine RVn_call (c_ref01x_Class g rnd _) ?_
               simp [hb10, hb15, hb25, h47, hk1, hk1n, h48, hb55, hq1, hq2, hq3]
               repeat ((with_reducible refine ⟨?_, ?_⟩); next => (first | omega | assumption | exact Rows_map _ _ encK_cells _ | exact ⟨Rows_map _ _ encK_cells _, by omega⟩ | exact ⟨Rows_map _ _ encK_cells _, by simp; omega⟩ | (simp at *; omega))))
              try (
               refine RVn_call (c_ref01x_Class g rnd _) ?_
               simp [hb10, hb15, hb25, h47, hk1, hk1n, h48, hb55, hq1, hq2, hq3]
               repeat ((with_reducible refine ⟨?_, ?_⟩); next => (first | omega | assumption | exact Rows_map _ _ encK_cells _ | exact ⟨Rows_map _ _ encK_cells _, by omega⟩ | exact ⟨Rows_map _ _ encK_cells _, by simp; omega⟩ | (simp at *; omega))))
              refine hK33 _ ?_
              clear hK33 K33
              refine AT_cond (b := false) (g := none) (by simp [hb10, hb15, hb25, h47, hk1, hk1n, h48, hb55, hq1, hq2, hq3]) (fun hb => ?_) (fun hb => ?_)
              ·
               cases hb
              ·
               clear hb
               refine AT_exit ?_
               try simp only [nrm, reduceIte, Nat.reduceEqDiff]
               refine hK28 _ ?_
               refine AT_region_q fun K34 hK34 => ?_
               simp [hb10, hb15, hb25, h47, hk1, hk1n, h48, hb55, hq1, hq2, hq3]
               repeat ((with_reducible refine ⟨?_, ?_⟩); next => (first | omega | assumption | exact Rows_map _ _ encK_cells _ | exact ⟨Rows_map _ _ encK_cells _, by omega⟩ | exact ⟨Rows_map _ _ encK_cells _, by simp; omega⟩ | (simp at *; omega)))
               refine hK34 _ ?_
               clear hK34 K34
               try simp only [nrm, reduceIte, Nat.reduceEqDiff]
               refine hK14 _ ?_
               refine AT_region_q fun K35 hK35 => ?_
               first
               | (have hkq : q = q := rfl
                  obtain ⟨kk, hkk⟩ : ∃ kk, kk = q := ⟨_, rfl⟩)
               | (obtain ⟨kk, hkk⟩ : ∃ kk, kk = k + 1 := ⟨_, rfl⟩)
               simp [hb10, hb15, hb25, h47, hk1, hk1n, h48, hb55, hq1, hq2, hq3]
               repeat ((with_reducible refine ⟨?_, ?_⟩); next => (first | omega | assumption | exact Rows_map _ _ encK_cells _ | exact ⟨Rows_map _ _ encK_cells _, by omega⟩ | exact ⟨Rows_map _ _ encK_cells _, by simp; omega⟩ | (simp at *; omega)))
               refine hK35 _ ?_
               clear hK35 K35
               try simp only [nrm, reduceIte, Nat.reduceEqDiff]
               refine hK8 _ (by first | rfl | simp) (s.length - kk) (by omega) ?_
               have hn1 : 0 < n := by omega
               obtain ⟨n, rfl⟩ : ∃ m, n = m + 1 := ⟨n - 1, by omega⟩
               first
               | (rw [lxA_sp hb15 hb25] at hc
                  refine ⟨kk, n, _, ⟨?_, ?_, ?_⟩, by rw [hc, hkk], rfl, ?_⟩
                  · omega
                  · (try simp only [List.length_append, List.length_singleton]); omega
                  · omega
                  · simp [hkk, encK, List.map_append, drop_take_one, hb15])
               | (rw [lxA_comR hb15 hb25 hpre (by omega), show k + nlN (s.drop k) = q by omega] at hc
                  refine ⟨kk, n, _, ⟨?_, ?_, ?_⟩, by rw [hc, hkk], rfl, ?_⟩
                  · omega
                  · (try simp only [List.length_append, List.length_singleton]); omega
                  · omega
                  · simp [hkk, encK, List.map_append, drop_take_one, hb15])
               | (rw [lxA_word hb15 hb25 hpre hb55, show wordN (s.drop k) = q - k by omega, show k + (q - k) = q by omega] at hc
                  refine ⟨kk, n, _, ⟨?_, ?_, ?_⟩, by rw [hc, hkk], rfl, ?_⟩
                  · omega
                  · (try simp only [List.length_append, List.length_singleton]); omega
                  · omega
                  · simp [hkk, encK, List.map_append, List.drop_take])
               | (rw [lxA_sign hb15 hb25 hpre hb55 (sign_iff.1 hb87)] at hc
                  refine ⟨kk, n, _, ⟨?_, ?_, ?_⟩, by rw [hc, hkk], rfl, ?_⟩
                  · omega
                  · (try simp only [List.length_append, List.length_singleton]); omega
                  · omega
                  · simp [hkk, encK, List.map_append, drop_take_one, hb15])
            ·
             have hz : wordN (s.drop q) = 0 := by
               rw [List.drop_eq_getElem_cons hq1, wordN_cons, if_neg (by simp only [wc, Bool.and_eq_true, decide_eq_true_eq]; omega)]
             refine AT_seq_region fun K36 hK36 => ?_
             simp [hb10, hb15, hb25, h47, hk1, hk1n, h48, hb55, hq1, hq2]
             repeat ((with_reducible refine ⟨?_, ?_⟩); next => (first | omega | assumption | exact Rows_map _ _ encK_cells _ | exact ⟨Rows_map _ _ encK_cells _, by omega⟩ | exact ⟨Rows_map _ _ encK_cells _, by simp; omega⟩ | (simp at *; omega)))
             try (
              refine RVn_call (c_ref01x_Class g rnd _) ?_
              simp [hb10, hb15, hb25, h47, hk1, hk1n, h48, hb55, hq1, hq2]
              repeat ((with_reducible refine ⟨?_, ?_⟩); next => (first | omega | assumption | exact Rows_map _ _ encK_cells _ | exact ⟨Rows_map _ _ encK_cells _, by omega⟩ | exact ⟨Rows_map _ _ encK_cells _, by simp; omega⟩ | (simp at *; omega))))
             try (
              refine RVn_call (c_ref01x_Class g rnd _) ?_
              simp [hb10, hb15, hb25, h47, hk1, hk1n, h48, hb55, hq1, hq2]
              repeat ((with_reducible refine ⟨?_, ?_⟩); next => (first | omega | assumption | exact Rows_map _ _ encK_cells _ | exact ⟨Rows_map _ _ encK_cells _, by omega⟩ | exact ⟨Rows_map _ _ encK_cells _, by simp; omega⟩ | (simp at *; omega))))
             refine hK36 _ ?_
             clear hK36 K36
             refine AT_cond (b := false) (g := none) (by simp [hb10, hb15, hb25, h47, hk1, hk1n, h48, hb55, hq1, hq2]) (fun hb => ?_) (fun hb => ?_)
             ·
              cases hb
             ·
              clear hb
              refine AT_exit ?_
              try simp only [nrm, reduceIte, Nat.reduceEqDiff]
              refine hK28 _ ?_
              refine AT_region_q fun K37 hK37 => ?_
              simp [hb10, hb15, hb25, h47, hk1, hk1n, h48, hb55, hq1, hq2]
              repeat ((with_reducible refine ⟨?_, ?_⟩); next => (first | omega | assumption | exact Rows_map _ _ encK_cells _ | exact ⟨Rows_map _ _ encK_cells _, by omega⟩ | exact ⟨Rows_map _ _ encK_cells _, by simp; omega⟩ | (simp at *; omega)))
              refine hK37 _ ?_
              clear hK37 K37
              try simp only [nrm, reduceIte, Nat.reduceEqDiff]
              refine hK14 _ ?_
              refine AT_region_q fun K38 hK38 => ?_
              first
              | (have hkq : q = q := rfl
                 obtain ⟨kk, hkk⟩ : ∃ kk, kk = q := ⟨_, rfl⟩)
              | (obtain ⟨kk, hkk⟩ : ∃ kk, kk = k + 1 := ⟨_, rfl⟩)
              simp [hb10, hb15, hb25, h47, hk1, hk1n, h48, hb55, hq1, hq2]
              repeat ((with_reducible refine ⟨?_, ?_⟩); next => (first | omega | assumption | exact Rows_map _ _ encK_cells _ | exact ⟨Rows_map _ _ encK_cells _, by omega⟩ | exact ⟨Rows_map _ _ encK_cells _, by simp; omega⟩ | (simp at *; omega)))
              refine hK38 _ ?_
              clear hK38 K38
              try simp only [nrm, reduceIte, Nat.reduceEqDiff]
              refine hK8 _ (by first | rfl | simp) (s.length - kk) (by omega) ?_
              have hn1 : 0 < n := by omega
              obtain ⟨n, rfl⟩ : ∃ m, n = m + 1 := ⟨n - 1, by omega⟩
              first
              | (rw [lxA_sp hb15 hb25] at hc
                 refine ⟨kk, n, _, ⟨?_, ?_, ?_⟩, by rw [hc, hkk], rfl, ?_⟩
                 · omega
                 · (try simp only [List.length_append, List.length_singleton]); omega
                 · omega
                 · simp [hkk, encK, List.map_append, drop_take_one, hb15])
              | (rw [lxA_comR hb15 hb25 hpre (by omega), show k + nlN (s.drop k) = q by omega] at hc
                 refine ⟨kk, n, _, ⟨?_, ?_, ?_⟩, by rw [hc, hkk], rfl, ?_⟩
                 · omega
                 · (try simp only [List.length_append, List.length_singleton]); omega
                 · omega
                 · simp [hkk, encK, List.map_append, drop_take_one, hb15])
              | (rw [lxA_word hb15 hb25 hpre hb55, show wordN (s.drop k) = q - k by omega, show k + (q - k) = q by omega] at hc
                 refine ⟨kk, n, _, ⟨?_, ?_, ?_⟩, by rw [hc, hkk], rfl, ?_⟩
                 · omega
                 · (try simp only [List.length_append, List.length_singleton]); omega
                 · omega
                 · simp [hkk, encK, List.map_append, List.drop_take])
              | (rw [lxA_sign hb15 hb25 hpre hb55 (sign_iff.1 hb87)] at hc
                 refine ⟨kk, n, _, ⟨?_, ?_, ?_⟩, by rw [hc, hkk], rfl, ?_⟩
                 · omega
                 · (try simp only [List.length_append, List.length_singleton]); omega
                 · omega
                 · simp [hkk, encK, List.map_append, drop_take_one, hb15])
           ·
            have hz : wordN (s.drop q) = 0 := by rw [List.drop_eq_nil_of_le (by omega)]; rfl
            refine AT_seq_region fun K39 hK39 => ?_
            simp [hb10, hb15, hb25, h47, hk1, hk1n, h48, hb55, hq1]
            repeat ((with_reducible refine ⟨?_, ?_⟩); next => (first | omega | assumption | exact Rows_map _ _ encK_cells _ | exact ⟨Rows_map _ _ encK_cells _, by omega⟩ | exact ⟨Rows_map _ _ encK_cells _, by simp; omega⟩ | (simp at *; omega)))
            try (
             refine RVn_call (c_ref01x_Class g rnd _) ?_
             simp [hb10, hb15, hb25, h47, hk1, hk1n, h48, hb55, hq1]
             repeat ((with_reducible refine ⟨?_, ?_⟩); next => (first | omega | assumption | exact Rows_map _ _ encK_cells _ | exact ⟨Rows_map _ _ encK_cells _, by omega⟩ | exact ⟨Rows_map _ _ encK_cells _, by simp; omega⟩ | (simp at *; omega))))
            try (
             refine RVn_call (c_ref01x_Class g rnd _) ?_
             simp [hb10, hb15, hb25, h47, hk1, hk1n, h48, hb55, hq1]
             repeat ((with_reducible refine ⟨?_, ?_⟩); next => (first | omega | assumption | exact Rows_map _ _ encK_cells _ | exact ⟨Rows_map _ _ encK_cells _, by omega⟩ | exact ⟨Rows_map _ _ encK_cells _, by simp; omega⟩ | (simp at *; omega))))
            refine hK39 _ ?_
            clear hK39 K39
            refine AT_cond (b := false) (g := none) (by simp [hb10, hb15, hb25, h47, hk1, hk1n, h48, hb55, hq1]) (fun hb => ?_) (fun hb => ?_)
            ·
             cases hb
            ·
             clear hb
             refine AT_exit ?_
             try simp only [nrm, reduceIte, Nat.reduceEqDiff]
             refine hK28 _ ?_
             refine AT_region_q fun K40 hK40 => ?_
             simp [hb10, hb15, hb25, h47, hk1, hk1n, h48, hb55, hq1]
             repeat ((with_reducible refine ⟨?_, ?_⟩); next => (first | omega | assumption | exact Rows_map _ _ encK_cells _ | exact ⟨Rows_map _ _ encK_cells _, by omega⟩ | exact ⟨Rows_map _ _ encK_cells _, by simp; omega⟩ | (simp at *; omega)))
             refine hK40 _ ?_
             clear hK40 K40
             try simp only [nrm, reduceIte, Nat.reduceEqDiff]
             refine hK14 _ ?_
             refine AT_region_q fun K41 hK41 => ?_
             first
             | (have hkq : q = q := rfl
                obtain ⟨kk, hkk⟩ : ∃ kk, kk = q := ⟨_, rfl⟩)
             | (obtain ⟨kk, hkk⟩ : ∃ kk, kk = k + 1 := ⟨_, rfl⟩)
             simp [hb10, hb15, hb25, h47, hk1, hk1n, h48, hb55, hq1]
             repeat ((with_reducible refine ⟨?_, ?_⟩); next => (first | omega | assumption | exact Rows_map _ _ encK_cells _ | exact ⟨Rows_map _ _ encK_cells _, by omega⟩ | exact ⟨Rows_map _ _ encK_cells _, by simp; omega⟩ | (simp at *; omega)))
             refine hK41 _ ?_
             clear hK41 K41
             try simp only [nrm, reduceIte, Nat.reduceEqDiff]
             refine hK8 _ (by first | rfl | simp) (s.length - kk) (by omega) ?_
             have hn1 : 0 < n := by omega
             obtain ⟨n, rfl⟩ : ∃ m, n = m + 1 := ⟨n - 1, by omega⟩
             first
             | (rw [lxA_sp hb15 hb25] at hc
                refine ⟨kk, n, _, ⟨?_, ?_, ?_⟩, by rw [hc, hkk], rfl, ?_⟩
                · omega
                · (try simp only [List.length_append, List.length_singleton]); omega
                · omega
                · simp [hkk, encK, List.map_append, drop_take_one, hb15])
             | (rw [lxA_comR hb15 hb25 hpre (by omega), show k + nlN (s.drop k) = q by omega] at hc
                refine ⟨kk, n, _, ⟨?_, ?_, ?_⟩, by rw [hc, hkk], rfl, ?_⟩
                · omega
                · (try simp only [List.length_append, List.length_singleton]); omega
                · omega
                · simp [hkk, encK, List.map_append, drop_take_one, hb15])
             | (rw [lxA_word hb15 hb25 hpre hb55, show wordN (s.drop k) = q - k by omega, show k + (q - k) = q by omega] at hc
                refine ⟨kk, n, _, ⟨?_, ?_, ?_⟩, by rw [hc, hkk], rfl, ?_⟩
                · omega
                · (try simp only [List.length_append, List.length_singleton]); omega
                · omega
                · simp [hkk, encK, List.map_append, List.drop_take])
             | (rw [lxA_sign hb15 hb25 hpre hb55 (sign_iff.1 hb87)] at hc
                refine ⟨kk, n, _, ⟨?_, ?_, ?_⟩, by rw [hc, hkk], rfl, ?_⟩
                · omega
                · (try simp only [List.length_append, List.length_singleton]); omega
                · omega
                · simp [hkk, encK, List.map_append, drop_take_one, hb15])
         ·
          try simp [hb10, hb15, hb25, h47, hk1, hk1n, h48] at hb55
          refine AT_seq_region fun K42 hK42 => ?_
          simp [hb10, hb15, hb25, h47, hk1, hk1n, h48, hb55]
          repeat ((with_reducible refine ⟨?_, ?_⟩); next => (first | omega | assumption | exact Rows_map _ _ encK_cells _ | exact ⟨Rows_map _ _ encK_cells _, by omega⟩ | exact ⟨Rows_map _ _ encK_cells _, by simp; omega⟩ | (simp at *; omega)))
          refine RVn_call (c_ref03x_sign g rnd _) ?_
          simp [hb10, hb15, hb25, h47, hk1, hk1n, h48, hb55]
          repeat ((with_reducible refine ⟨?_, ?_⟩); next => (first | omega | assumption | exact Rows_map _ _ encK_cells _ | exact ⟨Rows_map _ _ encK_cells _, by omega⟩ | exact ⟨Rows_map _ _ encK_cells _, by simp; omega⟩ | (simp at *; omega)))
          refine hK42 _ ?_
          clear hK42 K42
          refine AT_cond (g := none) rfl (fun hb87 => ?_) (fun hb87 => ?_)
          ·
           try simp [hb10, hb15, hb25, h47, hk1, hk1n, h48, hb55] at hb87
           refine AT_region_q fun K43 hK43 => ?_
           simp [hb10, hb15, hb25, h47, hk1, hk1n, h48, hb55, hb87]
           repeat ((with_reducible refine ⟨?_, ?_⟩); next => (first | omega | assumption | exact Rows_map _ _ encK_cells _ | exact ⟨Rows_map _ _ encK_cells _, by omega⟩ | exact ⟨Rows_map _ _ encK_cells _, by simp; omega⟩ | (simp at *; omega)))
           refine hK43 _ ?_
           clear hK43 K43
           try simp only [nrm, reduceIte, Nat.reduceEqDiff]
           refine hK14 _ ?_
           refine AT_region_q fun K44 hK44 => ?_
           first
           | (have hkq : q = q := rfl
              obtain ⟨kk, hkk⟩ : ∃ kk, kk = q := ⟨_, rfl⟩)
           | (obtain ⟨kk, hkk⟩ : ∃ kk, kk = k + 1 := ⟨_, rfl⟩)
           simp [hb10, hb15, hb25, h47, hk1, hk1n, h48, hb55, hb87]
           repeat ((with_reducible refine ⟨?_, ?_⟩); next => (first | omega | assumption | exact Rows_map _ _ encK_cells _ | exact ⟨Rows_map _ _ encK_cells _, by omega⟩ | exact ⟨Rows_map _ _ encK_cells _, by simp; omega⟩ | (simp at *; omega)))
           refine hK44 _ ?_
           clear hK44 K44
           try simp only [nrm, reduceIte, Nat.reduceEqDiff]
           refine hK8 _ (by first | rfl | simp) (s.length - kk) (by omega) ?_
           have hn1 : 0 < n := by omega
           obtain ⟨n, rfl⟩ : ∃ m, n = m + 1 := ⟨n - 1, by omega⟩
           first
           | (rw [lxA_sp hb15 hb25] at hc
              refine ⟨kk, n, _, ⟨?_, ?_, ?_⟩, by rw [hc, hkk], rfl, ?_⟩
              · omega
              · (try simp only [List.length_append, List.length_singleton]); omega
              · omega
              · simp [hkk, encK, List.map_append, drop_take_one, hb15])
           | (rw [lxA_comR hb15 hb25 hpre (by omega), show k + nlN (s.drop k) = q by omega] at hc
              refine ⟨kk, n, _, ⟨?_, ?_, ?_⟩, by rw [hc, hkk], rfl, ?_⟩
              · omega
              · (try simp only [List.length_append, List.length_singleton]); omega
              · omega
              · simp [hkk, encK, List.map_append, drop_take_one, hb15])
           | (rw [lxA_word hb15 hb25 hpre hb55, show wordN (s.drop k) = q - k by omega, show k + (q - k) = q by omega] at hc
              refine ⟨kk, n, _, ⟨?_, ?_, ?_⟩, by rw [hc, hkk], rfl, ?_⟩
              · omega
              · (try simp only [List.length_append, List.length_singleton]); omega
              · omega
              · simp [hkk, encK, List.map_append, List.drop_take])
           | (rw [lxA_sign hb15 hb25 hpre hb55 (sign_iff.1 hb87)] at hc
              refine ⟨kk, n, _, ⟨?_, ?_, ?_⟩, by rw [hc, hkk], rfl, ?_⟩
              · omega
              · (try simp only [List.length_append, List.length_singleton]); omega
              · omega
              · simp [hkk, encK, List.map_append, drop_take_one, hb15])
          ·
           try simp [hb10, hb15, hb25, h47, hk1, hk1n, h48, hb55] at hb87
           refine AT_seq_region fun K45 hK45 => ?_
           simp [hb10, hb15, hb25, h47, hk1, hk1n, h48, hb55, hb87]
           repeat ((with_reducible refine ⟨?_, ?_⟩); next => (first | omega | assumption | exact Rows_map _ _ encK_cells _ | exact ⟨Rows_map _ _ encK_cells _, by omega⟩ | exact ⟨Rows_map _ _ encK_cells _, by simp; omega⟩ | (simp at *; omega)))
           refine hK45 _ ?_
           clear hK45 K45
           refine AT_ret ?_
           simp [Tryd.f18]
           first
           | (rw [show lexT s = (none, 65536) by unfold lexT; rw [if_neg (by omega)]]; rfl)
           | (obtain ⟨n, rfl⟩ : ∃ m, n = m + 1 := ⟨n - 1, by omega⟩
              rw [lxA_bad hb15 hb25 hpre hb55 (by have := mt sign_iff.2 hb87; omega)] at hc
              rw [hc]; rfl)
           | (obtain ⟨n, rfl⟩ : ∃ m, n = m + 1 := ⟨n - 1, by omega⟩
              rw [lxA_end hk hb15] at hc
              rw [hc]; simp [lexR, encK])
      ·
       have hpre : Lib.hasPrefix (s.drop k) [47, 47] = false := by
         rw [← Bool.not_eq_true, pre_iff hb15]
         rintro ⟨-, h, he⟩
         omega
       refine AT_seq_region fun K46 hK46 => ?_
       simp [hb10, hb15, hb25, h47, hk1]
       repeat ((with_reducible refine ⟨?_, ?_⟩); next => (first | omega | assumption | exact Rows_map _ _ encK_cells _ | exact ⟨Rows_map _ _ encK_cells _, by omega⟩ | exact ⟨Rows_map _ _ encK_cells _, by simp; omega⟩ | (simp at *; omega)))
       refine hK46 _ ?_
       clear hK46 K46
       refine AT_cond (b := false) (g := none) (by simp [hb10, hb15, hb25, h47, hk1]) (fun hb => ?_) (fun hb => ?_)
       ·
        cases hb
       ·
        clear hb
        refine AT_seq_region fun K47 hK47 => ?_
        simp [hb10, hb15, hb25, h47, hk1]
        repeat ((with_reducible refine ⟨?_, ?_⟩); next => (first | omega | assumption | exact Rows_map _ _ encK_cells _ | exact ⟨Rows_map _ _ encK_cells _, by omega⟩ | exact ⟨Rows_map _ _ encK_cells _, by simp; omega⟩ | (simp at *; omega)))
        refine hK47 _ ?_
        clear hK47 K47
        refine AT_cond (g := none) rfl (fun hb55 => ?_) (fun hb55 => ?_)
        ·
         try simp [hb10, hb15, hb25, h47, hk1] at hb55
         refine AT_seq_k fun K48 hK48 => ?_
         refine AT_block ?_
         refine AT_loop_q [0,2,3,4,6] [2] (fun j s1 => ∃ q, (k + 1 ≤ q ∧ q ≤ s.length) ∧ wordN (s.drop k) = q - k + wordN (s.drop q) ∧ j = s.length - q ∧ s1 = { n := 107, tm := [(0, .v (.str s) none), (2, .lp 2 0), (3, .v (.slice (out.map encK)) (some (3, 47))), (4, .v (.int .i64 (k : Nat)) none), (6, .v (.int .i64 (q : Nat)) none)], bx := [(2, [.slice [], .int .i64 0])], tb := [], sh := [], hint := [(3, 47)] }) (s.length - (k+1)) (by first | rfl | simp) ?_ ?_
         ·
          exact ⟨k + 1, by omega, by rw [List.drop_eq_getElem_cons hb15, wordN_cons, if_pos (by simp [wc, hb55])]; omega, rfl, by simp⟩
         ·
          rintro j s1 ⟨q, ⟨hq4, hq5⟩, hq, rfl, rfl⟩ K49 hK49
          refine AT_seq_k fun K50 hK50 => ?_
          by_cases hq1 : q < s.length
          ·
           by_cases hq2 : 0 < clsI s[q].toNat
           ·
            by_cases hq3 : clsI s[q].toNat < 4
            ·
             have hz : wordN (s.drop q) = 1 + wordN (s.drop (q + 1)) := by
               rw [List.drop_eq_getElem_cons hq1, wordN_cons, if_pos (by simp only [wc, Bool.and_eq_true, decide_eq_true_eq]; omega)]
             refine AT_seq_region fun K51 hK51 => ?_
             simp [hb10, hb15, hb25, h47, hk1, hb55, hq1, hq2, hq3]
             repeat ((with_reducible refine ⟨?_, ?_⟩); next => (first | omega | assumption | exact Rows_map _ _ encK_cells _ | exact ⟨Rows_map _ _ encK_cells _, by omega⟩ | exact ⟨Rows_map _ _ encK_cells _, by simp; omega⟩ | (simp at *; omega)))
             try (
              refine RVn_call (c_ref01x_Class g rnd _) ?_
              simp [hb10, hb15, hb25, h47, hk1, hb55, hq1, hq2, hq3]
              repeat ((with_reducible refine ⟨?_, ?_⟩); next => (first | omega | assumption | exact Rows_map _ _ encK_cells _ | exact ⟨Rows_map _ _ encK_cells _, by omega⟩ | exact ⟨Rows_map _ _ encK_cells _, by simp; omega⟩ | (simp at *; omega))))
             try (
              refine RVn_call (c_ref01x_Class g rnd _) ?_
              simp [hb10, hb15, hb25, h47, hk1, hb55, hq1, hq2, hq3]
              repeat ((with_reducible refine ⟨?_, ?_⟩); next => (first | omega | assumption | exact Rows_map _ _ encK_cells _ | exact ⟨Rows_map _ _ encK_cells _, by omega⟩ | exact ⟨Rows_map _ _ encK_cells _, by simp; omega⟩ | (simp at *; omega))))
             refine hK51 _ ?_
             clear hK51 K51
             refine AT_cond (b := true) (g := none) (by simp [hb10, hb15, hb25, h47, hk1, hb55, hq1, hq2, hq3]) (fun hb => ?_) (fun hb => ?_)
             ·
              clear hb
              refine AT_skip ?_
              try simp only [nrm, reduceIte, Nat.reduceEqDiff]
              refine hK50 _ ?_
              refine AT_block ?_
              refine AT_region_q fun K52 hK52 => ?_
              simp [hb10, hb15, hb25, h47, hk1, hb55, hq1, hq2, hq3]
              repeat ((with_reducible refine ⟨?_, ?_⟩); next => (first | omega | assumption | exact Rows_map _ _ encK_cells _ | exact ⟨Rows_map _ _ encK_cells _, by omega⟩ | exact ⟨Rows_map _ _ encK_cells _, by simp; omega⟩ | (simp at *; omega)))
              refine hK52 _ ?_
              clear hK52 K52
              try simp only [nrm, reduceIte, Nat.reduceEqDiff]
              refine hK49 _ (by first | rfl | simp) (s.length - (q+1)) (by omega) ?_
              exact ⟨q + 1, by omega, by rw [hq, hz]; omega, rfl, by simp⟩
             ·
              cases hb
            ·
             have hz : wordN (s.drop q) = 0 := by
               rw [List.drop_eq_getElem_cons hq1, wordN_cons, if_neg (by simp only [wc, Bool.and_eq_true, decide_eq_true_eq]; omega)]
             refine AT_seq_region fun K53 hK53 => ?_
             simp [hb10, hb15, hb25, h47, hk1, hb55, hq1, hq2, hq3]
             repeat ((with_reducible refine ⟨?_, ?_⟩); next => (first | omega | assumption | exact Rows_map _ _ encK_cells _ | exact ⟨Rows_map _ _ encK_cells _, by omega⟩ | exact ⟨Rows_map _ _ encK_cells _, by simp; omega⟩ | (simp at *; omega)))
             try (
              refine RVn_call (c_ref01x_Class g rnd _) ?_
              simp [hb10, hb15, hb25, h47, hk1, hb55, hq1, hq2, hq3]
              repeat ((with_reducible refine ⟨?_, ?_⟩); next => (first | omega | assumption | exact Rows_map _ _ encK_cells _ | exact ⟨Rows_map _ _ encK_cells _, by omega⟩ | exact ⟨Rows_map _ _ encK_cells _, by simp; omega⟩ | (simp at *; omega))))
             try (
              refine RVn_call (c_ref01x_Class g rnd _) ?_
              simp [hb10, hb15, hb25, h47, hk1, hb55, hq1, hq2, hq3]
              repeat ((with_reducible refine ⟨?_, ?_⟩); next => (first | omega | assumption | exact Rows_map _ _ encK_cells _ | exact ⟨Rows_map _ _ encK_cells _, by omega⟩ | exact ⟨Rows_map _ _ encK_cells _, by simp; omega⟩ | (simp at *; omega))))
             refine hK53 _ ?_
             clear hK53 K53
             refine AT_cond (b := false) (g := none) (by simp [hb10, hb15, hb25, h47, hk1, hb55, hq1, hq2, hq3]) (fun hb => ?_) (fun hb => ?_)
             ·
              cases hb
             ·
              clear hb
              refine AT_exit ?_
              try simp only [nrm, reduceIte, Nat.reduceEqDiff]
              refine hK48 _ ?_
              refine AT_region_q fun K54 hK54 => ?_
              simp [hb10, hb15, hb25, h47, hk1, hb55, hq1, hq2, hq3]
              repeat ((with_reducible refine ⟨?_, ?_⟩); next => (first | omega | assumption | exact Rows_map _ _ encK_cells _ | exact ⟨Rows_map _ _ encK_cells _, by omega⟩ | exact ⟨Rows_map _ _ encK_cells _, by simp; omega⟩ | (simp at *; omega)))
              refine hK54 _ ?_
              clear hK54 K54
              try simp only [nrm, reduceIte, Nat.reduceEqDiff]
              refine hK14 _ ?_
              refine AT_region_q fun K55 hK55 => ?_
              first
              | (have hkq : q = q := rfl
                 obtain ⟨kk, hkk⟩ : ∃ kk, kk = q := ⟨_, rfl⟩)
              | (obtain ⟨kk, hkk⟩ : ∃ kk, kk = k + 1 := ⟨_, rfl⟩)
              simp [hb10, hb15, hb25, h47, hk1, hb55, hq1, hq2, hq3]
              repeat ((with_reducible refine ⟨?_, ?_⟩); next => (first | omega | assumption | exact Rows_map _ _ encK_cells _ | exact ⟨Rows_map _ _ encK_cells _, by omega⟩ | exact ⟨Rows_map _ _ encK_cells _, by simp; omega⟩ | (simp at *; omega)))
              refine hK55 _ ?_
              clear hK55 K55
              try simp only [nrm, reduceIte, Nat.reduceEqDiff]
              refine hK8 _ (by first | rfl | simp) (s.length - kk) (by omega) ?_
              have hn1 : 0 < n := by omega
              obtain ⟨n, rfl⟩ : ∃ m, n = m + 1 := ⟨n - 1, by omega⟩
              first
              | (rw [lxA_sp hb15 hb25] at hc
                 refine ⟨kk, n, _, ⟨?_, ?_, ?_⟩, by rw [hc, hkk], rfl, ?_⟩
                 · omega
                 · (try simp only [List.length_append, List.length_singleton]); omega
                 · omega
                 · simp [hkk, encK, List.map_append, drop_take_one, hb15])
              | (rw [lxA_comR hb15 hb25 hpre (by omega), show k + nlN (s.drop k) = q by omega] at hc
                 refine ⟨kk, n, _, ⟨?_, ?_, ?_⟩, by rw [hc, hkk], rfl, ?_⟩
                 · omega
                 · (try simp only [List.length_append, List.length_singleton]); omega
                 · omega
                 · simp [hkk, encK, List.map_append, drop_take_one, hb15])
              | (rw [lxA_word hb15 hb25 hpre hb55, show wordN (s.drop k) = q - k by omega, show k + (q - k) = q by omega] at hc
                 refine ⟨kk, n, _, ⟨?_, ?_, ?_⟩, by rw [hc, hkk], rfl, ?_⟩
                 · omega
                 · (try simp only [List.length_append, List.length_singleton]); omega
                 · omega
                 · simp [hkk, encK, List.map_append, List.drop_take])
              | (rw [lxA_sign hb15 hb25 hpre hb55 (sign_iff.1 hb87)] at hc
                 refine ⟨kk, n, _, ⟨?_, ?_, ?_⟩, by rw [hc, hkk], rfl, ?_⟩
                 · omega
                 · (try simp only [List.length_append, List.length_singleton]); omega
                 · omega
                 · simp [hkk, encK, List.map_append, drop_take_one, hb15])
           ·
            have hz : wordN (s.drop q) = 0 := by
              rw [List.drop_eq_getElem_cons hq1, wordN_cons, if_neg (by simp only [wc, Bool.and_eq_true, decide_eq_true_eq]; omega)]
            refine AT_seq_region fun K56 hK56 => ?_
            simp [hb10, hb15, hb25, h47, hk1, hb55, hq1, hq2]
            repeat ((with_reducible refine ⟨?_, ?_⟩); next => (first | omega | assumption | exact Rows_map _ _ encK_cells _ | exact ⟨Rows_map _ _ encK_cells _, by omega⟩ | exact ⟨Rows_map _ _ encK_cells _, by simp; omega⟩ | (simp at *; omega)))
            try (
             refine RVn_call (c_ref01x_Class g rnd _) ?_
             simp [hb10, hb15, hb25, h47, hk1, hb55, hq1, hq2]
             repeat ((with_reducible refine ⟨?_, ?_⟩); next => (first | omega | assumption | exact Rows_map _ _ encK_cells _ | exact ⟨Rows_map _ _ encK_cells _, by omega⟩ | exact ⟨Rows_map _ _ encK_cells _, by simp; omega⟩ | (simp at *; omega))))
            try (
             refine RVn_call (c_ref01x_Class g rnd _) ?_
             simp [hb10, hb15, hb25, h47, hk1, hb55, hq1, hq2]
             repeat ((with_reducible refine ⟨?_, ?_⟩); next => (first | omega | assumption | exact Rows_map _ _ encK_cells _ | exact ⟨Rows_map _ _ encK_cells _, by omega⟩ | exact ⟨Rows_map _ _ encK_cells _, by simp; omega⟩ | (simp at *; omega))))
            refine hK56 _ ?_
            clear hK56 K56
            refine AT_cond (b := false) (g := none) (by simp [hb10, hb15, hb25, h47, hk1, hb55, hq1, hq2]) (fun hb => ?_) (fun hb => ?_)
            ·
             cases hb
            ·
             clear hb
             refine AT_exit ?_
             try simp only [nrm, reduceIte, Nat.reduceEqDiff]
             refine hK48 _ ?_
             refine AT_region_q fun K57 hK57 => ?_
             simp [hb10, hb15, hb25, h47, hk1, hb55, hq1, hq2]
             repeat ((with_reducible refine ⟨?_, ?_⟩); next => (first | omega | assumption | exact Rows_map _ _ encK_cells _ | exact ⟨Rows_map _ _ encK_cells _, by omega⟩ | exact ⟨Rows_map _ _ encK_cells _, by simp; omega⟩ | (simp at *; omega)))
             refine hK57 _ ?_
             clear hK57 K57
             try simp only [nrm, reduceIte, Nat.reduceEqDiff]
             refine hK14 _ ?_
             refine AT_region_q fun K58 hK58 => ?_
             first
             | (have hkq : q = q := rfl
                obtain ⟨kk, hkk⟩ : ∃ kk, kk = q := ⟨_, rfl⟩)
             | (obtain ⟨kk, hkk⟩ : ∃ kk, kk = k + 1 := ⟨_, rfl⟩)
             simp [hb10, hb15, hb25, h47, hk1, hb55, hq1, hq2]
             repeat ((with_reducible refine ⟨?_, ?_⟩); next => (first | omega | assumption | exact Rows_map _ _ encK_cells _ | exact ⟨Rows_map _ _ encK_cells _, by omega⟩ | exact ⟨Rows_map _ _ encK_cells _, by simp; omega⟩ | (simp at *; omega)))
             refine hK58 _ ?_
             clear hK58 K58
             try simp only [nrm, reduceIte, Nat.reduceEqDiff]
             refine hK8 _ (by first | rfl | simp) (s.length - kk) (by omega) ?_
             have hn1 : 0 < n := by omega
             obtain ⟨n, rfl⟩ : ∃ m, n = m + 1 := ⟨n - 1, by omega⟩
             first
             | (rw [lxA_sp hb15 hb25] at hc
                refine ⟨kk, n, _, ⟨?_, ?_, ?_⟩, by rw [hc, hkk], rfl, ?_⟩
                · omega
                · (try simp only [List.length_append, List.length_singleton]); omega
                · omega
                · simp [hkk, encK, List.map_append, drop_take_one, hb15])
             | (rw [lxA_comR hb15 hb25 hpre (by omega), show k + nlN (s.drop k) = q by omega] at hc
                refine ⟨kk, n, _, ⟨?_, ?_, ?_⟩, by rw [hc, hkk], rfl, ?_⟩
                · omega
                · (try simp only [List.length_append, List.length_singleton]); omega
                · omega
                · simp [hkk, encK, List.map_append, drop_take_one, hb15])
             | (rw [lxA_word hb15 hb25 hpre hb55, show wordN (s.drop k) = q - k by omega, show k + (q - k) = q by omega] at hc
                refine ⟨kk, n, _, ⟨?_, ?_, ?_⟩, by rw [hc, hkk], rfl, ?_⟩
                · omega
                · (try simp only [List.length_append, List.length_singleton]); omega
                · omega
                · simp [hkk, encK, List.map_append, List.drop_take])
             | (rw [lxA_sign hb15 hb25 hpre hb55 (sign_iff.1 hb87)] at hc
                refine ⟨kk, n, _, ⟨?_, ?_, ?_⟩, by rw [hc, hkk], rfl, ?_⟩
                · omega
                · (try simp only [List.length_append, List.length_singleton]); omega
                · omega
                · simp [hkk, encK, List.map_append, drop_take_one, hb15])
          ·
           have hz : wordN (s.drop q) = 0 := by rw [List.drop_eq_nil_of_le (by omega)]; rfl
           refine AT_seq_region fun K59 hK59 => ?_
           simp [hb10, hb15, hb25, h47, hk1, hb55, hq1]
           repeat ((with_reducible refine ⟨?_, ?_⟩); next => (first | omega | assumption | exact Rows_map _ _ encK_cells _ | exact ⟨Rows_map _ _ encK_cells _, by omega⟩ | exact ⟨Rows_map _ _ encK_cells _, by simp; omega⟩ | (simp at *; omega)))
           try (
            refine RVn_call (c_ref01x_Class g rnd _) ?_
            simp [hb10, hb15, hb25, h47, hk1, hb55, hq1]
            repeat ((with_reducible refine ⟨?_, ?_⟩); next => (first | omega | assumption | exact Rows_map _ _ encK_cells _ | exact ⟨Rows_map _ _ encK_cells _, by omega⟩ | exact ⟨Rows_map _ _ encK_cells _, by simp; omega⟩ | (simp at *; omega))))
           try (
            refine RVn_call (c_ref01x_Class g rnd _) ?_
            simp [hb10, hb15, hb25, h47, hk1, hb55, hq1]
            repeat ((with_reducible refine ⟨?_, ?_⟩); next => (first | omega | assumption | exact Rows_map _ _ encK_cells _ | exact ⟨Rows_map _ _ encK_cells _, by omega⟩ | exact ⟨Rows_map _ _ encK_cells _, by simp; omega⟩ | (simp at *; omega))))
           refine hK59 _ ?_
           clear hK59 K59
           refine AT_cond (b := false) (g := none) (by simp [hb10, hb15, hb25, h47, hk1, hb55, hq1]) (fun hb => ?_) (fun hb => ?_)
           ·
            cases hb
           ·
            clear hb
            refine AT_exit ?_
            try simp only [nrm, reduceIte, Nat.reduceEqDiff]
            refine hK48 _ ?_
            refine AT_region_q fun K60 hK60 => ?_
            simp [hb10, hb15, hb25, h47, hk1, hb55, hq1]
            repeat ((with_reducible refine ⟨?_, ?_⟩); next => (first | omega | assumption | exact Rows_map _ _ encK_cells _ | exact ⟨Rows_map _ _ encK_cells _, by omega⟩ | exact ⟨Rows_map _ _ encK_cells _, by simp; omega⟩ | (simp at *; omega)))
            refine hK60 _ ?_
            clear hK60 K60
            try simp only [nrm, reduceIte, Nat.reduceEqDiff]
            refine hK14 _ ?_
            refine AT_region_q fun K61 hK61 => ?_
            first
            | (have hkq : q = q := rfl
               obtain ⟨kk, hkk⟩ : ∃ kk, kk = q := ⟨_, rfl⟩)
            | (obtain ⟨kk, hkk⟩ : ∃ kk, kk = k + 1 := ⟨_, rfl⟩)
            simp [hb10, hb15, hb25, h47, hk1, hb55, hq1]
            repeat ((with_reducible refine ⟨?_, ?_⟩); next => (first | omega | assumption | exact Rows_map _ _ encK_cells _ | exact ⟨Rows_map _ _ encK_cells _, by omega⟩ | exact ⟨Rows_map _ _ encK_cells _, by simp; omega⟩ | (simp at *; omega)))
            refine hK61 _ ?_
            clear hK61 K61
            try simp only [nrm, reduceIte, Nat.reduceEqDiff]
            refine hK8 _ (by first | rfl | simp) (s.length - kk) (by omega) ?_
            have hn1 : 0 < n := by omega
            obtain ⟨n, rfl⟩ : ∃ m, n = m + 1 := ⟨n - 1, by omega⟩
            first
            | (rw [lxA_sp hb15 hb25] at hc
               refine ⟨kk, n, _, ⟨?_, ?_, ?_⟩, by rw [hc, hkk], rfl, ?_⟩
               · omega
               · (try simp only [List.length_append, List.length_singleton]); omega
               · omega
               · simp [hkk, encK, List.map_append, drop_take_one, hb15])
            | (rw [lxA_comR hb15 hb25 hpre (by omega), show k + nlN (s.drop k) = q by omega] at hc
               refine ⟨kk, n, _, ⟨?_, ?_, ?_⟩, by rw [hc, hkk], rfl, ?_⟩
               · omega
               · (try simp only [List.length_append, List.length_singleton]); omega
               · omega
               · simp [hkk, encK, List.map_append, drop_take_one, hb15])
            | (rw [lxA_word hb15 hb25 hpre hb55, show wordN (s.drop k) = q - k by omega, show k + (q - k) = q by omega] at hc
               refine ⟨kk, n, _, ⟨?_, ?_, ?_⟩, by rw [hc, hkk], rfl, ?_⟩
               · omega
               · (try simp only [List.length_append, List.length_singleton]); omega
               · omega
               · simp [hkk, encK, List.map_append, List.drop_take])
            | (rw [lxA_sign hb15 hb25 hpre hb55 (sign_iff.1 hb87)] at hc
               refine ⟨kk, n, _, ⟨?_, ?_, ?_⟩, by rw [hc, hkk], rfl, ?_⟩
               · omega
               · (try simp only [List.length_append, List.length_singleton]); omega
               · omega
               · simp [hkk, encK, List.map_append, drop_take_one, hb15])
        ·
         try simp [hb10, hb15, hb25, h47, hk1] at hb55
         refine AT_seq_region fun K62 hK62 => ?_
         simp [hb10, hb15, hb25, h47, hk1, hb55]
         repeat ((with_reducible refine ⟨?_, ?_⟩); next => (first | omega | assumption | exact Rows_map _ _ encK_cells _ | exact ⟨Rows_map _ _ encK_cells _, by omega⟩ | exact ⟨Rows_map _ _ encK_cells _, by simp; omega⟩ | (simp at *; omega)))
         refine RVn_call (c_ref03x_sign g rnd _) ?_
         simp [hb10, hb15, hb25, h47, hk1, hb55]
         repeat ((with_reducible refine ⟨?_, ?_⟩); next => (first | omega | assumption | exact Rows_map _ _ encK_cells _ | exact ⟨Rows_map _ _ encK_cells _, by omega⟩ | exact ⟨Rows_map _ _ encK_cells _, by simp; omega⟩ | (simp at *; omega)))
         refine hK62 _ ?_
         clear hK62 K62
         refine AT_cond (g := none) rfl (fun hb87 => ?_) (fun hb87 => ?_)
         ·
          try simp [hb10, hb15, hb25, h47, hk1, hb55] at hb87
          refine AT_region_q fun K63 hK63 => ?_
          simp [hb10, hb15, hb25, h47, hk1, hb55, hb87]
          repeat ((with_reducible refine ⟨?_, ?_⟩); next => (first | omega | assumption | exact Rows_map _ _ encK_cells _ | exact ⟨Rows_map _ _ encK_cells _, by omega⟩ | exact ⟨Rows_map _ _ encK_cells _, by simp; omega⟩ | (simp at *; omega)))
          refine hK63 _ ?_
          clear hK63 K63
          try simp only [nrm, reduceIte, Nat.reduceEqDiff]
          refine hK14 _ ?_
          refine AT_region_q fun K64 hK64 => ?_
          first
          | (have hkq : q = q := rfl
             obtain ⟨kk, hkk⟩ : ∃ kk, kk = q := ⟨_, rfl⟩)
          | (obtain ⟨kk, hkk⟩ : ∃ kk, kk = k + 1 := ⟨_, rfl⟩)
          simp [hb10, hb15, hb25, h47, hk1, hb55, hb87]
          repeat ((with_reducible refine ⟨?_, ?_⟩); next => (first | omega | assumption | exact Rows_map _ _ encK_cells _ | exact ⟨Rows_map _ _ encK_cells _, by omega⟩ | exact ⟨Rows_map _ _ encK_cells _, by simp; omega⟩ | (simp at *; omega)))
          refine hK64 _ ?_
          clear hK64 K64
          try simp only [nrm, reduceIte, Nat.reduceEqDiff]
          refine hK8 _ (by first | rfl | simp) (s.length - kk) (by omega) ?_
          have hn1 : 0 < n := by omega
          obtain ⟨n, rfl⟩ : ∃ m, n = m + 1 := ⟨n - 1, by omega⟩
          first
          | (rw [lxA_sp hb15 hb25] at hc
             refine ⟨kk, n, _, ⟨?_, ?_, ?_⟩, by rw [hc, hkk], rfl, ?_⟩
             · omega
             · (try simp only [List.length_append, List.length_singleton]); omega
             · omega
             · simp [hkk, encK, List.map_append, drop_take_one, hb15])
          | (rw [lxA_comR hb15 hb25 hpre (by omega), show k + nlN (s.drop k) = q by omega] at hc
             refine ⟨kk, n, _, ⟨?_, ?_, ?_⟩, by rw [hc, hkk], rfl, ?_⟩
             · omega
             · (try simp only [List.length_append, List.length_singleton]); omega
             · omega
             · simp [hkk, encK, List.map_append, drop_take_one, hb15])
          | (rw [lxA_word hb15 hb25 hpre hb55, show wordN (s.drop k) = q - k by omega, show k + (q - k) = q by omega] at hc
             refine ⟨kk, n, _, ⟨?_, ?_, ?_⟩, by rw [hc, hkk], rfl, ?_⟩
             · omega
             · (try simp only [List.length_append, List.length_singleton]); omega
             · omega
             · simp [hkk, encK, List.map_append, List.drop_take])
          | (rw [lxA_sign hb15 hb25 hpre hb55 (sign_iff.1 hb87)] at hc
             refine ⟨kk, n, _, ⟨?_, ?_, ?_⟩, by rw [hc, hkk], rfl, ?_⟩
             · omega
             · (try simp only [List.length_append, List.length_singleton]); omega
             · omega
             · simp [hkk, encK, List.map_append, drop_take_one, hb15])
         ·
          try simp [hb10, hb15, hb25, h47, hk1, hb55] at hb87
          refine AT_seq_region fun K65 hK65 => ?_
          simp [hb10, hb15, hb25, h47, hk1, hb55, hb87]
          repeat ((with_reducible refine ⟨?_, ?_⟩); next => (first | omega | assumption | exact Rows_map _ _ encK_cells _ | exact ⟨Rows_map _ _ encK_cells _, by omega⟩ | exact ⟨Rows_map _ _ encK_cells _, by simp; omega⟩ | (simp at *; omega)))
          refine hK65 _ ?_
          clear hK65 K65
          refine AT_ret ?_
          simp [Tryd.f18]
          first
          | (rw [show lexT s = (none, 65536) by unfold lexT; rw [if_neg (by omega)]]; rfl)
          | (obtain ⟨n, rfl⟩ : ∃ m, n = m + 1 := ⟨n - 1, by omega⟩
             rw [lxA_bad hb15 hb25 hpre hb55 (by have := mt sign_iff.2 hb87; omega)] at hc
             rw [hc]; rfl)
          | (obtain ⟨n, rfl⟩ : ∃ m, n = m + 1 := ⟨n - 1, by omega⟩
             rw [lxA_end hk hb15] at hc
             rw [hc]; simp [lexR, encK])
     ·
      have hpre : Lib.hasPrefix (s.drop k) [47, 47] = false := by
        rw [← Bool.not_eq_true, pre_iff hb15]
        rintro ⟨he, -⟩
        exact h47 (by rw [he]; rfl)
      rw [Bool.not_eq_true] at h47
      refine AT_seq_region fun K66 hK66 => ?_
      simp [hb10, hb15, hb25, h47]
      repeat ((with_reducible refine ⟨?_, ?_⟩); next => (first | omega | assumption | exact Rows_map _ _ encK_cells _ | exact ⟨Rows_map _ _ encK_cells _, by omega⟩ | exact ⟨Rows_map _ _ encK_cells _, by simp; omega⟩ | (simp at *; omega)))
      refine hK66 _ ?_
      clear hK66 K66
      refine AT_cond (b := false) (g := none) (by simp [hb10, hb15, hb25, h47]) (fun hb => ?_) (fun hb => ?_)
      ·
       cases hb
      ·
       clear hb
       refine AT_seq_region fun K67 hK67 => ?_
       simp [hb10, hb15, hb25, h47]
       repeat ((with_reducible refine ⟨?_, ?_⟩); next => (first | omega | assumption | exact Rows_map _ _ encK_cells _ | exact ⟨Rows_map _ _ encK_cells _, by omega⟩ | exact ⟨Rows_map _ _ encK_cells _, by simp; omega⟩ | (simp at *; omega)))
       refine hK67 _ ?_
       clear hK67 K67
       refine AT_cond (g := none) rfl (fun hb55 => ?_) (fun hb55 => ?_)
       ·
        try simp [hb10, hb15, hb25, h47] at hb55
        refine AT_seq_k fun K68 hK68 => ?_
        refine AT_block ?_
        refine AT_loop_q [0,2,3,4,6] [2] (fun j s1 => ∃ q, (k + 1 ≤ q ∧ q ≤ s.length) ∧ wordN (s.drop k) = q - k + wordN (s.drop q) ∧ j = s.length - q ∧ s1 = { n := 107, tm := [(0, .v (.str s) none), (2, .lp 2 0), (3, .v (.slice (out.map encK)) (some (3, 47))), (4, .v (.int .i64 (k : Nat)) none), (6, .v (.int .i64 (q : Nat)) none)], bx := [(2, [.slice [], .int .i64 0])], tb := [], sh := [], hint := [(3, 47)] }) (s.length - (k+1)) (by first | rfl | simp) ?_ ?_
        ·
         exact ⟨k + 1, by omega, by rw [List.drop_eq_getElem_cons hb15, wordN_cons, if_pos (by simp [wc, hb55])]; omega, rfl, by simp⟩
        ·
         rintro j s1 ⟨q, ⟨hq4, hq5⟩, hq, rfl, rfl⟩ K69 hK69
         refine AT_seq_k fun K70 hK70 => ?_
         by_cases hq1 : q < s.length
         ·
          by_cases hq2 : 0 < clsI s[q].toNat
          ·
           by_cases hq3 : clsI s[q].toNat < 4
           ·
            have hz : wordN (s.drop q) = 1 + wordN (s.drop (q + 1)) := by
              rw [List.drop_eq_getElem_cons hq1, wordN_cons, if_pos (by simp only [wc, Bool.and_eq_true, decide_eq_true_eq]; omega)]
            refine AT_seq_region fun K71 hK71 => ?_
            simp [hb10, hb15, hb25, h47, hb55, hq1, hq2, hq3]
            repeat ((with_reducible refine ⟨?_, ?_⟩); next => (first | omega | assumption | exact Rows_map _ _ encK_cells _ | exact ⟨Rows_map _ _ encK_cells _, by omega⟩ | exact ⟨Rows_map _ _ encK_cells _, by simp; omega⟩ | (simp at *; omega)))
            try (
             refine RVn_call (c_ref01x_Class g rnd _) ?_
             simp [hb10, hb15, hb25, h47, hb55, hq1, hq2, hq3]
             repeat ((with_reducible refine ⟨?_, ?_⟩); next => (first | omega | assumption | exact Rows_map _ _ encK_cells _ | exact ⟨Rows_map _ _ encK_cells _, by omega⟩ | exact ⟨Rows_map _ _ encK_cells _, by simp; omega⟩ | (simp at *; omega))))
            try (
             refine RVn_call (c_ref01x_Class g rnd _) ?_
             simp [hb10, hb15, hb25, h47, hb55, hq1, hq2, hq3]
             repeat ((with_reducible refine ⟨?_, ?_⟩); next => (first | omega | assumption | exact Rows_map _ _ encK_cells _ | exact ⟨Rows_map _ _ encK_cells _, by omega⟩ | exact ⟨Rows_map _ _ encK_cells _, by simp; omega⟩ | (simp at *; omega))))
            refine hK71 _ ?_
            clear hK71 K71
            refine AT_cond (b := true) (g := none) (by simp [hb10, hb15, hb25, h47, hb55, hq1, hq2, hq3]) (fun hb => ?_) (fun hb => ?_)
            ·
             clear hb
             refine AT_skip ?_
             try simp only [nrm, reduceIte, Nat.reduceEqDiff]
             refine hK70 _ ?_
             refine AT_block ?_
             refine AT_region_q fun K72 hK72 => ?_
             simp [hb10, hb15, hb25, h47, hb55, hq1, hq2, hq3]
             repeat ((with_reducible refine ⟨?_, ?_⟩); next => (first | omega | assumption | exact Rows_map _ _ encK_cells _ | exact ⟨Rows_map _ _ encK_cells _, by omega⟩ | exact ⟨Rows_map _ _ encK_cells _, by simp; omega⟩ | (simp at *; omega)))
             refine hK72 _ ?_
             clear hK72 K72
             try simp only [nrm, reduceIte, Nat.reduceEqDiff]
             refine hK69 _ (by first | rfl | simp) (s.length - (q+1)) (by omega) ?_
             exact ⟨q + 1, by omega, by rw [hq, hz]; omega, rfl, by simp⟩
            ·
             cases hb
           ·
            have hz : wordN (s.drop q) = 0 := by
              rw [List.drop_eq_getElem_cons hq1, wordN_cons, if_neg (by simp only [wc, Bool.and_eq_true, decide_eq_true_eq]; omega)]
            refine AT_seq_region fun K73 hK73 => ?_
            simp [hb10, hb15, hb25, h47, hb55, hq1, hq2, hq3]
            repeat ((with_reducible refine ⟨?_, ?_⟩); next => (first | omega | assumption | exact Rows_map _ _ encK_cells _ | exact ⟨Rows_map _ _ encK_cells _, by omega⟩ | exact ⟨Rows_map _ _ encK_cells _, by simp; omega⟩ | (simp at *; omega)))
            try (
             refine RVn_call (c_ref01x_Class g rnd _) ?_
             simp [hb10, hb15, hb25, h47, hb55, hq1, hq2, hq3]
             repeat ((with_reducible refine ⟨?_, ?_⟩); next => (first | omega | assumption | exact Rows_map _ _ encK_cells _ | exact ⟨Rows_map _ _ encK_cells _, by omega⟩ | exact ⟨Rows_map _ _ encK_cells _, by simp; omega⟩ | (simp at *; omega))))
            try (
             refine RVn_call (c_ref01x_Class g rnd _) ?_
             simp [hb10, hb15, hb25, h47, hb55, hq1, hq2, hq3]
             repeat ((with_reducible refine ⟨?_, ?_⟩); next => (first | omega | assumption | exact Rows_map _ _ encK_cells _ | exact ⟨Rows_map _ _ encK_cells _, by omega⟩ | exact ⟨Rows_map _ _ encK_cells _, by simp; omega⟩ | (simp at *; omega))))
            refine hK73 _ ?_
            clear hK73 K73
            refine AT_cond (b := false) (g := none) (by simp [hb10, hb15, hb25, h47, hb55, hq1, hq2, hq3]) (fun hb => ?_) (fun hb => ?_)
            ·
             cases hb
            ·
             clear hb
             refine AT_exit ?_
             try simp only [nrm, reduceIte, Nat.reduceEqDiff]
             refine hK68 _ ?_
             refine AT_region_q fun K74 hK74 => ?_
             simp [hb10, hb15, hb25, h47, hb55, hq1, hq2, hq3]
             repeat ((with_reducible refine ⟨?_, ?_⟩); next => (first | omega | assumption | exact Rows_map _ _ encK_cells _ | exact ⟨Rows_map _ _ encK_cells _, by omega⟩ | exact ⟨Rows_map _ _ encK_cells _, by simp; omega⟩ | (simp at *; omega)))
             refine hK74 _ ?_
             clear hK74 K74
             try simp only [nrm, reduceIte, Nat.reduceEqDiff]
             refine hK14 _ ?_
             refine AT_region_q fun K75 hK75 => ?_
             first
             | (have hkq : q = q := rfl
                obtain ⟨kk, hkk⟩ : ∃ kk, kk = q := ⟨_, rfl⟩)
             | (obtain ⟨kk, hkk⟩ : ∃ kk, kk = k + 1 := ⟨_, rfl⟩)
             simp [hb10, hb15, hb25, h47, hb55, hq1, hq2, hq3]
             repeat ((with_reducible refine ⟨?_, ?_⟩); next => (first | omega | assumption | exact Rows_map _ _ encK_cells _ | exact ⟨Rows_map _ _ encK_cells _, by omega⟩ | exact ⟨Rows_map _ _ encK_cells _, by simp; omega⟩ | (simp at *; omega)))
             refine hK75 _ ?_
             clear hK75 K75
             try simp only [nrm, reduceIte, Nat.reduceEqDiff]
             refine hK8 _ (by first | rfl | simp) (s.length - kk) (by omega) ?_
             have hn1 : 0 < n := by omega
             obtain ⟨n, rfl⟩ : ∃ m, n = m + 1 := ⟨n - 1, by omega⟩
             first
             | (rw [lxA_sp hb15 hb25] at hc
                refine ⟨kk, n, _, ⟨?_, ?_, ?_⟩, by rw [hc, hkk], rfl, ?_⟩
                · omega
                · (try simp only [List.length_append, List.length_singleton]); omega
                · omega
                · simp [hkk, encK, List.map_append, drop_take_one, hb15])
             | (rw [lxA_comR hb15 hb25 hpre (by omega), show k + nlN (s.drop k) = q by omega] at hc
                refine ⟨kk, n, _, ⟨?_, ?_, ?_⟩, by rw [hc, hkk], rfl, ?_⟩
                · omega
                · (try simp only [List.length_append, List.length_singleton]); omega
                · omega
                · simp [hkk, encK, List.map_append, drop_take_one, hb15])
             | (rw [lxA_word hb15 hb25 hpre hb55, show wordN (s.drop k) = q - k by omega, show k + (q - k) = q by omega] at hc
                refine ⟨kk, n, _, ⟨?_, ?_, ?_⟩, by rw [hc, hkk], rfl, ?_⟩
                · omega
                · (try simp only [List.length_append, List.length_singleton]); omega
                · omega
                · simp [hkk, encK, List.map_append, List.drop_take])
             | (rw [lxA_sign hb15 hb25 hpre hb55 (sign_iff.1 hb87)] at hc
                refine ⟨kk, n, _, ⟨?_, ?_, ?_⟩, by rw [hc, hkk], rfl, ?_⟩
                · omega
                · (try simp only [List.length_append, List.length_singleton]); omega
                · omega
                · simp [hkk, encK, List.map_append, drop_take_one, hb15])
          ·
           have hz : wordN (s.drop q) = 0 := by
             rw [List.drop_eq_getElem_cons hq1, wordN_cons, if_neg (by simp only [wc, Bool.and_eq_true, decide_eq_true_eq]; omega)]
           refine AT_seq_region fun K76 hK76 => ?_
           simp [hb10, hb15, hb25, h47, hb55, hq1, hq2]
           repeat ((with_reducible refine ⟨?_, ?_⟩); next => (first | omega | assumption | exact Rows_map _ _ encK_cells _ | exact ⟨Rows_map _ _ encK_cells _, by omega⟩ | exact ⟨Rows_map _ _ encK_cells _, by simp; omega⟩ | (simp at *; omega)))
           try (
            refine RVn_call (c_ref01x_Class g rnd _) ?_
            simp [hb10, hb15, hb25, h47, hb55, hq1, hq2]
            repeat ((with_reducible refine ⟨?_, ?_⟩); next => (first | omega | assumption | exact Rows_map _ _ encK_cells _ | exact ⟨Rows_map _ _ encK_cells _, by omega⟩ | exact ⟨Rows_map _ _ encK_cells _, by simp; omega⟩ | (simp at *; omega))))
           try (
            refine RVn_call (c_ref01x_Class g rnd _) ?_
            simp [hb10, hb15, hb25, h47, hb55, hq1, hq2]
            repeat ((with_reducible refine ⟨?_, ?_⟩); next => (first | omega | assumption | exact Rows_map _ _ encK_cells _ | exact ⟨Rows_map _ _ encK_cells _, by omega⟩ | exact ⟨Rows_map _ _ encK_cells _, by simp; omega⟩ | (simp at *; omega))))
           refine hK76 _ ?_
           clear hK76 K76
           refine AT_cond (b := false) (g := none) (by simp [hb10, hb15, hb25, h47, hb55, hq1, hq2]) (fun hb => ?_) (fun hb => ?_)
           ·
            cases hb
           ·
            clear hb
            refine AT_exit ?_
            try simp only [nrm, reduceIte, Nat.reduceEqDiff]
            refine hK68 _ ?_
            refine AT_region_q fun K77 hK77 => ?_
            simp [hb10, hb15, hb25, h47, hb55, hq1, hq2]
            repeat ((with_reducible refine ⟨?_, ?_⟩); next => (first | omega | assumption | exact Rows_map _ _ encK_cells _ | exact ⟨Rows_map _ _ encK_cells _, by omega⟩ | exact ⟨Rows_map _ _ encK_cells _, by simp; omega⟩ | (simp at *; omega)))
            refine hK77 _ ?_
            clear hK77 K77
            try simp only [nrm, reduceIte, Nat.reduceEqDiff]
            refine hK14 _ ?_
            refine AT_region_q fun K78 hK78 => ?_
            first
            | (have hkq : q = q := rfl
               obtain ⟨kk, hkk⟩ : ∃ kk, kk = q := ⟨_, rfl⟩)
            | (obtain ⟨kk, hkk⟩ : ∃ kk, kk = k + 1 := ⟨_, rfl⟩)
            simp [hb10, hb15, hb25, h47, hb55, hq1, hq2]
            repeat ((with_reducible refine ⟨?_, ?_⟩); next => (first | omega | assumption | exact Rows_map _ _ encK_cells _ | exact ⟨Rows_map _ _ encK_cells _, by omega⟩ | exact ⟨Rows_map _ _ encK_cells _, by simp; omega⟩ | (simp at *; omega)))
            refine hK78 _ ?_
            clear hK78 K78
            try simp only [nrm, reduceIte, Nat.reduceEqDiff]
            refine hK8 _ (by first | rfl | simp) (s.length - kk) (by omega) ?_
            have hn1 : 0 < n := by omega
            obtain ⟨n, rfl⟩ : ∃ m, n = m + 1 := ⟨n - 1, by omega⟩
            first
            | (rw [lxA_sp hb15 hb25] at hc
               refine ⟨kk, n, _, ⟨?_, ?_, ?_⟩, by rw [hc, hkk], rfl, ?_⟩
               · omega
               · (try simp only [List.length_append, List.length_singleton]); omega
               · omega
               · simp [hkk, encK, List.map_append, drop_take_one, hb15])
            | (rw [lxA_comR hb15 hb25 hpre (by omega), show k + nlN (s.drop k) = q by omega] at hc
               refine ⟨kk, n, _, ⟨?_, ?_, ?_⟩, by rw [hc, hkk], rfl, ?_⟩
               · omega
               · (try simp only [List.length_append, List.length_singleton]); omega
               · omega
               · simp [hkk, encK, List.map_append, drop_take_one, hb15])
            | (rw [lxA_word hb15 hb25 hpre hb55, show wordN (s.drop k) = q - k by omega, show k + (q - k) = q by omega] at hc
               refine ⟨kk, n, _, ⟨?_, ?_, ?_⟩, by rw [hc, hkk], rfl, ?_⟩
               · omega
               · (try simp only [List.length_append, List.length_singleton]); omega
               · omega
               · simp [hkk, encK, List.map_append, List.drop_take])
            | (rw [lxA_sign hb15 hb25 hpre hb55 (sign_iff.1 hb87)] at hc
               refine ⟨kk, n, _, ⟨?_, ?_, ?_⟩, by rw [hc, hkk], rfl, ?_⟩
               · omega
               · (try simp only [List.length_append, List.length_singleton]); omega
               · omega
               · simp [hkk, encK, List.map_append, drop_take_one, hb15])
         ·
          have hz : wordN (s.drop q) = 0 := by rw [List.drop_eq_nil_of_le (by omega)]; rfl
          refine AT_seq_region fun K79 hK79 => ?_
          simp [hb10, hb15, hb25, h47, hb55, hq1]
          repeat ((with_reducible refine ⟨?_, ?_⟩); next => (first | omega | assumption | exact Rows_map _ _ encK_cells _ | exact ⟨Rows_map _ _ encK_cells _, by omega⟩ | exact ⟨Rows_map _ _ encK_cells _, by simp; omega⟩ | (simp at *; omega)))
          try (
           refine RVn_call (c_ref01x_Class g rnd _) ?_
           simp [hb10, hb15, hb25, h47, hb55, hq1]
           repeat ((with_reducible refine ⟨?_, ?_⟩); next => (first | omega | assumption | exact Rows_map _ _ encK_cells _ | exact ⟨Rows_map _ _ encK_cells _, by omega⟩ | exact ⟨Rows_map _ _ encK_cells _, by simp; omega⟩ | (simp at *; omega))))
          try (
           refine RVn_call (c_ref01x_Class g rnd _) ?_
           simp [hb10, hb15, hb25, h47, hb55, hq1]
           repeat ((with_reducible refine ⟨?_, ?_⟩); next => (first | omega | assumption | exact Rows_map _ _ encK_cells _ | exact ⟨Rows_map _ _ encK_cells _, by omega⟩ | exact ⟨Rows_map _ _ encK_cells _, by simp; omega⟩ | (simp at *; omega))))
          refine hK79 _ ?_
          clear hK79 K79
          refine AT_cond (b := false) (g := none) (by simp [hb10, hb15, hb25, h47, hb55, hq1]) (fun hb => ?_) (fun hb => ?_)
          ·
           cases hb
          ·
           clear hb
           refine AT_exit ?_
           try simp only [nrm, reduceIte, Nat.reduceEqDiff]
           refine hK68 _ ?_
           refine AT_region_q fun K80 hK80 => ?_
           simp [hb10, hb15, hb25, h47, hb55, hq1]
           repeat ((with_reducible refine ⟨?_, ?_⟩); next => (first | omega | assumption | exact Rows_map _ _ encK_cells _ | exact ⟨Rows_map _ _ encK_cells _, by omega⟩ | exact ⟨Rows_map _ _ encK_cells _, by simp; omega⟩ | (simp at *; omega)))
           refine hK80 _ ?_
           clear hK80 K80
           try simp only [nrm, reduceIte, Nat.reduceEqDiff]
           refine hK14 _ ?_
           refine AT_region_q fun K81 hK81 => ?_
           first
           | (have hkq : q = q := rfl
              obtain ⟨kk, hkk⟩ : ∃ kk, kk = q := ⟨_, rfl⟩)
           | (obtain ⟨kk, hkk⟩ : ∃ kk, kk = k + 1 := ⟨_, rfl⟩)
           simp [hb10, hb15, hb25, h47, hb55, hq1]
           repeat ((with_reducible refine ⟨?_, ?_⟩); next => (first | omega | assumption | exact Rows_map _ _ encK_cells _ | exact ⟨Rows_map _ _ encK_cells _, by omega⟩ | exact ⟨Rows_map _ _ encK_cells _, by simp; omega⟩ | (simp at *; omega)))
           refine hK81 _ ?_
           clear hK81 K81
           try simp only [nrm, reduceIte, Nat.reduceEqDiff]
           refine hK8 _ (by first | rfl | simp) (s.length - kk) (by omega) ?_
           have hn1 : 0 < n := by omega
           obtain ⟨n, rfl⟩ : ∃ m, n = m + 1 := ⟨n - 1, by omega⟩
           first
           | (rw [lxA_sp hb15 hb25] at hc
              refine ⟨kk, n, _, ⟨?_, ?_, ?_⟩, by rw [hc, hkk], rfl, ?_⟩
              · omega
              · (try simp only [List.length_append, List.length_singleton]); omega
              · omega
              · simp [hkk, encK, List.map_append, drop_take_one, hb15])
           | (rw [lxA_comR hb15 hb25 hpre (by omega), show k + nlN (s.drop k) = q by omega] at hc
              refine ⟨kk, n, _, ⟨?_, ?_, ?_⟩, by rw [hc, hkk], rfl, ?_⟩
              · omega
              · (try simp only [List.length_append, List.length_singleton]); omega
              · omega
              · simp [hkk, encK, List.map_append, drop_take_one, hb15])
           | (rw [lxA_word hb15 hb25 hpre hb55, show wordN (s.drop k) = q - k by omega, show k + (q - k) = q by omega] at hc
              refine ⟨kk, n, _, ⟨?_, ?_, ?_⟩, by rw [hc, hkk], rfl, ?_⟩
              · omega
              · (try simp only [List.length_append, List.length_singleton]); omega
              · omega
              · simp [hkk, encK, List.map_append, List.drop_take])
           | (rw [lxA_sign hb15 hb25 hpre hb55 (sign_iff.1 hb87)] at hc
              refine ⟨kk, n, _, ⟨?_, ?_, ?_⟩, by rw [hc, hkk], rfl, ?_⟩
              · omega
              · (try simp only [List.length_append, List.length_singleton]); omega
              · omega
              · simp [hkk, encK, List.map_append, drop_take_one, hb15])
       ·
        try simp [hb10, hb15, hb25, h47] at hb55
        refine AT_seq_region fun K82 hK82 => ?_
        simp [hb10, hb15, hb25, h47, hb55]
        repeat ((with_reducible refine ⟨?_, ?_⟩); next => (first | omega | assumption | exact Rows_map _ _ encK_cells _ | exact ⟨Rows_map _ _ encK_cells _, by omega⟩ | exact ⟨Rows_map _ _ encK_cells _, by simp; omega⟩ | (simp at *; omega)))
        refine RVn_call (c_ref03x_sign g rnd _) ?_
        simp [hb10, hb15, hb25, h47, hb55]
        repeat ((with_reducible refine ⟨?_, ?_⟩); next => (first | omega | assumption | exact Rows_map _ _ encK_cells _ | exact ⟨Rows_map _ _ encK_cells _, by omega⟩ | exact ⟨Rows_map _ _ encK_cells _, by simp; omega⟩ | (simp at *; omega)))
        refine hK82 _ ?_
        clear hK82 K82
        refine AT_cond (g := none) rfl (fun hb87 => ?_) (fun hb87 => ?_)
        ·
         try simp [hb10, hb15, hb25, h47, hb55] at hb87
         refine AT_region_q fun K83 hK83 => ?_
         simp [hb10, hb15, hb25, h47, hb55, hb87]
         repeat ((with_reducible refine ⟨?_, ?_⟩); next => (first | omega | assumption | exact Rows_map _ _ encK_cells _ | exact ⟨Rows_map _ _ encK_cells _, by omega⟩ | exact ⟨Rows_map _ _ encK_cells _, by simp; omega⟩ | (simp at *; omega)))
         refine hK83 _ ?_
         clear hK83 K83
         try simp only [nrm, reduceIte, Nat.reduceEqDiff]
         refine hK14 _ ?_
         refine AT_region_q fun K84 hK84 => ?_
         first
         | (have hkq : q = q := rfl
            obtain ⟨kk, hkk⟩ : ∃ kk, kk = q := ⟨_, rfl⟩)
         | (obtain ⟨kk, hkk⟩ : ∃ kk, kk = k + 1 := ⟨_, rfl⟩)
         simp [hb10, hb15, hb25, h47, hb55, hb87]
         repeat ((with_reducible refine ⟨?_, ?_⟩); next => (first | omega | assumption | exact Rows_map _ _ encK_cells _ | exact ⟨Rows_map _ _ encK_cells _, by omega⟩ | exact ⟨Rows_map _ _ encK_cells _, by simp; omega⟩ | (simp at *; omega)))
         refine hK84 _ ?_
         clear hK84 K84
         try simp only [nrm, reduceIte, Nat.reduceEqDiff]
         refine hK8 _ (by first | rfl | simp) (s.length - kk) (by omega) ?_
         have hn1 : 0 < n := by omega
         obtain ⟨n, rfl⟩ : ∃ m, n = m + 1 := ⟨n - 1, by omega⟩
         first
         | (rw [lxA_sp hb15 hb25] at hc
            refine ⟨kk, n, _, ⟨?_, ?_, ?_⟩, by rw [hc, hkk], rfl, ?_⟩
            · omega
            · (try simp only [List.length_append, List.length_singleton]); omega
            · omega
            · simp [hkk, encK, List.map_append, drop_take_one, hb15])
         | (rw [lxA_comR hb15 hb25 hpre (by omega), show k + nlN (s.drop k) = q by omega] at hc
            refine ⟨kk, n, _, ⟨?_, ?_, ?_⟩, by rw [hc, hkk], rfl, ?_⟩
            · omega
            · (try simp only [List.length_append, List.length_singleton]); omega
            · omega
            · simp [hkk, encK, List.map_append, drop_take_one, hb15])
         | (rw [lxA_word hb15 hb25 hpre hb55, show wordN (s.drop k) = q - k by omega, show k + (q - k) = q by omega] at hc
            refine ⟨kk, n, _, ⟨?_, ?_, ?_⟩, by rw [hc, hkk], rfl, ?_⟩
            · omega
            · (try simp only [List.length_append, List.length_singleton]); omega
            · omega
            · simp [hkk, encK, List.map_append, List.drop_take])
         | (rw [lxA_sign hb15 hb25 hpre hb55 (sign_iff.1 hb87)] at hc
            refine ⟨kk, n, _, ⟨?_, ?_, ?_⟩, by rw [hc, hkk], rfl, ?_⟩
            · omega
            · (try simp only [List.length_append, List.length_singleton]); omega
            · omega
            · simp [hkk, encK, List.map_append, drop_take_one, hb15])
        ·
         try simp [hb10, hb15, hb25, h47, hb55] at hb87
         refine AT_seq_region fun K85 hK85 => ?_
         simp [hb10, hb15, hb25, h47, hb55, hb87]
         repeat ((with_reducible refine ⟨?_, ?_⟩); next => (first | omega | assumption | exact Rows_map _ _ encK_cells _ | exact ⟨Rows_map _ _ encK_cells _, by omega⟩ | exact ⟨Rows_map _ _ encK_cells _, by simp; omega⟩ | (simp at *; omega)))
         refine hK85 _ ?_
         clear hK85 K85
         refine AT_ret ?_
         simp [Tryd.f18]
         first
         | (rw [show lexT s = (none, 65536) by unfold lexT; rw [if_neg (by omega)]]; rfl)
         | (obtain ⟨n, rfl⟩ : ∃ m, n = m + 1 := ⟨n - 1, by omega⟩
            rw [lxA_bad hb15 hb25 hpre hb55 (by have := mt sign_iff.2 hb87; omega)] at hc
            rw [hc]; rfl)
         | (obtain ⟨n, rfl⟩ : ∃ m, n = m + 1 := ⟨n - 1, by omega⟩
            rw [lxA_end hk hb15] at hc
            rw [hc]; simp [lexR, encK])
   ·
    try simp [hb10] at hb15
    refine AT_exit ?_
    try simp only [nrm, reduceIte, Nat.reduceEqDiff]
    refine hK6 _ ?_
    refine AT_seq_region fun K86 hK86 => ?_
    simp [hb10, hb15]
    repeat ((with_reducible refine ⟨?_, ?_⟩); next => (first | omega | assumption | exact Rows_map _ _ encK_cells _ | exact ⟨Rows_map _ _ encK_cells _, by omega⟩ | exact ⟨Rows_map _ _ encK_cells _, by simp; omega⟩ | (simp at *; omega)))
    refine hK86 _ ?_
    clear hK86 K86
    refine AT_ret ?_
    simp [Tryd.f18]
    first
    | (rw [show lexT s = (none, 65536) by unfold lexT; rw [if_neg (by omega)]]; rfl)
    | (obtain ⟨n, rfl⟩ : ∃ m, n = m + 1 := ⟨n - 1, by omega⟩
       rw [lxA_bad hb15 hb25 hpre hb55 (by have := mt sign_iff.2 hb87; omega)] at hc
       rw [hc]; rfl)
    | (obtain ⟨n, rfl⟩ : ∃ m, n = m + 1 := ⟨n - 1, by omega⟩
       rw [lxA_end hk hb15] at hc
       rw [hc]; simp [lexR, encK])

end Go.Proofs.YtpjkdaechknogaaDoor

import Derived.Test.YtepbmjchhcmcoaaGreatDoorPt
import Derived.Test.YtepbmjchhcmcoaaGreatDoorPvPb
import Derived.Test.YtepbmjchhcmcoaaGreatDoorPvY
import Derived.Test.YtepbmjchhcmcoaaGreatDoorXLxD
import Derived.Test.YtepbmjchhcmcoaaGreatDoorXNaA
import Derived.Test.YtepbmjchhcmcoaaGreatDoorPvRc
section
/- Contracts: the reference's tokens. -/
set_option linter.all false
set_option maxHeartbeats 1000000
set_option maxRecDepth 10000
namespace Go.Proofs.YtepbmjchhcmcoaaGreatDoor
open Go Go.Pv
variable (g : Nat → Option (List AV)) (rnd : Bool)

theorem c_ref03x_Tokens (s : Str) (hs : s.length ≤ 1000000000) : Valid Tryz.prog (G0 g rnd) 67 [.str s] (lexR (lexT s)) := by

 refine valid_of [(3, 121)] Tryz.func67 rfl (by kernel_rfl) ?_
 refine sr fun Z z => ?_
 simp [Tryz.f67]
 refine z _ ?_
 clear z Z
 refine AT_seq_k fun K1 hK1 => ?_
 refine sr fun Z z => ?_
 simp
 repeat ((with_reducible refine ⟨?_, ?_⟩); next => (first | omega | assumption | exact Rows_map _ _ encK_cells _ | exact ⟨Rows_map _ _ encK_cells _, by omega⟩ | exact ⟨Rows_map _ _ encK_cells _, by simp; omega⟩ | (simp at *; omega)))
 refine z _ ?_
 clear z Z
 refine AT_cond (g := none) rfl (fun hb10 => ?_) (fun hb10 => ?_)
 simp at hb10
 refine sr fun Z z => ?_
 simp [hb10]
 repeat ((with_reducible refine ⟨?_, ?_⟩); next => (first | omega | assumption | exact Rows_map _ _ encK_cells _ | exact ⟨Rows_map _ _ encK_cells _, by omega⟩ | exact ⟨Rows_map _ _ encK_cells _, by simp; omega⟩ | (simp at *; omega)))
 refine z _ ?_
 clear z Z
 refine AT_ret ?_
 simp [Tryz.f67]
 (rw [show lexT s = (none, 65536) by unfold lexT; rw [if_neg (by omega)]]; rfl)
 simp at hb10
 refine AT_skip ?_
 refine hK1 _ ?_
 refine sr fun Z z => ?_
 simp [hb10]
 refine z _ ?_
 clear z Z
 refine AT_seq_k fun K2 hK2 => ?_
 refine sr fun Z z => ?_
 simp [hb10]
 refine z _ ?_
 clear z Z
 refine AT_block ?_
 refine AT_loop_q [0,2,3,4] [2] (fun j s1 => ∃ k n out, (k ≤ s.length ∧ out.length ≤ k ∧ s.length - k < n) ∧ lexT s = lxA n out k (s.drop k) ∧ j = s.length - k ∧ s1 = { n := 107, tm := [(0, .v (.str s) none), (2, .lp 2 0), (3, .v (.slice (out.map encK)) (some (3, 121))), (4, .v (.int .i64 (k : Nat)) none)], bx := [(2, [.slice [], .int .i64 0])], tb := [], sh := [], hint := [(3, 121)] }) (s.length) (by first | rfl | simp) ?_ ?_
 exact ⟨0, s.length + 1, [], by simp [lexT]; omega⟩
 rintro j s1 ⟨k, n, out, ⟨hk, hol, hn⟩, hc, rfl, rfl⟩ K3 hK3
 refine AT_seq_k fun K4 hK4 => ?_
 refine sr fun Z z => ?_
 simp [hb10]
 repeat ((with_reducible refine ⟨?_, ?_⟩); next => (first | omega | assumption | exact Rows_map _ _ encK_cells _ | exact ⟨Rows_map _ _ encK_cells _, by omega⟩ | exact ⟨Rows_map _ _ encK_cells _, by simp; omega⟩ | (simp at *; omega)))
 refine z _ ?_
 clear z Z
 refine AT_cond (g := none) rfl (fun hb15 => ?_) (fun hb15 => ?_)
 simp [hb10] at hb15
 refine AT_skip ?_
 refine hK4 _ ?_
 refine AT_block ?_
 refine sr fun Z z => ?_
 simp [hb10, hb15]
 repeat ((with_reducible refine ⟨?_, ?_⟩); next => (first | omega | assumption | exact Rows_map _ _ encK_cells _ | exact ⟨Rows_map _ _ encK_cells _, by omega⟩ | exact ⟨Rows_map _ _ encK_cells _, by simp; omega⟩ | (simp at *; omega)))
 refine z _ ?_
 clear z Z
 refine sr fun Z z => ?_
 simp [hb10, hb15]
 repeat ((with_reducible refine ⟨?_, ?_⟩); next => (first | omega | assumption | exact Rows_map _ _ encK_cells _ | exact ⟨Rows_map _ _ encK_cells _, by omega⟩ | exact ⟨Rows_map _ _ encK_cells _, by simp; omega⟩ | (simp at *; omega)))
 refine z _ ?_
 clear z Z
 refine sr fun Z z => ?_
 simp [hb10, hb15]
 repeat ((with_reducible refine ⟨?_, ?_⟩); next => (first | omega | assumption | exact Rows_map _ _ encK_cells _ | exact ⟨Rows_map _ _ encK_cells _, by omega⟩ | exact ⟨Rows_map _ _ encK_cells _, by simp; omega⟩ | (simp at *; omega)))
 refine RVn_call (c_ref01x_Class g rnd _) ?_
 simp [hb10, hb15]
 repeat ((with_reducible refine ⟨?_, ?_⟩); next => (first | omega | assumption | exact Rows_map _ _ encK_cells _ | exact ⟨Rows_map _ _ encK_cells _, by omega⟩ | exact ⟨Rows_map _ _ encK_cells _, by simp; omega⟩ | (simp at *; omega)))
 refine z _ ?_
 clear z Z
 refine AT_seq_k fun K5 hK5 => ?_
 refine AT_block ?_
 refine sr fun Z z => ?_
 simp [hb10, hb15]
 repeat ((with_reducible refine ⟨?_, ?_⟩); next => (first | omega | assumption | exact Rows_map _ _ encK_cells _ | exact ⟨Rows_map _ _ encK_cells _, by omega⟩ | exact ⟨Rows_map _ _ encK_cells _, by simp; omega⟩ | (simp at *; omega)))
 refine z _ ?_
 clear z Z
 refine AT_cond (g := none) rfl (fun hb25 => ?_) (fun hb25 => ?_)
 simp [hb10, hb15] at hb25
 refine AT_skip ?_
 refine hK5 _ ?_
 refine AT_region_q fun Z z => ?_
 (obtain ⟨kk, hkk⟩ : ∃ kk, kk = k + 1 := ⟨_, rfl⟩)
 simp [hb10, hb15, hb25]
 refine z _ ?_
 clear z Z
 refine hK3 _ (by first | rfl | simp) (s.length - kk) (by omega) ?_
 have hn1 : 0 < n := by omega
 obtain ⟨n, rfl⟩ : ∃ m, n = m + 1 := ⟨n - 1, by omega⟩
 (rw [lxA_sp hb15 hb25] at hc
  refine ⟨kk, n, _, ⟨?_, ?_, ?_⟩, by rw [hc, hkk], rfl, ?_⟩
  · omega
  · (try simp only [List.length_append, List.length_singleton]); omega
  · omega
  · simp [hkk, encK, List.map_append, drop_take_one, hb15])
 simp [hb10, hb15] at hb25
 by_cases h47 : (((s[k].toNat : Nat) : Int) == 47) = true
 by_cases hk1 : (k : Int) + 1 < s.length
 have hk1n : k + 1 < s.length := by omega
 by_cases h48 : (((s[k + 1].toNat : Nat) : Int) == 47) = true
 have hpre : Lib.hasPrefix (s.drop k) [47, 47] = true := (pre_iff hb15).2 ⟨UInt8.toNat_inj.1 (Int.ofNat.inj (beq_iff_eq.1 h47)), hk1n, UInt8.toNat_inj.1 (Int.ofNat.inj (beq_iff_eq.1 h48))⟩
 refine sr fun Z z => ?_
 simp [hb10, hb15, hb25, h47, hk1, hk1n, h48]
 repeat ((with_reducible refine ⟨?_, ?_⟩); next => (first | omega | assumption | exact Rows_map _ _ encK_cells _ | exact ⟨Rows_map _ _ encK_cells _, by omega⟩ | exact ⟨Rows_map _ _ encK_cells _, by simp; omega⟩ | (simp at *; omega)))
 refine z _ ?_
 clear z Z
 refine cT (by simp [hb10, hb15, hb25, h47, hk1, hk1n, h48]) ?_
 refine AT_block ?_
 refine AT_loop_q [0,2,3,4,6] [2] (fun j s1 => ∃ q, (k + 1 ≤ q ∧ q ≤ s.length) ∧ nlN (s.drop k) = q - k + nlN (s.drop q) ∧ j = s.length - q ∧ s1 = { n := 107, tm := [(0, .v (.str s) none), (2, .lp 2 0), (3, .v (.slice (out.map encK)) (some (3, 121))), (4, .v (.int .i64 (k : Nat)) none), (6, .v (.int .i64 (q : Nat)) none)], bx := [(2, [.slice [], .int .i64 0])], tb := [], sh := [], hint := [(3, 121)] }) (s.length - (k+1)) (by first | rfl | simp) ?_ ?_
 exact ⟨k + 1, by omega, by rw [List.drop_eq_getElem_cons hb15, nlN_cons, if_neg (by intro he; rw [he] at h47; exact absurd h47 (by decide))]; omega, rfl, by simp⟩
 rintro j s1 ⟨q, ⟨hq3, hq4⟩, hq, rfl, rfl⟩ K6 hK6
 refine AT_seq_k fun K7 hK7 => ?_
 by_cases hq1 : q < s.length
 by_cases hq2 : ((s[q].toNat : Nat) : Int) = 10
 have hz : nlN (s.drop q) = 0 := by rw [List.drop_eq_getElem_cons hq1, nlN_cons, if_pos (UInt8.toNat_inj.1 (Int.ofNat.inj hq2))]
 refine sr fun Z z => ?_
 simp [hb10, hb15, hb25, h47, hk1, hk1n, h48, hq1, hq2]
 repeat ((with_reducible refine ⟨?_, ?_⟩); next => (first | omega | assumption | exact Rows_map _ _ encK_cells _ | exact ⟨Rows_map _ _ encK_cells _, by omega⟩ | exact ⟨Rows_map _ _ encK_cells _, by simp; omega⟩ | (simp at *; omega)))
 refine z _ ?_
 clear z Z
 refine cF (by simp [hb10, hb15, hb25, h47, hk1, hk1n, h48, hq1, hq2]) ?_
 refine AT_exit ?_
 refine hK5 _ ?_
 refine AT_region_q fun Z z => ?_
 (have hkq : q = q := rfl
  obtain ⟨kk, hkk⟩ : ∃ kk, kk = q := ⟨_, rfl⟩)
 simp [hb10, hb15, hb25, h47, hk1, hk1n, h48, hq1, hq2]
 refine z _ ?_
 clear z Z
 refine hK3 _ (by first | rfl | simp) (s.length - kk) (by omega) ?_
 have hn1 : 0 < n := by omega
 obtain ⟨n, rfl⟩ : ∃ m, n = m + 1 := ⟨n - 1, by omega⟩
 (rw [lxA_comR hb15 hb25 hpre (by omega), show k + nlN (s.drop k) = q by omega] at hc
  refine ⟨kk, n, _, ⟨?_, ?_, ?_⟩, by rw [hc, hkk], rfl, ?_⟩
  · omega
  · (try simp only [List.length_append, List.length_singleton]); omega
  · omega
  · simp [hkk, encK, List.map_append, drop_take_one, hb15])
 have hz : nlN (s.drop q) = 1 + nlN (s.drop (q + 1)) := by rw [List.drop_eq_getElem_cons hq1, nlN_cons, if_neg (fun he => hq2 (by rw [he]; rfl))]
 refine sr fun Z z => ?_
 simp [hb10, hb15, hb25, h47, hk1, hk1n, h48, hq1, hq2]
 repeat ((with_reducible refine ⟨?_, ?_⟩); next => (first | omega | assumption | exact Rows_map _ _ encK_cells _ | exact ⟨Rows_map _ _ encK_cells _, by omega⟩ | exact ⟨Rows_map _ _ encK_cells _, by simp; omega⟩ | (simp at *; omega)))
 refine z _ ?_
 clear z Z
 refine cT (by simp [hb10, hb15, hb25, h47, hk1, hk1n, h48, hq1, hq2]) ?_
 refine AT_skip ?_
 refine hK7 _ ?_
 refine AT_block ?_
 refine AT_region_q fun Z z => ?_
 simp [hb10, hb15, hb25, h47, hk1, hk1n, h48, hq1, hq2]
 repeat ((with_reducible refine ⟨?_, ?_⟩); next => (first | omega | assumption | exact Rows_map _ _ encK_cells _ | exact ⟨Rows_map _ _ encK_cells _, by omega⟩ | exact ⟨Rows_map _ _ encK_cells _, by simp; omega⟩ | (simp at *; omega)))
 refine z _ ?_
 clear z Z
 refine hK6 _ (by first | rfl | simp) (s.length - (q+1)) (by omega) ?_
 exact ⟨q + 1, by omega, by rw [hq, hz]; omega, rfl, by simp⟩
 have hz : nlN (s.drop q) = 0 := by rw [List.drop_eq_nil_of_le (by omega)]; rfl
 refine sr fun Z z => ?_
 simp [hb10, hb15, hb25, h47, hk1, hk1n, h48, hq1]
 repeat ((with_reducible refine ⟨?_, ?_⟩); next => (first | omega | assumption | exact Rows_map _ _ encK_cells _ | exact ⟨Rows_map _ _ encK_cells _, by omega⟩ | exact ⟨Rows_map _ _ encK_cells _, by simp; omega⟩ | (simp at *; omega)))
 refine z _ ?_
 clear z Z
 refine cF (by simp [hb10, hb15, hb25, h47, hk1, hk1n, h48, hq1]) ?_
 refine AT_exit ?_
 refine hK5 _ ?_
 refine AT_region_q fun Z z => ?_
 (have hkq : q = q := rfl
  obtain ⟨kk, hkk⟩ : ∃ kk, kk = q := ⟨_, rfl⟩)
 simp [hb10, hb15, hb25, h47, hk1, hk1n, h48, hq1]
 refine z _ ?_
 clear z Z
 refine hK3 _ (by first | rfl | simp) (s.length - kk) (by omega) ?_
 have hn1 : 0 < n := by omega
 obtain ⟨n, rfl⟩ : ∃ m, n = m + 1 := ⟨n - 1, by omega⟩
 (rw [lxA_comR hb15 hb25 hpre (by omega), show k + nlN (s.drop k) = q by omega] at hc
  refine ⟨kk, n, _, ⟨?_, ?_, ?_⟩, by rw [hc, hkk], rfl, ?_⟩
  · omega
  · (try simp only [List.length_append, List.length_singleton]); omega
  · omega
  · simp [hkk, encK, List.map_append, drop_take_one, hb15])
 have hpre : Lib.hasPrefix (s.drop k) [47, 47] = false := by
   rw [← Bool.not_eq_true, pre_iff hb15]
   rintro ⟨-, h, he⟩
   exact h48 (by rw [he]; rfl)
 rw [Bool.not_eq_true] at h48
 refine sr fun Z z => ?_
 simp [hb10, hb15, hb25, h47, hk1, hk1n, h48]
 repeat ((with_reducible refine ⟨?_, ?_⟩); next => (first | omega | assumption | exact Rows_map _ _ encK_cells _ | exact ⟨Rows_map _ _ encK_cells _, by omega⟩ | exact ⟨Rows_map _ _ encK_cells _, by simp; omega⟩ | (simp at *; omega)))
 refine z _ ?_
 clear z Z
 refine cF (by simp [hb10, hb15, hb25, h47, hk1, hk1n, h48]) ?_
 refine sr fun Z z => ?_
 simp [hb10, hb15, hb25, h47, hk1, hk1n, h48]
 repeat ((with_reducible refine ⟨?_, ?_⟩); next => (first | omega | assumption | exact Rows_map _ _ encK_cells _ | exact ⟨Rows_map _ _ encK_cells _, by omega⟩ | exact ⟨Rows_map _ _ encK_cells _, by simp; omega⟩ | (simp at *; omega)))
 refine z _ ?_
 clear z Z
 refine AT_cond (g := none) rfl (fun hb55 => ?_) (fun hb55 => ?_)
 simp [hb10, hb15, hb25, h47, hk1, hk1n, h48] at hb55
 refine AT_seq_k fun K8 hK8 => ?_
 refine AT_block ?_
 refine AT_loop_q [0,2,3,4,6] [2] (fun j s1 => ∃ q, (k + 1 ≤ q ∧ q ≤ s.length) ∧ wordN (s.drop k) = q - k + wordN (s.drop q) ∧ j = s.length - q ∧ s1 = { n := 107, tm := [(0, .v (.str s) none), (2, .lp 2 0), (3, .v (.slice (out.map encK)) (some (3, 121))), (4, .v (.int .i64 (k : Nat)) none), (6, .v (.int .i64 (q : Nat)) none)], bx := [(2, [.slice [], .int .i64 0])], tb := [], sh := [], hint := [(3, 121)] }) (s.length - (k+1)) (by first | rfl | simp) ?_ ?_
 exact ⟨k + 1, by omega, by rw [List.drop_eq_getElem_cons hb15, wordN_cons, if_pos (by simp [wc, hb55])]; omega, rfl, by simp⟩
 rintro j s1 ⟨q, ⟨hq4, hq5⟩, hq, rfl, rfl⟩ K9 hK9
 refine AT_seq_k fun K10 hK10 => ?_
 by_cases hq1 : q < s.length
 by_cases hq2 : 0 < clsI s[q].toNat
 by_cases hq3 : clsI s[q].toNat < 4
 have hz : wordN (s.drop q) = 1 + wordN (s.drop (q + 1)) := by
   rw [List.drop_eq_getElem_cons hq1, wordN_cons, if_pos (by simp only [wc, Bool.and_eq_true, decide_eq_true_eq]; omega)]
 refine sr fun Z z => ?_
 simp [hb10, hb15, hb25, h47, hk1, hk1n, h48, hb55, hq1, hq2, hq3]
 repeat ((with_reducible refine ⟨?_, ?_⟩); next => (first | omega | assumption | exact Rows_map _ _ encK_cells _ | exact ⟨Rows_map _ _ encK_cells _, by omega⟩ | exact ⟨Rows_map _ _ encK_cells _, by simp; omega⟩ | (simp at *; omega)))
 refine RVn_call (c_ref01x_Class g rnd _) ?_
 simp [hb10, hb15, hb25, h47, hk1, hk1n, h48, hb55, hq1, hq2, hq3]
 repeat ((with_reducible refine ⟨?_, ?_⟩); next => (first | omega | assumption | exact Rows_map _ _ encK_cells _ | exact ⟨Rows_map _ _ encK_cells _, by omega⟩ | exact ⟨Rows_map _ _ encK_cells _, by simp; omega⟩ | (simp at *; omega)))
 refine RVn_call (c_ref01x_Class g rnd _) ?_
 simp [hb10, hb15, hb25, h47, hk1, hk1n, h48, hb55, hq1, hq2, hq3]
 repeat ((with_reducible refine ⟨?_, ?_⟩); next => (first | omega | assumption | exact Rows_map _ _ encK_cells _ | exact ⟨Rows_map _ _ encK_cells _, by omega⟩ | exact ⟨Rows_map _ _ encK_cells _, by simp; omega⟩ | (simp at *; omega)))
 refine z _ ?_
 clear z Z
 refine cT (by simp [hb10, hb15, hb25, h47, hk1, hk1n, h48, hb55, hq1, hq2, hq3]) ?_
 refine AT_skip ?_
 refine hK10 _ ?_
 refine AT_block ?_
 refine AT_region_q fun Z z => ?_
 simp [hb10, hb15, hb25, h47, hk1, hk1n, h48, hb55, hq1, hq2, hq3]
 repeat ((with_reducible refine ⟨?_, ?_⟩); next => (first | omega | assumption | exact Rows_map _ _ encK_cells _ | exact ⟨Rows_map _ _ encK_cells _, by omega⟩ | exact ⟨Rows_map _ _ encK_cells _, by simp; omega⟩ | (simp at *; omega)))
 refine z _ ?_
 clear z Z
 refine hK9 _ (by first | rfl | simp) (s.length - (q+1)) (by omega) ?_
 exact ⟨q + 1, by omega, by rw [hq, hz]; omega, rfl, by simp⟩
 have hz : wordN (s.drop q) = 0 := by
   rw [List.drop_eq_getElem_cons hq1, wordN_cons, if_neg (by simp only [wc, Bool.and_eq_true, decide_eq_true_eq]; omega)]
 refine sr fun Z z => ?_
 simp [hb10, hb15, hb25, h47, hk1, hk1n, h48, hb55, hq1, hq2, hq3]
 repeat ((with_reducible refine ⟨?_, ?_⟩); next => (first | omega | assumption | exact Rows_map _ _ encK_cells _ | exact ⟨Rows_map _ _ encK_cells _, by omega⟩ | exact ⟨Rows_map _ _ encK_cells _, by simp; omega⟩ | (simp at *; omega)))
 refine RVn_call (c_ref01x_Class g rnd _) ?_
 simp [hb10, hb15, hb25, h47, hk1, hk1n, h48, hb55, hq1, hq2, hq3]
 repeat ((with_reducible refine ⟨?_, ?_⟩); next => (first | omega | assumption | exact Rows_map _ _ encK_cells _ | exact ⟨Rows_map _ _ encK_cells _, by omega⟩ | exact ⟨Rows_map _ _ encK_cells _, by simp; omega⟩ | (simp at *; omega)))
 refine RVn_call (c_ref01x_Class g rnd _) ?_
 simp [hb10, hb15, hb25, h47, hk1, hk1n, h48, hb55, hq1, hq2, hq3]
 repeat ((with_reducible refine ⟨?_, ?_⟩); next => (first | omega | assumption | exact Rows_map _ _ encK_cells _ | exact ⟨Rows_map _ _ encK_cells _, by omega⟩ | exact ⟨Rows_map _ _ encK_cells _, by simp; omega⟩ | (simp at *; omega)))
 refine z _ ?_
 clear z Z
 refine cF (by simp [hb10, hb15, hb25, h47, hk1, hk1n, h48, hb55, hq1, hq2, hq3]) ?_
 refine AT_exit ?_
 refine hK8 _ ?_
 refine AT_region_q fun Z z => ?_
 simp [hb10, hb15, hb25, h47, hk1, hk1n, h48, hb55, hq1, hq2, hq3]
 repeat ((with_reducible refine ⟨?_, ?_⟩); next => (first | omega | assumption | exact Rows_map _ _ encK_cells _ | exact ⟨Rows_map _ _ encK_cells _, by omega⟩ | exact ⟨Rows_map _ _ encK_cells _, by simp; omega⟩ | (simp at *; omega)))
 refine z _ ?_
 clear z Z
 refine hK5 _ ?_
 refine AT_region_q fun Z z => ?_
 (have hkq : q = q := rfl
  obtain ⟨kk, hkk⟩ : ∃ kk, kk = q := ⟨_, rfl⟩)
 simp [hb10, hb15, hb25, h47, hk1, hk1n, h48, hb55, hq1, hq2, hq3]
 refine z _ ?_
 clear z Z
 refine hK3 _ (by first | rfl | simp) (s.length - kk) (by omega) ?_
 have hn1 : 0 < n := by omega
 obtain ⟨n, rfl⟩ : ∃ m, n = m + 1 := ⟨n - 1, by omega⟩
 (rw [lxA_word hb15 hb25 hpre hb55, show wordN (s.drop k) = q - k by omega, show k + (q - k) = q by omega] at hc
  refine ⟨kk, n, _, ⟨?_, ?_, ?_⟩, by rw [hc, hkk], rfl, ?_⟩
  · omega
  · (try simp only [List.length_append, List.length_singleton]); omega
  · omega
  · simp [hkk, encK, List.map_append, List.drop_take])
 have hz : wordN (s.drop q) = 0 := by
   rw [List.drop_eq_getElem_cons hq1, wordN_cons, if_neg (by simp only [wc, Bool.and_eq_true, decide_eq_true_eq]; omega)]
 refine sr fun Z z => ?_
 simp [hb10, hb15, hb25, h47, hk1, hk1n, h48, hb55, hq1, hq2]
 repeat ((with_reducible refine ⟨?_, ?_⟩); next => (first | omega | assumption | exact Rows_map _ _ encK_cells _ | exact ⟨Rows_map _ _ encK_cells _, by omega⟩ | exact ⟨Rows_map _ _ encK_cells _, by simp; omega⟩ | (simp at *; omega)))
 refine RVn_call (c_ref01x_Class g rnd _) ?_
 simp [hb10, hb15, hb25, h47, hk1, hk1n, h48, hb55, hq1, hq2]
 repeat ((with_reducible refine ⟨?_, ?_⟩); next => (first | omega | assumption | exact Rows_map _ _ encK_cells _ | exact ⟨Rows_map _ _ encK_cells _, by omega⟩ | exact ⟨Rows_map _ _ encK_cells _, by simp; omega⟩ | (simp at *; omega)))
 refine z _ ?_
 clear z Z
 refine cF (by simp [hb10, hb15, hb25, h47, hk1, hk1n, h48, hb55, hq1, hq2]) ?_
 refine AT_exit ?_
 refine hK8 _ ?_
 refine AT_region_q fun Z z => ?_
 simp [hb10, hb15, hb25, h47, hk1, hk1n, h48, hb55, hq1, hq2]
 repeat ((with_reducible refine ⟨?_, ?_⟩); next => (first | omega | assumption | exact Rows_map _ _ encK_cells _ | exact ⟨Rows_map _ _ encK_cells _, by omega⟩ | exact ⟨Rows_map _ _ encK_cells _, by simp; omega⟩ | (simp at *; omega)))
 refine z _ ?_
 clear z Z
 refine hK5 _ ?_
 refine AT_region_q fun Z z => ?_
 (have hkq : q = q := rfl
  obtain ⟨kk, hkk⟩ : ∃ kk, kk = q := ⟨_, rfl⟩)
 simp [hb10, hb15, hb25, h47, hk1, hk1n, h48, hb55, hq1, hq2]
 refine z _ ?_
 clear z Z
 refine hK3 _ (by first | rfl | simp) (s.length - kk) (by omega) ?_
 have hn1 : 0 < n := by omega
 obtain ⟨n, rfl⟩ : ∃ m, n = m + 1 := ⟨n - 1, by omega⟩
 (rw [lxA_word hb15 hb25 hpre hb55, show wordN (s.drop k) = q - k by omega, show k + (q - k) = q by omega] at hc
  refine ⟨kk, n, _, ⟨?_, ?_, ?_⟩, by rw [hc, hkk], rfl, ?_⟩
  · omega
  · (try simp only [List.length_append, List.length_singleton]); omega
  · omega
  · simp [hkk, encK, List.map_append, List.drop_take])
 have hz : wordN (s.drop q) = 0 := by rw [List.drop_eq_nil_of_le (by omega)]; rfl
 refine sr fun Z z => ?_
 simp [hb10, hb15, hb25, h47, hk1, hk1n, h48, hb55, hq1]
 repeat ((with_reducible refine ⟨?_, ?_⟩); next => (first | omega | assumption | exact Rows_map _ _ encK_cells _ | exact ⟨Rows_map _ _ encK_cells _, by omega⟩ | exact ⟨Rows_map _ _ encK_cells _, by simp; omega⟩ | (simp at *; omega)))
 refine z _ ?_
 clear z Z
 refine cF (by simp [hb10, hb15, hb25, h47, hk1, hk1n, h48, hb55, hq1]) ?_
 refine AT_exit ?_
 refine hK8 _ ?_
 refine AT_region_q fun Z z => ?_
 simp [hb10, hb15, hb25, h47, hk1, hk1n, h48, hb55, hq1]
 repeat ((with_reducible refine ⟨?_, ?_⟩); next => (first | omega | assumption | exact Rows_map _ _ encK_cells _ | exact ⟨Rows_map _ _ encK_cells _, by omega⟩ | exact ⟨Rows_map _ _ encK_cells _, by simp; omega⟩ | (simp at *; omega)))
 refine z _ ?_
 clear z Z
 refine hK5 _ ?_
 refine AT_region_q fun Z z => ?_
 (have hkq : q = q := rfl
  obtain ⟨kk, hkk⟩ : ∃ kk, kk = q := ⟨_, rfl⟩)
 simp [hb10, hb15, hb25, h47, hk1, hk1n, h48, hb55, hq1]
 refine z _ ?_
 clear z Z
 refine hK3 _ (by first | rfl | simp) (s.length - kk) (by omega) ?_
 have hn1 : 0 < n := by omega
 obtain ⟨n, rfl⟩ : ∃ m, n = m + 1 := ⟨n - 1, by omega⟩
 (rw [lxA_word hb15 hb25 hpre hb55, show wordN (s.drop k) = q - k by omega, show k + (q - k) = q by omega] at hc
  refine ⟨kk, n, _, ⟨?_, ?_, ?_⟩, by rw [hc, hkk], rfl, ?_⟩
  · omega
  · (try simp only [List.length_append, List.length_singleton]); omega
  · omega
  · simp [hkk, encK, List.map_append, List.drop_take])
 simp [hb10, hb15, hb25, h47, hk1, hk1n, h48] at hb55
 refine sr fun Z z => ?_
 simp [hb10, hb15, hb25, h47, hk1, hk1n, h48, hb55]
 repeat ((with_reducible refine ⟨?_, ?_⟩); next => (first | omega | assumption | exact Rows_map _ _ encK_cells _ | exact ⟨Rows_map _ _ encK_cells _, by omega⟩ | exact ⟨Rows_map _ _ encK_cells _, by simp; omega⟩ | (simp at *; omega)))
 refine RVn_call (c_ref03x_sign g rnd _) ?_
 simp [hb10, hb15, hb25, h47, hk1, hk1n, h48, hb55]
 repeat ((with_reducible refine ⟨?_, ?_⟩); next => (first | omega | assumption | exact Rows_map _ _ encK_cells _ | exact ⟨Rows_map _ _ encK_cells _, by omega⟩ | exact ⟨Rows_map _ _ encK_cells _, by simp; omega⟩ | (simp at *; omega)))
 refine z _ ?_
 clear z Z
 refine AT_cond (g := none) rfl (fun hb87 => ?_) (fun hb87 => ?_)
 simp [hb10, hb15, hb25, h47, hk1, hk1n, h48, hb55] at hb87
 refine AT_region_q fun Z z => ?_
 simp [hb10, hb15, hb25, h47, hk1, hk1n, h48, hb55, hb87]
 repeat ((with_reducible refine ⟨?_, ?_⟩); next => (first | omega | assumption | exact Rows_map _ _ encK_cells _ | exact ⟨Rows_map _ _ encK_cells _, by omega⟩ | exact ⟨Rows_map _ _ encK_cells _, by simp; omega⟩ | (simp at *; omega)))
 refine z _ ?_
 clear z Z
 refine hK5 _ ?_
 refine AT_region_q fun Z z => ?_
 (obtain ⟨kk, hkk⟩ : ∃ kk, kk = k + 1 := ⟨_, rfl⟩)
 simp [hb10, hb15, hb25, h47, hk1, hk1n, h48, hb55, hb87]
 refine z _ ?_
 clear z Z
 refine hK3 _ (by first | rfl | simp) (s.length - kk) (by omega) ?_
 have hn1 : 0 < n := by omega
 obtain ⟨n, rfl⟩ : ∃ m, n = m + 1 := ⟨n - 1, by omega⟩
 (rw [lxA_sign hb15 hb25 hpre hb55 (sign_iff.1 hb87)] at hc
  refine ⟨kk, n, _, ⟨?_, ?_, ?_⟩, by rw [hc, hkk], rfl, ?_⟩
  · omega
  · (try simp only [List.length_append, List.length_singleton]); omega
  · omega
  · simp [hkk, encK, List.map_append, drop_take_one, hb15])
 simp [hb10, hb15, hb25, h47, hk1, hk1n, h48, hb55] at hb87
 refine sr fun Z z => ?_
 simp [hb10, hb15, hb25, h47, hk1, hk1n, h48, hb55, hb87]
 repeat ((with_reducible refine ⟨?_, ?_⟩); next => (first | omega | assumption | exact Rows_map _ _ encK_cells _ | exact ⟨Rows_map _ _ encK_cells _, by omega⟩ | exact ⟨Rows_map _ _ encK_cells _, by simp; omega⟩ | (simp at *; omega)))
 refine z _ ?_
 clear z Z
 refine AT_ret ?_
 simp [Tryz.f67]
 (obtain ⟨n, rfl⟩ : ∃ m, n = m + 1 := ⟨n - 1, by omega⟩
  rw [lxA_bad hb15 hb25 hpre hb55 (by have := mt sign_iff.2 hb87; omega)] at hc
  rw [hc]; rfl)
 have hpre : Lib.hasPrefix (s.drop k) [47, 47] = false := by
   rw [← Bool.not_eq_true, pre_iff hb15]
   rintro ⟨-, h, he⟩
   omega
 refine sr fun Z z => ?_
 simp [hb10, hb15, hb25, h47, hk1]
 repeat ((with_reducible refine ⟨?_, ?_⟩); next => (first | omega | assumption | exact Rows_map _ _ encK_cells _ | exact ⟨Rows_map _ _ encK_cells _, by omega⟩ | exact ⟨Rows_map _ _ encK_cells _, by simp; omega⟩ | (simp at *; omega)))
 refine z _ ?_
 clear z Z
 refine cF (by simp [hb10, hb15, hb25, h47, hk1]) ?_
 refine sr fun Z z => ?_
 simp [hb10, hb15, hb25, h47, hk1]
 repeat ((with_reducible refine ⟨?_, ?_⟩); next => (first | omega | assumption | exact Rows_map _ _ encK_cells _ | exact ⟨Rows_map _ _ encK_cells _, by omega⟩ | exact ⟨Rows_map _ _ encK_cells _, by simp; omega⟩ | (simp at *; omega)))
 refine z _ ?_
 clear z Z
 refine AT_cond (g := none) rfl (fun hb55 => ?_) (fun hb55 => ?_)
 simp [hb10, hb15, hb25, h47, hk1] at hb55
 refine AT_seq_k fun K11 hK11 => ?_
 refine AT_block ?_
 refine AT_loop_q [0,2,3,4,6] [2] (fun j s1 => ∃ q, (k + 1 ≤ q ∧ q ≤ s.length) ∧ wordN (s.drop k) = q - k + wordN (s.drop q) ∧ j = s.length - q ∧ s1 = { n := 107, tm := [(0, .v (.str s) none), (2, .lp 2 0), (3, .v (.slice (out.map encK)) (some (3, 121))), (4, .v (.int .i64 (k : Nat)) none), (6, .v (.int .i64 (q : Nat)) none)], bx := [(2, [.slice [], .int .i64 0])], tb := [], sh := [], hint := [(3, 121)] }) (s.length - (k+1)) (by first | rfl | simp) ?_ ?_
 exact ⟨k + 1, by omega, by rw [List.drop_eq_getElem_cons hb15, wordN_cons, if_pos (by simp [wc, hb55])]; omega, rfl, by simp⟩
 rintro j s1 ⟨q, ⟨hq4, hq5⟩, hq, rfl, rfl⟩ K12 hK12
 refine AT_seq_k fun K13 hK13 => ?_
 by_cases hq1 : q < s.length
 by_cases hq2 : 0 < clsI s[q].toNat
 by_cases hq3 : clsI s[q].toNat < 4
 have hz : wordN (s.drop q) = 1 + wordN (s.drop (q + 1)) := by
   rw [List.drop_eq_getElem_cons hq1, wordN_cons, if_pos (by simp only [wc, Bool.and_eq_true, decide_eq_true_eq]; omega)]
 refine sr fun Z z => ?_
 simp [hb10, hb15, hb25, h47, hk1, hb55, hq1, hq2, hq3]
 repeat ((with_reducible refine ⟨?_, ?_⟩); next => (first | omega | assumption | exact Rows_map _ _ encK_cells _ | exact ⟨Rows_map _ _ encK_cells _, by omega⟩ | exact ⟨Rows_map _ _ encK_cells _, by simp; omega⟩ | (simp at *; omega)))
 refine RVn_call (c_ref01x_Class g rnd _) ?_
 simp [hb10, hb15, hb25, h47, hk1, hb55, hq1, hq2, hq3]
 repeat ((with_reducible refine ⟨?_, ?_⟩); next => (first | omega | assumption | exact Rows_map _ _ encK_cells _ | exact ⟨Rows_map _ _ encK_cells _, by omega⟩ | exact ⟨Rows_map _ _ encK_cells _, by simp; omega⟩ | (simp at *; omega)))
 refine RVn_call (c_ref01x_Class g rnd _) ?_
 simp [hb10, hb15, hb25, h47, hk1, hb55, hq1, hq2, hq3]
 repeat ((with_reducible refine ⟨?_, ?_⟩); next => (first | omega | assumption | exact Rows_map _ _ encK_cells _ | exact ⟨Rows_map _ _ encK_cells _, by omega⟩ | exact ⟨Rows_map _ _ encK_cells _, by simp; omega⟩ | (simp at *; omega)))
 refine z _ ?_
 clear z Z
 refine cT (by simp [hb10, hb15, hb25, h47, hk1, hb55, hq1, hq2, hq3]) ?_
 refine AT_skip ?_
 refine hK13 _ ?_
 refine AT_block ?_
 refine AT_region_q fun Z z => ?_
 simp [hb10, hb15, hb25, h47, hk1, hb55, hq1, hq2, hq3]
 repeat ((with_reducible refine ⟨?_, ?_⟩); next => (first | omega | assumption | exact Rows_map _ _ encK_cells _ | exact ⟨Rows_map _ _ encK_cells _, by omega⟩ | exact ⟨Rows_map _ _ encK_cells _, by simp; omega⟩ | (simp at *; omega)))
 refine z _ ?_
 clear z Z
 refine hK12 _ (by first | rfl | simp) (s.length - (q+1)) (by omega) ?_
 exact ⟨q + 1, by omega, by rw [hq, hz]; omega, rfl, by simp⟩
 have hz : wordN (s.drop q) = 0 := by
   rw [List.drop_eq_getElem_cons hq1, wordN_cons, if_neg (by simp only [wc, Bool.and_eq_true, decide_eq_true_eq]; omega)]
 refine sr fun Z z => ?_
 simp [hb10, hb15, hb25, h47, hk1, hb55, hq1, hq2, hq3]
 repeat ((with_reducible refine ⟨?_, ?_⟩); next => (first | omega | assumption | exact Rows_map _ _ encK_cells _ | exact ⟨Rows_map _ _ encK_cells _, by omega⟩ | exact ⟨Rows_map _ _ encK_cells _, by simp; omega⟩ | (simp at *; omega)))
 refine RVn_call (c_ref01x_Class g rnd _) ?_
 simp [hb10, hb15, hb25, h47, hk1, hb55, hq1, hq2, hq3]
 repeat ((with_reducible refine ⟨?_, ?_⟩); next => (first | omega | assumption | exact Rows_map _ _ encK_cells _ | exact ⟨Rows_map _ _ encK_cells _, by omega⟩ | exact ⟨Rows_map _ _ encK_cells _, by simp; omega⟩ | (simp at *; omega)))
 refine RVn_call (c_ref01x_Class g rnd _) ?_
 simp [hb10, hb15, hb25, h47, hk1, hb55, hq1, hq2, hq3]
 repeat ((with_reducible refine ⟨?_, ?_⟩); next => (first | omega | assumption | exact Rows_map _ _ encK_cells _ | exact ⟨Rows_map _ _ encK_cells _, by omega⟩ | exact ⟨Rows_map _ _ encK_cells _, by simp; omega⟩ | (simp at *; omega)))
 refine z _ ?_
 clear z Z
 refine cF (by simp [hb10, hb15, hb25, h47, hk1, hb55, hq1, hq2, hq3]) ?_
 refine AT_exit ?_
 refine hK11 _ ?_
 refine AT_region_q fun Z z => ?_
 simp [hb10, hb15, hb25, h47, hk1, hb55, hq1, hq2, hq3]
 repeat ((with_reducible refine ⟨?_, ?_⟩); next => (first | omega | assumption | exact Rows_map _ _ encK_cells _ | exact ⟨Rows_map _ _ encK_cells _, by omega⟩ | exact ⟨Rows_map _ _ encK_cells _, by simp; omega⟩ | (simp at *; omega)))
 refine z _ ?_
 clear z Z
 refine hK5 _ ?_
 refine AT_region_q fun Z z => ?_
 (have hkq : q = q := rfl
  obtain ⟨kk, hkk⟩ : ∃ kk, kk = q := ⟨_, rfl⟩)
 simp [hb10, hb15, hb25, h47, hk1, hb55, hq1, hq2, hq3]
 refine z _ ?_
 clear z Z
 refine hK3 _ (by first | rfl | simp) (s.length - kk) (by omega) ?_
 have hn1 : 0 < n := by omega
 obtain ⟨n, rfl⟩ : ∃ m, n = m + 1 := ⟨n - 1, by omega⟩
 (rw [lxA_word hb15 hb25 hpre hb55, show wordN (s.drop k) = q - k by omega, show k + (q - k) = q by omega] at hc
  refine ⟨kk, n, _, ⟨?_, ?_, ?_⟩, by rw [hc, hkk], rfl, ?_⟩
  · omega
  · (try simp only [List.length_append, List.length_singleton]); omega
  · omega
  · simp [hkk, encK, List.map_append, List.drop_take])
 have hz : wordN (s.drop q) = 0 := by
   rw [List.drop_eq_getElem_cons hq1, wordN_cons, if_neg (by simp only [wc, Bool.and_eq_true, decide_eq_true_eq]; omega)]
 refine sr fun Z z => ?_
 simp [hb10, hb15, hb25, h47, hk1, hb55, hq1, hq2]
 repeat ((with_reducible refine ⟨?_, ?_⟩); next => (first | omega | assumption | exact Rows_map _ _ encK_cells _ | exact ⟨Rows_map _ _ encK_cells _, by omega⟩ | exact ⟨Rows_map _ _ encK_cells _, by simp; omega⟩ | (simp at *; omega)))
 refine RVn_call (c_ref01x_Class g rnd _) ?_
 simp [hb10, hb15, hb25, h47, hk1, hb55, hq1, hq2]
 repeat ((with_reducible refine ⟨?_, ?_⟩); next => (first | omega | assumption | exact Rows_map _ _ encK_cells _ | exact ⟨Rows_map _ _ encK_cells _, by omega⟩ | exact ⟨Rows_map _ _ encK_cells _, by simp; omega⟩ | (simp at *; omega)))
 refine z _ ?_
 clear z Z
 refine cF (by simp [hb10, hb15, hb25, h47, hk1, hb55, hq1, hq2]) ?_
 refine AT_exit ?_
 refine hK11 _ ?_
 refine AT_region_q fun Z z => ?_
 simp [hb10, hb15, hb25, h47, hk1, hb55, hq1, hq2]
 repeat ((with_reducible refine ⟨?_, ?_⟩); next => (first | omega | assumption | exact Rows_map _ _ encK_cells _ | exact ⟨Rows_map _ _ encK_cells _, by omega⟩ | exact ⟨Rows_map _ _ encK_cells _, by simp; omega⟩ | (simp at *; omega)))
 refine z _ ?_
 clear z Z
 refine hK5 _ ?_
 refine AT_region_q fun Z z => ?_
 (have hkq : q = q := rfl
  obtain ⟨kk, hkk⟩ : ∃ kk, kk = q := ⟨_, rfl⟩)
 simp [hb10, hb15, hb25, h47, hk1, hb55, hq1, hq2]
 refine z _ ?_
 clear z Z
 refine hK3 _ (by first | rfl | simp) (s.length - kk) (by omega) ?_
 have hn1 : 0 < n := by omega
 obtain ⟨n, rfl⟩ : ∃ m, n = m + 1 := ⟨n - 1, by omega⟩
 (rw [lxA_word hb15 hb25 hpre hb55, show wordN (s.drop k) = q - k by omega, show k + (q - k) = q by omega] at hc
  refine ⟨kk, n, _, ⟨?_, ?_, ?_⟩, by rw [hc, hkk], rfl, ?_⟩
  · omega
  · (try simp only [List.length_append, List.length_singleton]); omega
  · omega
  · simp [hkk, encK, List.map_append, List.drop_take])
 have hz : wordN (s.drop q) = 0 := by rw [List.drop_eq_nil_of_le (by omega)]; rfl
 refine sr fun Z z => ?_
 simp [hb10, hb15, hb25, h47, hk1, hb55, hq1]
 repeat ((with_reducible refine ⟨?_, ?_⟩); next => (first | omega | assumption | exact Rows_map _ _ encK_cells _ | exact ⟨Rows_map _ _ encK_cells _, by omega⟩ | exact ⟨Rows_map _ _ encK_cells _, by simp; omega⟩ | (simp at *; omega)))
 refine z _ ?_
 clear z Z
 refine cF (by simp [hb10, hb15, hb25, h47, hk1, hb55, hq1]) ?_
 refine AT_exit ?_
 refine hK11 _ ?_
 refine AT_region_q fun Z z => ?_
 simp [hb10, hb15, hb25, h47, hk1, hb55, hq1]
 repeat ((with_reducible refine ⟨?_, ?_⟩); next => (first | omega | assumption | exact Rows_map _ _ encK_cells _ | exact ⟨Rows_map _ _ encK_cells _, by omega⟩ | exact ⟨Rows_map _ _ encK_cells _, by simp; omega⟩ | (simp at *; omega)))
 refine z _ ?_
 clear z Z
 refine hK5 _ ?_
 refine AT_region_q fun Z z => ?_
 (have hkq : q = q := rfl
  obtain ⟨kk, hkk⟩ : ∃ kk, kk = q := ⟨_, rfl⟩)
 simp [hb10, hb15, hb25, h47, hk1, hb55, hq1]
 refine z _ ?_
 clear z Z
 refine hK3 _ (by first | rfl | simp) (s.length - kk) (by omega) ?_
 have hn1 : 0 < n := by omega
 obtain ⟨n, rfl⟩ : ∃ m, n = m + 1 := ⟨n - 1, by omega⟩
 (rw [lxA_word hb15 hb25 hpre hb55, show wordN (s.drop k) = q - k by omega, show k + (q - k) = q by omega] at hc
  refine ⟨kk, n, _, ⟨?_, ?_, ?_⟩, by rw [hc, hkk], rfl, ?_⟩
  · omega
  · (try simp only [List.length_append, List.length_singleton]); omega
  · omega
  · simp [hkk, encK, List.map_append, List.drop_take])
 simp [hb10, hb15, hb25, h47, hk1] at hb55
 refine sr fun Z z => ?_
 simp [hb10, hb15, hb25, h47, hk1, hb55]
 repeat ((with_reducible refine ⟨?_, ?_⟩); next => (first | omega | assumption | exact Rows_map _ _ encK_cells _ | exact ⟨Rows_map _ _ encK_cells _, by omega⟩ | exact ⟨Rows_map _ _ encK_cells _, by simp; omega⟩ | (simp at *; omega)))
 refine RVn_call (c_ref03x_sign g rnd _) ?_
 simp [hb10, hb15, hb25, h47, hk1, hb55]
 repeat ((with_reducible refine ⟨?_, ?_⟩); next => (first | omega | assumption | exact Rows_map _ _ encK_cells _ | exact ⟨Rows_map _ _ encK_cells _, by omega⟩ | exact ⟨Rows_map _ _ encK_cells _, by simp; omega⟩ | (simp at *; omega)))
 refine z _ ?_
 clear z Z
 refine AT_cond (g := none) rfl (fun hb87 => ?_) (fun hb87 => ?_)
 simp [hb10, hb15, hb25, h47, hk1, hb55] at hb87
 refine AT_region_q fun Z z => ?_
 simp [hb10, hb15, hb25, h47, hk1, hb55, hb87]
 repeat ((with_reducible refine ⟨?_, ?_⟩); next => (first | omega | assumption | exact Rows_map _ _ encK_cells _ | exact ⟨Rows_map _ _ encK_cells _, by omega⟩ | exact ⟨Rows_map _ _ encK_cells _, by simp; omega⟩ | (simp at *; omega)))
 refine z _ ?_
 clear z Z
 refine hK5 _ ?_
 refine AT_region_q fun Z z => ?_
 (obtain ⟨kk, hkk⟩ : ∃ kk, kk = k + 1 := ⟨_, rfl⟩)
 simp [hb10, hb15, hb25, h47, hk1, hb55, hb87]
 refine z _ ?_
 clear z Z
 refine hK3 _ (by first | rfl | simp) (s.length - kk) (by omega) ?_
 have hn1 : 0 < n := by omega
 obtain ⟨n, rfl⟩ : ∃ m, n = m + 1 := ⟨n - 1, by omega⟩
 (rw [lxA_sign hb15 hb25 hpre hb55 (sign_iff.1 hb87)] at hc
  refine ⟨kk, n, _, ⟨?_, ?_, ?_⟩, by rw [hc, hkk], rfl, ?_⟩
  · omega
  · (try simp only [List.length_append, List.length_singleton]); omega
  · omega
  · simp [hkk, encK, List.map_append, drop_take_one, hb15])
 simp [hb10, hb15, hb25, h47, hk1, hb55] at hb87
 refine sr fun Z z => ?_
 simp [hb10, hb15, hb25, h47, hk1, hb55, hb87]
 repeat ((with_reducible refine ⟨?_, ?_⟩); next => (first | omega | assumption | exact Rows_map _ _ encK_cells _ | exact ⟨Rows_map _ _ encK_cells _, by omega⟩ | exact ⟨Rows_map _ _ encK_cells _, by simp; omega⟩ | (simp at *; omega)))
 refine z _ ?_
 clear z Z
 refine AT_ret ?_
 simp [Tryz.f67]
 (obtain ⟨n, rfl⟩ : ∃ m, n = m + 1 := ⟨n - 1, by omega⟩
  rw [lxA_bad hb15 hb25 hpre hb55 (by have := mt sign_iff.2 hb87; omega)] at hc
  rw [hc]; rfl)
 have hpre : Lib.hasPrefix (s.drop k) [47, 47] = false := by
   rw [← Bool.not_eq_true, pre_iff hb15]
   rintro ⟨he, -⟩
   exact h47 (by rw [he]; rfl)
 rw [Bool.not_eq_true] at h47
 refine sr fun Z z => ?_
 simp [hb10, hb15, hb25, h47]
 repeat ((with_reducible refine ⟨?_, ?_⟩); next => (first | omega | assumption | exact Rows_map _ _ encK_cells _ | exact ⟨Rows_map _ _ encK_cells _, by omega⟩ | exact ⟨Rows_map _ _ encK_cells _, by simp; omega⟩ | (simp at *; omega)))
 refine z _ ?_
 clear z Z
 refine cF (by simp [hb10, hb15, hb25, h47]) ?_
 refine sr fun Z z => ?_
 simp [hb10, hb15, hb25, h47]
 repeat ((with_reducible refine ⟨?_, ?_⟩); next => (first | omega | assumption | exact Rows_map _ _ encK_cells _ | exact ⟨Rows_map _ _ encK_cells _, by omega⟩ | exact ⟨Rows_map _ _ encK_cells _, by simp; omega⟩ | (simp at *; omega)))
 refine z _ ?_
 clear z Z
 refine AT_cond (g := none) rfl (fun hb55 => ?_) (fun hb55 => ?_)
 simp [hb10, hb15, hb25, h47] at hb55
 refine AT_seq_k fun K14 hK14 => ?_
 refine AT_block ?_
 refine AT_loop_q [0,2,3,4,6] [2] (fun j s1 => ∃ q, (k + 1 ≤ q ∧ q ≤ s.length) ∧ wordN (s.drop k) = q - k + wordN (s.drop q) ∧ j = s.length - q ∧ s1 = { n := 107, tm := [(0, .v (.str s) none), (2, .lp 2 0), (3, .v (.slice (out.map encK)) (some (3, 121))), (4, .v (.int .i64 (k : Nat)) none), (6, .v (.int .i64 (q : Nat)) none)], bx := [(2, [.slice [], .int .i64 0])], tb := [], sh := [], hint := [(3, 121)] }) (s.length - (k+1)) (by first | rfl | simp) ?_ ?_
 exact ⟨k + 1, by omega, by rw [List.drop_eq_getElem_cons hb15, wordN_cons, if_pos (by simp [wc, hb55])]; omega, rfl, by simp⟩
 rintro j s1 ⟨q, ⟨hq4, hq5⟩, hq, rfl, rfl⟩ K15 hK15
 refine AT_seq_k fun K16 hK16 => ?_
 by_cases hq1 : q < s.length
 by_cases hq2 : 0 < clsI s[q].toNat
 by_cases hq3 : clsI s[q].toNat < 4
 have hz : wordN (s.drop q) = 1 + wordN (s.drop (q + 1)) := by
   rw [List.drop_eq_getElem_cons hq1, wordN_cons, if_pos (by simp only [wc, Bool.and_eq_true, decide_eq_true_eq]; omega)]
 refine sr fun Z z => ?_
 simp [hb10, hb15, hb25, h47, hb55, hq1, hq2, hq3]
 repeat ((with_reducible refine ⟨?_, ?_⟩); next => (first | omega | assumption | exact Rows_map _ _ encK_cells _ | exact ⟨Rows_map _ _ encK_cells _, by omega⟩ | exact ⟨Rows_map _ _ encK_cells _, by simp; omega⟩ | (simp at *; omega)))
 refine RVn_call (c_ref01x_Class g rnd _) ?_
 simp [hb10, hb15, hb25, h47, hb55, hq1, hq2, hq3]
 repeat ((with_reducible refine ⟨?_, ?_⟩); next => (first | omega | assumption | exact Rows_map _ _ encK_cells _ | exact ⟨Rows_map _ _ encK_cells _, by omega⟩ | exact ⟨Rows_map _ _ encK_cells _, by simp; omega⟩ | (simp at *; omega)))
 refine RVn_call (c_ref01x_Class g rnd _) ?_
 simp [hb10, hb15, hb25, h47, hb55, hq1, hq2, hq3]
 repeat ((with_reducible refine ⟨?_, ?_⟩); next => (first | omega | assumption | exact Rows_map _ _ encK_cells _ | exact ⟨Rows_map _ _ encK_cells _, by omega⟩ | exact ⟨Rows_map _ _ encK_cells _, by simp; omega⟩ | (simp at *; omega)))
 refine z _ ?_
 clear z Z
 refine cT (by simp [hb10, hb15, hb25, h47, hb55, hq1, hq2, hq3]) ?_
 refine AT_skip ?_
 refine hK16 _ ?_
 refine AT_block ?_
 refine AT_region_q fun Z z => ?_
 simp [hb10, hb15, hb25, h47, hb55, hq1, hq2, hq3]
 repeat ((with_reducible refine ⟨?_, ?_⟩); next => (first | omega | assumption | exact Rows_map _ _ encK_cells _ | exact ⟨Rows_map _ _ encK_cells _, by omega⟩ | exact ⟨Rows_map _ _ encK_cells _, by simp; omega⟩ | (simp at *; omega)))
 refine z _ ?_
 clear z Z
 refine hK15 _ (by first | rfl | simp) (s.length - (q+1)) (by omega) ?_
 exact ⟨q + 1, by omega, by rw [hq, hz]; omega, rfl, by simp⟩
 have hz : wordN (s.drop q) = 0 := by
   rw [List.drop_eq_getElem_cons hq1, wordN_cons, if_neg (by simp only [wc, Bool.and_eq_true, decide_eq_true_eq]; omega)]
 refine sr fun Z z => ?_
 simp [hb10, hb15, hb25, h47, hb55, hq1, hq2, hq3]
 repeat ((with_reducible refine ⟨?_, ?_⟩); next => (first | omega | assumption | exact Rows_map _ _ encK_cells _ | exact ⟨Rows_map _ _ encK_cells _, by omega⟩ | exact ⟨Rows_map _ _ encK_cells _, by simp; omega⟩ | (simp at *; omega)))
 refine RVn_call (c_ref01x_Class g rnd _) ?_
 simp [hb10, hb15, hb25, h47, hb55, hq1, hq2, hq3]
 repeat ((with_reducible refine ⟨?_, ?_⟩); next => (first | omega | assumption | exact Rows_map _ _ encK_cells _ | exact ⟨Rows_map _ _ encK_cells _, by omega⟩ | exact ⟨Rows_map _ _ encK_cells _, by simp; omega⟩ | (simp at *; omega)))
 refine RVn_call (c_ref01x_Class g rnd _) ?_
 simp [hb10, hb15, hb25, h47, hb55, hq1, hq2, hq3]
 repeat ((with_reducible refine ⟨?_, ?_⟩); next => (first | omega | assumption | exact Rows_map _ _ encK_cells _ | exact ⟨Rows_map _ _ encK_cells _, by omega⟩ | exact ⟨Rows_map _ _ encK_cells _, by simp; omega⟩ | (simp at *; omega)))
 refine z _ ?_
 clear z Z
 refine cF (by simp [hb10, hb15, hb25, h47, hb55, hq1, hq2, hq3]) ?_
 refine AT_exit ?_
 refine hK14 _ ?_
 refine AT_region_q fun Z z => ?_
 simp [hb10, hb15, hb25, h47, hb55, hq1, hq2, hq3]
 repeat ((with_reducible refine ⟨?_, ?_⟩); next => (first | omega | assumption | exact Rows_map _ _ encK_cells _ | exact ⟨Rows_map _ _ encK_cells _, by omega⟩ | exact ⟨Rows_map _ _ encK_cells _, by simp; omega⟩ | (simp at *; omega)))
 refine z _ ?_
 clear z Z
 refine hK5 _ ?_
 refine AT_region_q fun Z z => ?_
 (have hkq : q = q := rfl
  obtain ⟨kk, hkk⟩ : ∃ kk, kk = q := ⟨_, rfl⟩)
 simp [hb10, hb15, hb25, h47, hb55, hq1, hq2, hq3]
 refine z _ ?_
 clear z Z
 refine hK3 _ (by first | rfl | simp) (s.length - kk) (by omega) ?_
 have hn1 : 0 < n := by omega
 obtain ⟨n, rfl⟩ : ∃ m, n = m + 1 := ⟨n - 1, by omega⟩
 (rw [lxA_word hb15 hb25 hpre hb55, show wordN (s.drop k) = q - k by omega, show k + (q - k) = q by omega] at hc
  refine ⟨kk, n, _, ⟨?_, ?_, ?_⟩, by rw [hc, hkk], rfl, ?_⟩
  · omega
  · (try simp only [List.length_append, List.length_singleton]); omega
  · omega
  · simp [hkk, encK, List.map_append, List.drop_take])
 have hz : wordN (s.drop q) = 0 := by
   rw [List.drop_eq_getElem_cons hq1, wordN_cons, if_neg (by simp only [wc, Bool.and_eq_true, decide_eq_true_eq]; omega)]
 refine sr fun Z z => ?_
 simp [hb10, hb15, hb25, h47, hb55, hq1, hq2]
 repeat ((with_reducible refine ⟨?_, ?_⟩); next => (first | omega | assumption | exact Rows_map _ _ encK_cells _ | exact ⟨Rows_map _ _ encK_cells _, by omega⟩ | exact ⟨Rows_map _ _ encK_cells _, by simp; omega⟩ | (simp at *; omega)))
 refine RVn_call (c_ref01x_Class g rnd _) ?_
 simp [hb10, hb15, hb25, h47, hb55, hq1, hq2]
 repeat ((with_reducible refine ⟨?_, ?_⟩); next => (first | omega | assumption | exact Rows_map _ _ encK_cells _ | exact ⟨Rows_map _ _ encK_cells _, by omega⟩ | exact ⟨Rows_map _ _ encK_cells _, by simp; omega⟩ | (simp at *; omega)))
 refine z _ ?_
 clear z Z
 refine cF (by simp [hb10, hb15, hb25, h47, hb55, hq1, hq2]) ?_
 refine AT_exit ?_
 refine hK14 _ ?_
 refine AT_region_q fun Z z => ?_
 simp [hb10, hb15, hb25, h47, hb55, hq1, hq2]
 repeat ((with_reducible refine ⟨?_, ?_⟩); next => (first | omega | assumption | exact Rows_map _ _ encK_cells _ | exact ⟨Rows_map _ _ encK_cells _, by omega⟩ | exact ⟨Rows_map _ _ encK_cells _, by simp; omega⟩ | (simp at *; omega)))
 refine z _ ?_
 clear z Z
 refine hK5 _ ?_
 refine AT_region_q fun Z z => ?_
 (have hkq : q = q := rfl
  obtain ⟨kk, hkk⟩ : ∃ kk, kk = q := ⟨_, rfl⟩)
 simp [hb10, hb15, hb25, h47, hb55, hq1, hq2]
 refine z _ ?_
 clear z Z
 refine hK3 _ (by first | rfl | simp) (s.length - kk) (by omega) ?_
 have hn1 : 0 < n := by omega
 obtain ⟨n, rfl⟩ : ∃ m, n = m + 1 := ⟨n - 1, by omega⟩
 (rw [lxA_word hb15 hb25 hpre hb55, show wordN (s.drop k) = q - k by omega, show k + (q - k) = q by omega] at hc
  refine ⟨kk, n, _, ⟨?_, ?_, ?_⟩, by rw [hc, hkk], rfl, ?_⟩
  · omega
  · (try simp only [List.length_append, List.length_singleton]); omega
  · omega
  · simp [hkk, encK, List.map_append, List.drop_take])
 have hz : wordN (s.drop q) = 0 := by rw [List.drop_eq_nil_of_le (by omega)]; rfl
 refine sr fun Z z => ?_
 simp [hb10, hb15, hb25, h47, hb55, hq1]
 repeat ((with_reducible refine ⟨?_, ?_⟩); next => (first | omega | assumption | exact Rows_map _ _ encK_cells _ | exact ⟨Rows_map _ _ encK_cells _, by omega⟩ | exact ⟨Rows_map _ _ encK_cells _, by simp; omega⟩ | (simp at *; omega)))
 refine z _ ?_
 clear z Z
 refine cF (by simp [hb10, hb15, hb25, h47, hb55, hq1]) ?_
 refine AT_exit ?_
 refine hK14 _ ?_
 refine AT_region_q fun Z z => ?_
 simp [hb10, hb15, hb25, h47, hb55, hq1]
 repeat ((with_reducible refine ⟨?_, ?_⟩); next => (first | omega | assumption | exact Rows_map _ _ encK_cells _ | exact ⟨Rows_map _ _ encK_cells _, by omega⟩ | exact ⟨Rows_map _ _ encK_cells _, by simp; omega⟩ | (simp at *; omega)))
 refine z _ ?_
 clear z Z
 refine hK5 _ ?_
 refine AT_region_q fun Z z => ?_
 (have hkq : q = q := rfl
  obtain ⟨kk, hkk⟩ : ∃ kk, kk = q := ⟨_, rfl⟩)
 simp [hb10, hb15, hb25, h47, hb55, hq1]
 refine z _ ?_
 clear z Z
 refine hK3 _ (by first | rfl | simp) (s.length - kk) (by omega) ?_
 have hn1 : 0 < n := by omega
 obtain ⟨n, rfl⟩ : ∃ m, n = m + 1 := ⟨n - 1, by omega⟩
 (rw [lxA_word hb15 hb25 hpre hb55, show wordN (s.drop k) = q - k by omega, show k + (q - k) = q by omega] at hc
  refine ⟨kk, n, _, ⟨?_, ?_, ?_⟩, by rw [hc, hkk], rfl, ?_⟩
  · omega
  · (try simp only [List.length_append, List.length_singleton]); omega
  · omega
  · simp [hkk, encK, List.map_append, List.drop_take])
 simp [hb10, hb15, hb25, h47] at hb55
 refine sr fun Z z => ?_
 simp [hb10, hb15, hb25, h47, hb55]
 repeat ((with_reducible refine ⟨?_, ?_⟩); next => (first | omega | assumption | exact Rows_map _ _ encK_cells _ | exact ⟨Rows_map _ _ encK_cells _, by omega⟩ | exact ⟨Rows_map _ _ encK_cells _, by simp; omega⟩ | (simp at *; omega)))
 refine RVn_call (c_ref03x_sign g rnd _) ?_
 simp [hb10, hb15, hb25, h47, hb55]
 repeat ((with_reducible refine ⟨?_, ?_⟩); next => (first | omega | assumption | exact Rows_map _ _ encK_cells _ | exact ⟨Rows_map _ _ encK_cells _, by omega⟩ | exact ⟨Rows_map _ _ encK_cells _, by simp; omega⟩ | (simp at *; omega)))
 refine z _ ?_
 clear z Z
 refine AT_cond (g := none) rfl (fun hb87 => ?_) (fun hb87 => ?_)
 simp [hb10, hb15, hb25, h47, hb55] at hb87
 refine AT_region_q fun Z z => ?_
 simp [hb10, hb15, hb25, h47, hb55, hb87]
 repeat ((with_reducible refine ⟨?_, ?_⟩); next => (first | omega | assumption | exact Rows_map _ _ encK_cells _ | exact ⟨Rows_map _ _ encK_cells _, by omega⟩ | exact ⟨Rows_map _ _ encK_cells _, by simp; omega⟩ | (simp at *; omega)))
 refine z _ ?_
 clear z Z
 refine hK5 _ ?_
 refine AT_region_q fun Z z => ?_
 (obtain ⟨kk, hkk⟩ : ∃ kk, kk = k + 1 := ⟨_, rfl⟩)
 simp [hb10, hb15, hb25, h47, hb55, hb87]
 refine z _ ?_
 clear z Z
 refine hK3 _ (by first | rfl | simp) (s.length - kk) (by omega) ?_
 have hn1 : 0 < n := by omega
 obtain ⟨n, rfl⟩ : ∃ m, n = m + 1 := ⟨n - 1, by omega⟩
 (rw [lxA_sign hb15 hb25 hpre hb55 (sign_iff.1 hb87)] at hc
  refine ⟨kk, n, _, ⟨?_, ?_, ?_⟩, by rw [hc, hkk], rfl, ?_⟩
  · omega
  · (try simp only [List.length_append, List.length_singleton]); omega
  · omega
  · simp [hkk, encK, List.map_append, drop_take_one, hb15])
 simp [hb10, hb15, hb25, h47, hb55] at hb87
 refine sr fun Z z => ?_
 simp [hb10, hb15, hb25, h47, hb55, hb87]
 repeat ((with_reducible refine ⟨?_, ?_⟩); next => (first | omega | assumption | exact Rows_map _ _ encK_cells _ | exact ⟨Rows_map _ _ encK_cells _, by omega⟩ | exact ⟨Rows_map _ _ encK_cells _, by simp; omega⟩ | (simp at *; omega)))
 refine z _ ?_
 clear z Z
 refine AT_ret ?_
 simp [Tryz.f67]
 (obtain ⟨n, rfl⟩ : ∃ m, n = m + 1 := ⟨n - 1, by omega⟩
  rw [lxA_bad hb15 hb25 hpre hb55 (by have := mt sign_iff.2 hb87; omega)] at hc
  rw [hc]; rfl)
 simp [hb10] at hb15
 refine AT_exit ?_
 refine hK2 _ ?_
 refine sr fun Z z => ?_
 simp [hb10, hb15]
 repeat ((with_reducible refine ⟨?_, ?_⟩); next => (first | omega | assumption | exact Rows_map _ _ encK_cells _ | exact ⟨Rows_map _ _ encK_cells _, by omega⟩ | exact ⟨Rows_map _ _ encK_cells _, by simp; omega⟩ | (simp at *; omega)))
 refine z _ ?_
 clear z Z
 refine AT_ret ?_
 simp [Tryz.f67]
 (obtain ⟨n, rfl⟩ : ∃ m, n = m + 1 := ⟨n - 1, by omega⟩
  rw [lxA_end hk hb15] at hc
  rw [hc]; simp [lexR, encK])

end Go.Proofs.YtepbmjchhcmcoaaGreatDoor
end

section
/- Contracts: a cursor over tokens. -/
set_option linter.all false
set_option maxHeartbeats 1000000
set_option maxRecDepth 10000
namespace Go.Proofs.YtepbmjchhcmcoaaGreatDoor
open Go Go.Pv
variable (g : Nat → Option (List AV)) (rnd : Bool)

theorem c_read_Cursor_first (b : Nat) (c : Cur) (hb : c.l.length ≤ 1000000) : ValidC Tryz.prog (G0 g false) 114 [] b (encC 92 c) (.agg (encK c.first)) (encC 92 c) := by
 obtain ⟨l, err⟩ := c
 refine validC_of [] Tryz.func114 rfl (by kernel_rfl) ?_
 refine sr fun Z z => ?_
 simp [encC, errA, encK, Cur.first, Cur.fail, tk0, Tryz.f114]
 refine z _ ?_
 clear z Z
 refine AT_seq_k fun K1 hK1 => ?_
 cases err
 cases l
 refine sr fun Z z => ?_
 simp [encC, errA, encK, Cur.first, Cur.fail, tk0]
 refine z _ ?_
 clear z Z
 refine cT (by simp) ?_
 refine sr fun Z z => ?_
 simp [encC, errA, encK, Cur.first, Cur.fail, tk0]
 refine z _ ?_
 clear z Z
 refine AT_ret ?_
 simp [encC, errA, encK, Cur.first, Cur.fail, tk0, Tryz.f114]
 refine sr fun Z z => ?_
 simp [encC, errA, encK, Cur.first, Cur.fail, tk0]
 refine z _ ?_
 clear z Z
 refine cF (by simp) ?_
 refine AT_skip ?_
 refine hK1 _ ?_
 refine sr fun Z z => ?_
 simp [encC, errA, encK, Cur.first, Cur.fail, tk0]
 refine z _ ?_
 clear z Z
 refine AT_ret ?_
 simp [encC, errA, encK, Cur.first, Cur.fail, tk0, Tryz.f114]
 refine sr fun Z z => ?_
 simp [encC, errA, encK, Cur.first, Cur.fail, tk0]
 refine z _ ?_
 clear z Z
 refine cT (by simp) ?_
 refine sr fun Z z => ?_
 simp [encC, errA, encK, Cur.first, Cur.fail, tk0]
 refine z _ ?_
 clear z Z
 refine AT_ret ?_
 simp [encC, errA, encK, Cur.first, Cur.fail, tk0, Tryz.f114]

theorem c_read_Cursor_fail (b : Nat) (c : Cur) (hb : c.l.length ≤ 1000000) : ValidC Tryz.prog (G0 g false) 115 [] b (encC 92 c) (.tup []) (encC 92 c.fail) := by
 obtain ⟨l, err⟩ := c
 refine validC_of [] Tryz.func115 rfl (by kernel_rfl) ?_
 cases err
 refine sr fun Z z => ?_
 simp [encC, errA, Cur.fail, Tryz.f115]
 refine z _ ?_
 clear z Z
 refine cT (by simp) ?_
 refine AT_region_q fun Z z => ?_
 simp [encC, errA, Cur.fail, encK]
 refine RVn_callC (by have h := c_read_Cursor_first g b ⟨l, none⟩ hb; simp only [encC, errA] at h; exact h) rfl ?_
 simp [encC, errA, Cur.fail, encK]
 refine RVn_call (c_fault_New g false _ _) ?_
 simp [encC, errA, Cur.fail, encK]
 refine z _ ?_
 clear z Z
 simp [encC, errA, Cur.fail, Tryz.f115]
 refine sr fun Z z => ?_
 simp [encC, errA, Cur.fail]
 refine z _ ?_
 clear z Z
 refine cF (by simp) ?_
 refine AT_skip ?_
 simp [encC, errA, Cur.fail, Tryz.f115]

theorem c_read_Cursor_Failed (b : Nat) (c : Cur) (hb : c.l.length ≤ 1000000) : ValidC Tryz.prog (G0 g false) 131 [] b (encC 92 c) (.bool c.err.isSome) (encC 92 c) := by
 obtain ⟨l, err⟩ := c
 refine validC_of [] Tryz.func131 rfl (by kernel_rfl) ?_
 refine sr fun Z z => ?_
 simp [encC, errA, Tryz.f131]
 refine z _ ?_
 clear z Z
 cases err
 refine sr fun Z z => ?_
 simp [encC, errA]
 refine z _ ?_
 clear z Z
 refine AT_ret ?_
 simp [encC, errA, Tryz.f131]
 refine sr fun Z z => ?_
 simp [encC, errA]
 refine z _ ?_
 clear z Z
 refine AT_ret ?_
 simp [encC, errA, Tryz.f131]

theorem c_read_Cursor_Next (s : Str) (b : Nat) (c : Cur) (hb : c.l.length ≤ 1000000) : ValidC Tryz.prog (G0 g false) 97 [.str s] b (encC 92 c) (.bool (c.next s)) (encC 92 c) := by

 refine validC_of [] Tryz.func97 rfl (by kernel_rfl) ?_
 refine sr fun Z z => ?_
 simp [encK, Tryz.f97]
 refine z _ ?_
 clear z Z
 refine sr fun Z z => ?_
 simp [encK]
 refine RVn_callC (c_read_Cursor_first g b c hb) rfl ?_
 simp [encK]
 refine z _ ?_
 clear z Z
 cases h1 : (c.first.1 != 3)
 ·
  refine sr fun Z z => ?_
  simp [encK, h1]
  refine z _ ?_
  clear z Z
  refine AT_ret ?_
  simp [encK, Tryz.f97]
  all_goals simp [Cur.next, h1]
 ·
  refine sr fun Z z => ?_
  simp [encK, h1]
  refine z _ ?_
  clear z Z
  refine AT_ret ?_
  simp [encK, Tryz.f97]
  all_goals simp [Cur.next, h1]

theorem c_read_Cursor_Take (s : Str) (b : Nat) (c : Cur) (hb : c.l.length ≤ 1000000) : ValidC Tryz.prog (G0 g false) 94 [.str s] b (encC 92 c) (.bool (c.next s)) (encC 92 (c.take s)) := by

 refine validC_of [] Tryz.func94 rfl (by kernel_rfl) ?_
 refine sr fun Z z => ?_
 simp [Tryz.f94]
 refine z _ ?_
 clear z Z
 refine sr fun Z z => ?_
 simp
 refine RVn_callC (c_read_Cursor_Next g s b c hb) rfl ?_
 simp
 refine z _ ?_
 clear z Z
 refine AT_seq_k fun K1 hK1 => ?_
 cases hn : c.next s
 refine sr fun Z z => ?_
 simp [hn]
 refine z _ ?_
 clear z Z
 refine cF (by simp [hn]) ?_
 refine AT_skip ?_
 refine hK1 _ ?_
 refine sr fun Z z => ?_
 simp [hn]
 refine z _ ?_
 clear z Z
 refine AT_ret ?_
 simp [Tryz.f94]
 first | (· simp [hn, Cur.take]) | (· simp [hn, Cur.take, encC, hw, hw2, errA, encK])
 obtain ⟨he, t, r, hl, -, -⟩ := Cur.next_cons hn
 have hw : c.adv.l = r := by simp [Cur.adv, hl]
 have hw2 : c.adv.err = none := he
 refine sr fun Z z => ?_
 simp [hn]
 refine z _ ?_
 clear z Z
 refine cT (by simp [hn]) ?_
 refine AT_region_q fun Z z => ?_
 simp [encC, hl, he, errA, encK, hn]
 repeat refine sgK ?_
 refine z _ ?_
 clear z Z
 refine hK1 _ ?_
 refine sr fun Z z => ?_
 simp [hn]
 refine z _ ?_
 clear z Z
 refine AT_ret ?_
 simp [Tryz.f94]
 first | (· simp [hn, Cur.take]) | (· simp [hn, Cur.take, encC, hw, hw2, errA, encK])

theorem c_read_Cursor_Must (s : Str) (b : Nat) (c : Cur) (hb : c.l.length ≤ 1000000) : ValidC Tryz.prog (G0 g false) 96 [.str s] b (encC 92 c) (.tup []) (encC 92 (c.must s)) := by

 refine validC_of [] Tryz.func96 rfl (by kernel_rfl) ?_
 cases hn : c.next s
 ·
  refine sr fun Z z => ?_
  simp [Cur.take, Tryz.f96, hn]
  refine RVn_callC (c_read_Cursor_Take g s b c hb) rfl ?_
  simp [Cur.take, hn]
  refine z _ ?_
  clear z Z
  refine cT (by simp [hn]) ?_
  refine AT_region_q fun Z z => ?_
  simp [Cur.take, hn]
  refine RVn_callC (c_read_Cursor_fail g b c hb) rfl ?_
  simp [Cur.take, hn]
  refine z _ ?_
  clear z Z
  simp [Cur.take, Tryz.f96]
  all_goals simp [Cur.must, hn]
 ·
  refine sr fun Z z => ?_
  simp [Cur.take, hn]
  refine RVn_callC (c_read_Cursor_Take g s b c hb) rfl ?_
  simp [Cur.take, hn]
  refine z _ ?_
  clear z Z
  refine cF (by simp [hn]) ?_
  refine AT_skip ?_
  simp [Cur.take, Tryz.f96]
  all_goals simp [Cur.must, hn]

theorem c_read_Cursor_Name (b : Nat) (c : Cur) (hb : c.l.length ≤ 1000000) (hnm : ∀ s : Str, s.length ≤ 1000000 → Valid Tryz.prog (G0 g false) 129 [.str s] (.bool (isName s))) (hts : ∀ t ∈ c.l, t.2.1.length ≤ 1000000) : ValidC Tryz.prog (G0 g false) 116 [] b (encC 92 c) (.tup [.str c.nm, .int .i64 c.at_]) (encC 92 c.name) := by
 have hfs : c.first.2.1.length ≤ 1000000 := by
   unfold Cur.first
   split
   · exact Nat.zero_le _
   · cases hl : c.l with
     | nil => exact Nat.zero_le _
     | cons t r => exact hts t (by rw [hl]; simp)
 refine validC_of [] Tryz.func116 rfl (by kernel_rfl) ?_
 refine sr fun Z z => ?_
 simp [encK, Tryz.f116]
 refine z _ ?_
 clear z Z
 refine sr fun Z z => ?_
 simp [encK]
 refine RVn_callC (c_read_Cursor_first g b c hb) rfl ?_
 simp [encK]
 refine z _ ?_
 clear z Z
 refine AT_seq_k fun K1 hK1 => ?_
 cases h1 : (c.first.1 == 1)
 have h1b : (c.first.1 != 1) = true := by simp only [bne, h1]; rfl
 refine sr fun Z z => ?_
 simp [encK, h1, h1b]
 refine z _ ?_
 clear z Z
 refine cT (by simp [h1, h1b]) ?_
 refine sr fun Z z => ?_
 simp [encK, h1, h1b]
 refine RVn_callC (c_read_Cursor_fail g b c hb) rfl ?_
 simp [encK, h1, h1b]
 refine z _ ?_
 clear z Z
 refine sr fun Z z => ?_
 simp [encK, h1, h1b]
 refine z _ ?_
 clear z Z
 refine AT_ret ?_
 simp [encK, Tryz.f116]
 first | (· simp [Cur.nm, Cur.at_, Cur.name, Cur.named, h1]) | (· simp [Cur.nm, Cur.at_, Cur.name, Cur.named, h1, h2]) | (· simp [Cur.nm, Cur.at_, Cur.name, Cur.named, h1, h2, encC, hw, hw2, errA, encK])
 have h1b : (c.first.1 != 1) = false := by simp only [bne, h1]; rfl
 cases h2 : isName c.first.2.1
 refine sr fun Z z => ?_
 simp [encK, h1, h1b, h2]
 refine RVn_call (hnm _ hfs) ?_
 simp [encK, h1, h1b, h2]
 repeat refine sgK ?_
 refine z _ ?_
 clear z Z
 refine cT (by simp [h1, h1b, h2]) ?_
 refine sr fun Z z => ?_
 simp [encK, h1, h1b, h2]
 refine RVn_callC (c_read_Cursor_fail g b c hb) rfl ?_
 simp [encK, h1, h1b, h2]
 refine z _ ?_
 clear z Z
 refine sr fun Z z => ?_
 simp [encK, h1, h1b, h2]
 refine z _ ?_
 clear z Z
 refine AT_ret ?_
 simp [encK, Tryz.f116]
 first | (· simp [Cur.nm, Cur.at_, Cur.name, Cur.named, h1]) | (· simp [Cur.nm, Cur.at_, Cur.name, Cur.named, h1, h2]) | (· simp [Cur.nm, Cur.at_, Cur.name, Cur.named, h1, h2, encC, hw, hw2, errA, encK])
 have hn : c.named = true := by simp [Cur.named, h1, h2]
 obtain ⟨he, t, r, hl, -, -⟩ := Cur.named_cons hn
 have hw : c.adv.l = r := by simp [Cur.adv, hl]
 have hw2 : c.adv.err = none := he
 refine sr fun Z z => ?_
 simp [encK, h1, h1b, h2]
 refine RVn_call (hnm _ hfs) ?_
 simp [encK, h1, h1b, h2]
 repeat refine sgK ?_
 refine z _ ?_
 clear z Z
 refine cF (by simp [h1, h1b, h2]) ?_
 refine AT_skip ?_
 refine hK1 _ ?_
 refine sr fun Z z => ?_
 simp [encK, encC, hl, he, errA, h1, h1b, h2]
 repeat refine sgK ?_
 refine z _ ?_
 clear z Z
 refine AT_seq_draw Pt.mixed (by kernel_rfl) fun Z z => ?_
 simp [encK, h1, h1b, h2]
 refine z _ ?_
 clear z Z
 refine AT_ret ?_
 simp [encK, Tryz.f116]
 first | (· simp [Cur.nm, Cur.at_, Cur.name, Cur.named, h1]) | (· simp [Cur.nm, Cur.at_, Cur.name, Cur.named, h1, h2]) | (· simp [Cur.nm, Cur.at_, Cur.name, Cur.named, h1, h2, encC, hw, hw2, errA, encK])

end Go.Proofs.YtepbmjchhcmcoaaGreatDoor
end

section
/- Contracts: lists of items, read. -/
set_option linter.all false
set_option maxHeartbeats 1000000
set_option maxRecDepth 10000
namespace Go.Proofs.YtepbmjchhcmcoaaGreatDoor
open Go Go.Pv
variable (g : Nat → Option (List AV)) (rnd : Bool)

theorem c_read_list_api_Type (rd : Cur → Ty × Cur) (b n : Nat) (L : List Tk) (hsuf : ∀ c, (rd c).2.l <:+ c.l) (hrd : ∀ c, c.l.length < n → c.l <:+ L → ValidC Tryz.prog (G0 g false) 132 [] b (encC 92 c) (.agg (encTy (rd c).1)) (encC 92 (rd c).2)) (c : Cur) (hc : c.l.length < n) (hcL : c.l <:+ L) (hn : n ≤ 1000000) : ValidC Tryz.prog (G0 g false) 133 [.bfn 132 [.gp b 0]] b (encC 92 c) (.slice ((listC rd c).1.map encTy)) (encC 92 (listC rd c).2) := by
 have hlen := fun c => (hsuf c).length_le
 have hl0 := hlen c
 refine validC_of [(8, 25)] Tryz.func133 rfl (by kernel_rfl) ?_
 refine sr fun Z z => ?_
 simp [Tryz.f133]
 refine z _ ?_
 clear z Z
 refine sr fun Z z => ?_
 simp
 refine RVn_callC (hrd c hc hcL) rfl ?_
 simp
 refine z _ ?_
 clear z Z
 refine AT_seq_k fun K1 hK1 => ?_
 refine AT_block ?_
 refine AT_loop_q [0,1,5] [] (fun j s => ∃ k acc, listC rd c = (acc ++ (loopC rd k.l.length k).1, (loopC rd k.l.length k).2) ∧ (k.l.length < n ∧ k.l <:+ L) ∧ acc.length + k.l.length ≤ c.l.length + 1 ∧ j = k.l.length ∧ s = { n := 17, tm := [(0, .v (.gp b 0) none), (1, .v (.bfn 132 [.gp b 0]) none), (5, .v (.slice (acc.map encTy)) (some (8, 25)))], bx := [], tb := [], sh := [(b, (encC 92 k))], hint := [(8, 25)] }) ((rd c).2.l.length) (by first | rfl | simp) ?_ ?_
 exact ⟨(rd c).2, [(rd c).1], by simp [listC], ⟨by omega, (hsuf c).trans hcL⟩, by simp; omega, rfl, by simp⟩
 rintro j s ⟨k, acc, hk, ⟨hkn, hkL⟩, hka, rfl, rfl⟩ K2 hK2
 refine AT_seq_k fun K3 hK3 => ?_
 cases hnx : k.next [44]
 refine sr fun Z z => ?_
 simp [Cur.take, hnx]
 refine RVn_callC (c_read_Cursor_Take g [44] b k (by omega)) rfl ?_
 simp [Cur.take, hnx]
 refine z _ ?_
 clear z Z
 refine cF (by simp [hnx]) ?_
 refine AT_exit ?_
 refine hK1 _ ?_
 refine sr fun Z z => ?_
 simp [hnx]
 refine z _ ?_
 clear z Z
 refine AT_ret ?_
 simp [Tryz.f133]
 simp [hk, loopC_at hlen, hnx]
 have ha := Cur.adv_len hnx
 have hla := hlen k.adv
 refine sr fun Z z => ?_
 simp [Cur.take, hnx]
 refine RVn_callC (c_read_Cursor_Take g [44] b k (by omega)) rfl ?_
 simp [Cur.take, hnx]
 refine z _ ?_
 clear z Z
 refine cT (by simp [hnx]) ?_
 refine AT_skip ?_
 refine hK3 _ ?_
 refine AT_block ?_
 refine AT_region_q fun Z z => ?_
 simp [hnx]
 refine RVn_callC (hrd k.adv (by omega) (k.adv_suf.trans hkL)) rfl ?_
 simp [hnx]
 repeat refine sg ?_
 refine z _ ?_
 clear z Z
 refine hK2 _ (by first | rfl | simp) ((rd k.adv).2.l.length) (by omega) ?_
 exact ⟨(rd k.adv).2, acc ++ [(rd k.adv).1], by rw [hk, loopC_at hlen, if_pos hnx]; simp, ⟨by omega, (hsuf _).trans (k.adv_suf.trans hkL)⟩, by simp; omega, rfl, by simp⟩

theorem c_read_list_api_Expr (rd : Cur → Exp × Cur) (b n : Nat) (L : List Tk) (hsuf : ∀ c, (rd c).2.l <:+ c.l) (hrd : ∀ c, c.l.length < n → c.l <:+ L → ValidC Tryz.prog (G0 g false) 99 [] b (encC 92 c) (.agg (encE (rd c).1)) (encC 92 (rd c).2)) (c : Cur) (hc : c.l.length < n) (hcL : c.l <:+ L) (hn : n ≤ 1000000) : ValidC Tryz.prog (G0 g false) 134 [.bfn 99 [.gp b 0]] b (encC 92 c) (.slice ((listC rd c).1.map encE)) (encC 92 (listC rd c).2) := by
 have hlen := fun c => (hsuf c).length_le
 have hl0 := hlen c
 refine validC_of [(8, 28)] Tryz.func134 rfl (by kernel_rfl) ?_
 refine sr fun Z z => ?_
 simp [Tryz.f134]
 refine z _ ?_
 clear z Z
 refine sr fun Z z => ?_
 simp
 refine RVn_callC (hrd c hc hcL) rfl ?_
 simp
 refine z _ ?_
 clear z Z
 refine AT_seq_k fun K1 hK1 => ?_
 refine AT_block ?_
 refine AT_loop_q [0,1,5] [] (fun j s => ∃ k acc, listC rd c = (acc ++ (loopC rd k.l.length k).1, (loopC rd k.l.length k).2) ∧ (k.l.length < n ∧ k.l <:+ L) ∧ acc.length + k.l.length ≤ c.l.length + 1 ∧ j = k.l.length ∧ s = { n := 17, tm := [(0, .v (.gp b 0) none), (1, .v (.bfn 99 [.gp b 0]) none), (5, .v (.slice (acc.map encE)) (some (8, 28)))], bx := [], tb := [], sh := [(b, (encC 92 k))], hint := [(8, 28)] }) ((rd c).2.l.length) (by first | rfl | simp) ?_ ?_
 exact ⟨(rd c).2, [(rd c).1], by simp [listC], ⟨by omega, (hsuf c).trans hcL⟩, by simp; omega, rfl, by simp⟩
 rintro j s ⟨k, acc, hk, ⟨hkn, hkL⟩, hka, rfl, rfl⟩ K2 hK2
 refine AT_seq_k fun K3 hK3 => ?_
 cases hnx : k.next [44]
 refine sr fun Z z => ?_
 simp [Cur.take, hnx]
 refine RVn_callC (c_read_Cursor_Take g [44] b k (by omega)) rfl ?_
 simp [Cur.take, hnx]
 refine z _ ?_
 clear z Z
 refine cF (by simp [hnx]) ?_
 refine AT_exit ?_
 refine hK1 _ ?_
 refine sr fun Z z => ?_
 simp [hnx]
 refine z _ ?_
 clear z Z
 refine AT_ret ?_
 simp [Tryz.f134]
 simp [hk, loopC_at hlen, hnx]
 have ha := Cur.adv_len hnx
 have hla := hlen k.adv
 refine sr fun Z z => ?_
 simp [Cur.take, hnx]
 refine RVn_callC (c_read_Cursor_Take g [44] b k (by omega)) rfl ?_
 simp [Cur.take, hnx]
 refine z _ ?_
 clear z Z
 refine cT (by simp [hnx]) ?_
 refine AT_skip ?_
 refine hK3 _ ?_
 refine AT_block ?_
 refine AT_region_q fun Z z => ?_
 simp [hnx]
 refine RVn_callC (hrd k.adv (by omega) (k.adv_suf.trans hkL)) rfl ?_
 simp [hnx]
 repeat refine sg ?_
 refine z _ ?_
 clear z Z
 refine hK2 _ (by first | rfl | simp) ((rd k.adv).2.l.length) (by omega) ?_
 exact ⟨(rd k.adv).2, acc ++ [(rd k.adv).1], by rw [hk, loopC_at hlen, if_pos hnx]; simp, ⟨by omega, (hsuf _).trans (k.adv_suf.trans hkL)⟩, by simp; omega, rfl, by simp⟩

end Go.Proofs.YtepbmjchhcmcoaaGreatDoor
end

/- Contracts. -/
import Derived.Test.YtghmdnfdocdgfaaDoorPt
import Derived.Test.YtghmdnfdocdgfaaDoorPvZ
import Derived.Test.YtghmdnfdocdgfaaDoorXNaI
set_option linter.all false
set_option maxHeartbeats 1000000
set_option maxRecDepth 10000
namespace Go.Proofs.YtghmdnfdocdgfaaDoor
open Go Go.Pv
variable (g : Nat → Option (List AV)) (rnd : Bool)

theorem c_types_All (l : List Ty) (ns as_ : List (List AV)) (res : Ty → Ty) (hl : l.length ≤ 1099511627776) (hs : ∀ t ∈ l, Valid Tryd.prog (G0 g rnd) 23 [.agg (encTy t), .slice ns, .slice as_] (.agg (encTy (res t)))) : Valid Tryd.prog (G0 g rnd) 24 [.slice (l.map encTy), .slice ns, .slice as_] (.slice ((l.map res).map encTy)) := by

  refine valid_of [(7, 24)] Tryd.func24 rfl (by kernel_rfl) ?_
  refine AT_seq_region fun K1 hK1 => ?_
  simp [row_map, Tryd.f24]
  repeat (refine ⟨by first | omega | (simp at *; omega), ?_⟩)
  refine hK1 _ ?_
  clear hK1 K1
  refine AT_seq_region fun K2 hK2 => ?_
  simp [row_map]
  repeat (refine ⟨by first | omega | (simp at *; omega), ?_⟩)
  refine hK2 _ ?_
  clear hK2 K2
  refine AT_seq_k fun K3 hK3 => ?_
  refine AT_seq_region fun K4 hK4 => ?_
  simp [row_map]
  repeat (refine ⟨by first | omega | (simp at *; omega), ?_⟩)
  refine hK4 _ ?_
  clear hK4 K4
  refine AT_block ?_
  refine AT_loop_q [1,2,7,10,11,12] [] (fun j s => ∃ k, k ≤ l.length ∧ j = l.length - k ∧ s = { n := 25, tm := [(1, .v (.slice ns) none), (2, .v (.slice as_) none), (7, .v (.slice (((l.take k).map res).map encTy)) (some (7, 24))), (10, .v (.slice (l.map encTy)) none), (11, .v (.int .i64 l.length) none), (12, .v (.int .i64 k) none)], bx := [], tb := [], sh := [], hint := [(7, 24)] }) (l.length) (by first | rfl | simp) ?_ ?_
  ·
    exact ⟨0, by simp⟩
  ·
    rintro j s ⟨k, hk, rfl, rfl⟩ K5 hK5
    refine AT_seq_region fun K6 hK6 => ?_
    simp [row_map]
    repeat (refine ⟨by first | omega | (simp at *; omega), ?_⟩)
    refine hK6 _ ?_
    clear hK6 K6
    refine AT_seq_k fun K7 hK7 => ?_
    refine AT_cond (g := none) rfl (fun hb13 => ?_) (fun hb13 => ?_)
    ·
      try simp [row_map] at hb13
      refine AT_skip ?_
      try simp only [thenA, inBlockA, ite_true, ite_false, reduceIte, Nat.reduceEqDiff]
      refine hK7 _ ?_
      refine AT_seq_k fun K8 hK8 => ?_
      refine AT_block ?_
      refine AT_seq_region fun K9 hK9 => ?_
      simp [row_map, hb13]
      repeat (refine ⟨by first | omega | (simp at *; omega), ?_⟩)
      refine hK9 _ ?_
      clear hK9 K9
      refine AT_region_q fun K10 hK10 => ?_
      simp [row_map, hb13]
      repeat (refine ⟨by first | omega | (simp at *; omega), ?_⟩)
      refine RVn_call (hs l[k] (by simp)) ?_
      simp [row_map, hb13]
      repeat (refine ⟨by first | omega | (simp at *; omega), ?_⟩)
      refine hK10 _ ?_
      clear hK10 K10
      try simp only [thenA, inBlockA, ite_true, ite_false, reduceIte, Nat.reduceEqDiff]
      refine hK8 _ ?_
      refine AT_region_q fun K11 hK11 => ?_
      simp [row_map, hb13]
      repeat (refine ⟨by first | omega | (simp at *; omega), ?_⟩)
      refine hK11 _ ?_
      clear hK11 K11
      try simp only [thenA, inBlockA, ite_true, ite_false, reduceIte, Nat.reduceEqDiff]
      refine hK5 _ (by first | rfl | simp) (l.length - (k+1)) (by omega) ?_
      have hs2 := take_map_succ (encTy ∘ res) l k hb13
      exact ⟨k+1, by omega, by omega, by simp [hs2]⟩
    ·
      try simp [row_map] at hb13
      refine AT_exit ?_
      try simp only [thenA, inBlockA, ite_true, ite_false, reduceIte, Nat.reduceEqDiff]
      refine hK3 _ ?_
      refine AT_seq_region fun K12 hK12 => ?_
      simp [row_map, hb13]
      repeat (refine ⟨by first | omega | (simp at *; omega), ?_⟩)
      refine hK12 _ ?_
      clear hK12 K12
      refine AT_ret ?_
      simp [row_map, Tryd.f24]
      rw [List.take_of_length_le (by simpa using hb13)]

theorem c_ref04x_All (l : List Ty) (ns as_ : List (List AV)) (res : Ty → Ty) (hl : l.length ≤ 1099511627776) (hs : ∀ t ∈ l, Valid Tryd.prog (G0 g rnd) 27 [.agg (encTy t), .slice ns, .slice as_] (.agg (encTy (res t)))) : Valid Tryd.prog (G0 g rnd) 25 [.slice (l.map encTy), .slice ns, .slice as_] (.slice ((l.map res).map encTy)) := by

  refine valid_of [(7, 24)] Tryd.func25 rfl (by kernel_rfl) ?_
  refine AT_seq_region fun K1 hK1 => ?_
  simp [row_map, Tryd.f25]
  repeat (refine ⟨by first | omega | (simp at *; omega), ?_⟩)
  refine hK1 _ ?_
  clear hK1 K1
  refine AT_seq_region fun K2 hK2 => ?_
  simp [row_map]
  repeat (refine ⟨by first | omega | (simp at *; omega), ?_⟩)
  refine hK2 _ ?_
  clear hK2 K2
  refine AT_seq_k fun K3 hK3 => ?_
  refine AT_seq_region fun K4 hK4 => ?_
  simp [row_map]
  repeat (refine ⟨by first | omega | (simp at *; omega), ?_⟩)
  refine hK4 _ ?_
  clear hK4 K4
  refine AT_block ?_
  refine AT_loop_q [0,1,2,7,8] [] (fun j s => ∃ k, k ≤ l.length ∧ j = l.length - k ∧ s = { n := 26, tm := [(0, .v (.slice (l.map encTy)) none), (1, .v (.slice ns) none), (2, .v (.slice as_) none), (7, .v (.slice (((l.take k).map res).map encTy)) (some (7, 24))), (8, .v (.int .i64 k) none)], bx := [], tb := [], sh := [], hint := [(7, 24)] }) (l.length) (by first | rfl | simp) ?_ ?_
  ·
    exact ⟨0, by simp⟩
  ·
    rintro j s ⟨k, hk, rfl, rfl⟩ K5 hK5
    refine AT_seq_k fun K6 hK6 => ?_
    refine AT_seq_region fun K7 hK7 => ?_
    simp [row_map]
    repeat (refine ⟨by first | omega | (simp at *; omega), ?_⟩)
    refine hK7 _ ?_
    clear hK7 K7
    refine AT_cond (g := none) rfl (fun hb12 => ?_) (fun hb12 => ?_)
    ·
      try simp [row_map] at hb12
      refine AT_skip ?_
      try simp only [thenA, inBlockA, ite_true, ite_false, reduceIte, Nat.reduceEqDiff]
      refine hK6 _ ?_
      refine AT_seq_k fun K8 hK8 => ?_
      refine AT_block ?_
      refine AT_region_q fun K9 hK9 => ?_
      simp [row_map, hb12]
      repeat (refine ⟨by first | omega | (simp at *; omega), ?_⟩)
      refine RVn_call (hs l[k] (by simp)) ?_
      simp [row_map, hb12]
      repeat (refine ⟨by first | omega | (simp at *; omega), ?_⟩)
      refine hK9 _ ?_
      clear hK9 K9
      try simp only [thenA, inBlockA, ite_true, ite_false, reduceIte, Nat.reduceEqDiff]
      refine hK8 _ ?_
      refine AT_region_q fun K10 hK10 => ?_
      simp [row_map, hb12]
      repeat (refine ⟨by first | omega | (simp at *; omega), ?_⟩)
      refine hK10 _ ?_
      clear hK10 K10
      try simp only [thenA, inBlockA, ite_true, ite_false, reduceIte, Nat.reduceEqDiff]
      refine hK5 _ (by first | rfl | simp) (l.length - (k+1)) (by omega) ?_
      have hs2 := take_map_succ (encTy ∘ res) l k hb12
      exact ⟨k+1, by omega, by omega, by simp [hs2]⟩
    ·
      try simp [row_map] at hb12
      refine AT_exit ?_
      try simp only [thenA, inBlockA, ite_true, ite_false, reduceIte, Nat.reduceEqDiff]
      refine hK3 _ ?_
      refine AT_seq_region fun K11 hK11 => ?_
      simp [row_map, hb12]
      repeat (refine ⟨by first | omega | (simp at *; omega), ?_⟩)
      refine hK11 _ ?_
      clear hK11 K11
      refine AT_ret ?_
      simp [row_map, Tryd.f25]
      rw [List.take_of_length_le (by simpa using hb12)]

end Go.Proofs.YtghmdnfdocdgfaaDoor

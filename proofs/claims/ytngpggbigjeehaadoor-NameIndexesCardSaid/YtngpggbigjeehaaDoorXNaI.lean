/- Contracts. -/
import Derived.Test.YtngpggbigjeehaaDoorPt
import Derived.Test.YtngpggbigjeehaaDoorPvLa
import Derived.Test.YtngpggbigjeehaaDoorPvX
set_option linter.all false
set_option maxHeartbeats 1000000
set_option maxRecDepth 10000
namespace Go.Proofs.YtngpggbigjeehaaDoor
open Go Go.Pv
variable (g : Nat → Option (List AV)) (rnd : Bool)

theorem c_slices_Index_string_string (l : List Str) (x : Str) (hl : l.length ≤ 140737488355328) : Valid Tryd.prog (G0 g rnd) 29 [.slice (l.map encS), .str x] (.int .i64 (idxF l x 0)) := by

  refine valid_of [] Tryd.func29 rfl (by kernel_rfl) ?_
  refine AT_seq_region fun K1 hK1 => ?_
  simp [row_map, Tryd.f29]
  repeat (refine ⟨by first | omega | (simp at *; omega), ?_⟩)
  refine hK1 _ ?_
  clear hK1 K1
  refine AT_seq_k fun K2 hK2 => ?_
  refine AT_seq_region fun K3 hK3 => ?_
  simp [row_map]
  repeat (refine ⟨by first | omega | (simp at *; omega), ?_⟩)
  refine hK3 _ ?_
  clear hK3 K3
  refine AT_block ?_
  refine AT_loop_q [0,1,6,7,8] [] (fun j s => ∃ k, k ≤ l.length ∧ idxF l x 0 = idxF (l.drop k) x k ∧ j = l.length - k ∧ s = { n := 19, tm := [(0, .v (.slice (l.map encS)) none), (1, .v (.str x) none), (6, .v (.slice (l.map encS)) none), (7, .v (.int .i64 l.length) none), (8, .v (.int .i64 k) none)], bx := [], tb := [], sh := [], hint := [] }) (l.length) (by first | rfl | simp) ?_ ?_
  ·
    exact ⟨0, by simp⟩
  ·
    rintro j s ⟨k, hk, hc, rfl, rfl⟩ K4 hK4
    refine AT_seq_region fun K5 hK5 => ?_
    simp [row_map]
    repeat (refine ⟨by first | omega | (simp at *; omega), ?_⟩)
    refine hK5 _ ?_
    clear hK5 K5
    refine AT_seq_k fun K6 hK6 => ?_
    refine AT_cond (g := none) rfl (fun hb9 => ?_) (fun hb9 => ?_)
    ·
      try simp [row_map] at hb9
      refine AT_skip ?_
      try simp only [thenA, inBlockA, ite_true, ite_false, reduceIte, Nat.reduceEqDiff]
      refine hK6 _ ?_
      refine AT_seq_k fun K7 hK7 => ?_
      refine AT_block ?_
      refine AT_seq_region fun K8 hK8 => ?_
      simp [row_map, hb9]
      repeat (refine ⟨by first | omega | (simp at *; omega), ?_⟩)
      refine hK8 _ ?_
      clear hK8 K8
      refine AT_seq_region fun K9 hK9 => ?_
      have hd := List.drop_eq_getElem_cons hb9
      simp [row_map, hb9]
      repeat (refine ⟨by first | omega | (simp at *; omega), ?_⟩)
      refine hK9 _ ?_
      clear hK9 K9
      refine AT_cond (g := none) rfl (fun hb16 => ?_) (fun hb16 => ?_)
      ·
        try simp [row_map, hb9] at hb16
        refine AT_seq_region fun K10 hK10 => ?_
        simp [row_map, hb9]
        repeat (refine ⟨by first | omega | (simp at *; omega), ?_⟩)
        refine hK10 _ ?_
        clear hK10 K10
        refine AT_ret ?_
        simp [row_map, Tryd.f29]
        first | (rw [hc, hd, idxF, if_pos hb16]) | (rw [hc, List.drop_eq_nil_of_le hb9]; rfl)
      ·
        try simp [row_map, hb9] at hb16
        refine AT_skip ?_
        try simp only [thenA, inBlockA, ite_true, ite_false, reduceIte, Nat.reduceEqDiff]
        refine hK7 _ ?_
        refine AT_region_q fun K11 hK11 => ?_
        simp [row_map, hb9]
        repeat (refine ⟨by first | omega | (simp at *; omega), ?_⟩)
        refine hK11 _ ?_
        clear hK11 K11
        try simp only [thenA, inBlockA, ite_true, ite_false, reduceIte, Nat.reduceEqDiff]
        refine hK4 _ (by first | rfl | simp) (l.length - (k+1)) (by omega) ?_
        refine ⟨k+1, by omega, ?_, by omega, by simp⟩
        rw [hc, hd, idxF, if_neg hb16]
    ·
      try simp [row_map] at hb9
      refine AT_exit ?_
      try simp only [thenA, inBlockA, ite_true, ite_false, reduceIte, Nat.reduceEqDiff]
      refine hK2 _ ?_
      refine AT_seq_region fun K12 hK12 => ?_
      simp [row_map, hb9]
      repeat (refine ⟨by first | omega | (simp at *; omega), ?_⟩)
      refine hK12 _ ?_
      clear hK12 K12
      refine AT_ret ?_
      simp [row_map, Tryd.f29]
      first | (rw [hc, hd, idxF, if_pos hb16]) | (rw [hc, List.drop_eq_nil_of_le hb9]; rfl)

end Go.Proofs.YtngpggbigjeehaaDoor

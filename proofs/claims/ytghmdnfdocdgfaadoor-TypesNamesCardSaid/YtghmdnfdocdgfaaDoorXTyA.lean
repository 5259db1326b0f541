/- Contracts. -/
import Derived.Test.YtghmdnfdocdgfaaDoorPt
import Derived.Test.YtghmdnfdocdgfaaDoorPvZ
set_option linter.all false
set_option maxHeartbeats 1000000
set_option maxRecDepth 10000
namespace Go.Proofs.YtghmdnfdocdgfaaDoor
open Go Go.Pv
variable (g : Nat → Option (List AV)) (rnd : Bool)

theorem c_ref04x_Depth (t : Ty) : wt t ≤ 1099511627776 → Valid Tryd.prog (G0 g rnd) 17 [.agg (encTy t)] (.int .i64 (dep t)) := by
  induction t using Ty.ind with
  | h n ts p ih =>
  intro hw
  have hw2 : n.length + 1 + wts ts ≤ 1099511627776 := by simpa [wt] using hw
  have hln := wts_len ts
  refine valid_of [] Tryd.func17 rfl (by kernel_rfl) ?_
  refine AT_seq_region fun K1 hK1 => ?_
  simp [row_map, Tryd.f17]
  repeat (refine ⟨by first | omega | (simp at *; omega), ?_⟩)
  refine hK1 _ ?_
  clear hK1 K1
  refine AT_seq_region fun K2 hK2 => ?_
  simp [row_map]
  repeat (refine ⟨by first | omega | (simp at *; omega), ?_⟩)
  refine hK2 _ ?_
  clear hK2 K2
  refine AT_seq_k fun K3 hK3 => ?_
  refine AT_seq_region fun K4 hK4 => ?_
  simp [row_map]
  repeat (refine ⟨by first | omega | (simp at *; omega), ?_⟩)
  refine hK4 _ ?_
  clear hK4 K4
  refine AT_block ?_
  refine AT_loop_q [3,4,1] [1] (fun j s => ∃ k, k ≤ ts.length ∧ j = ts.length - k ∧ s = { n := 25, tm := [(3, .v (.int .i64 (1 + deps (ts.take k) : Nat)) none), (4, .v (.int .i64 k) none), (1, .lp 1 0)], bx := [(1, encTy (.mk n ts p))], tb := [], sh := [], hint := [] }) (ts.length) (by first | rfl | simp) ?_ ?_
  ·
    exact ⟨0, by simp [deps]⟩
  ·
    rintro j s ⟨k, hk, rfl, rfl⟩ K5 hK5
    refine AT_seq_k fun K6 hK6 => ?_
    refine AT_seq_region fun K7 hK7 => ?_
    simp [row_map]
    repeat (refine ⟨by first | omega | (simp at *; omega), ?_⟩)
    refine hK7 _ ?_
    clear hK7 K7
    refine AT_cond (g := none) rfl (fun hb10 => ?_) (fun hb10 => ?_)
    ·
      try simp [row_map] at hb10
      refine AT_skip ?_
      try simp only [thenA, inBlockA, ite_true, ite_false, reduceIte, Nat.reduceEqDiff]
      refine hK6 _ ?_
      refine AT_seq_k fun K8 hK8 => ?_
      refine AT_block ?_
      refine AT_seq_region fun K9 hK9 => ?_
      have hm := wts_mem (l := ts) (t := ts[k]) (by simp)
      have hdk := dep_wt ts[k]
      have hdt := deps_wts (ts.take k)
      have hwt := wts_take ts k
      simp [row_map, hb10]
      repeat (refine ⟨by first | omega | (simp at *; omega), ?_⟩)
      refine RVn_call (ih ts[k] (by simp) (by omega)) ?_
      simp [row_map, hb10]
      repeat (refine ⟨by first | omega | (simp at *; omega), ?_⟩)
      refine hK9 _ ?_
      clear hK9 K9
      refine AT_seq_region fun K10 hK10 => ?_
      simp [row_map, hb10]
      repeat (refine ⟨by first | omega | (simp at *; omega), ?_⟩)
      refine hK10 _ ?_
      clear hK10 K10
      refine AT_cond (g := none) rfl (fun hb22 => ?_) (fun hb22 => ?_)
      ·
        try simp [row_map, hb10] at hb22
        refine AT_region_q fun K11 hK11 => ?_
        simp [row_map, hb10, hb22]
        repeat (refine ⟨by first | omega | (simp at *; omega), ?_⟩)
        refine hK11 _ ?_
        clear hK11 K11
        try simp only [thenA, inBlockA, ite_true, ite_false, reduceIte, Nat.reduceEqDiff]
        refine hK8 _ ?_
        refine AT_region_q fun K12 hK12 => ?_
        simp [row_map, hb10, hb22]
        repeat (refine ⟨by first | omega | (simp at *; omega), ?_⟩)
        refine hK12 _ ?_
        clear hK12 K12
        try simp only [thenA, inBlockA, ite_true, ite_false, reduceIte, Nat.reduceEqDiff]
        refine hK5 _ (by first | rfl | simp) (ts.length - (k+1)) (by omega) ?_
        exact ⟨k+1, by omega, by omega, by simp [deps_take _ _ hb10]; omega⟩
      ·
        try simp [row_map, hb10] at hb22
        refine AT_skip ?_
        try simp only [thenA, inBlockA, ite_true, ite_false, reduceIte, Nat.reduceEqDiff]
        refine hK8 _ ?_
        refine AT_region_q fun K13 hK13 => ?_
        simp [row_map, hb10, hb22]
        repeat (refine ⟨by first | omega | (simp at *; omega), ?_⟩)
        refine hK13 _ ?_
        clear hK13 K13
        try simp only [thenA, inBlockA, ite_true, ite_false, reduceIte, Nat.reduceEqDiff]
        refine hK5 _ (by first | rfl | simp) (ts.length - (k+1)) (by omega) ?_
        exact ⟨k+1, by omega, by omega, by simp [deps_take _ _ hb10]; omega⟩
    ·
      try simp [row_map] at hb10
      refine AT_exit ?_
      try simp only [thenA, inBlockA, ite_true, ite_false, reduceIte, Nat.reduceEqDiff]
      refine hK3 _ ?_
      refine AT_seq_region fun K14 hK14 => ?_
      simp [row_map, hb10]
      repeat (refine ⟨by first | omega | (simp at *; omega), ?_⟩)
      refine hK14 _ ?_
      clear hK14 K14
      refine AT_ret ?_
      simp [row_map, Tryd.f17]
      rw [List.take_of_length_le hb10]; simp [dep]; omega

theorem c_types_Depth (t : Ty) : wt t ≤ 1099511627776 → Valid Tryd.prog (G0 g rnd) 16 [.agg (encTy t)] (.int .i64 (dep t)) := by
  induction t using Ty.ind with
  | h n ts p ih =>
  intro hw
  have hw2 : n.length + 1 + wts ts ≤ 1099511627776 := by simpa [wt] using hw
  have hln := wts_len ts
  refine valid_of [] Tryd.func16 rfl (by kernel_rfl) ?_
  refine AT_seq_region fun K1 hK1 => ?_
  simp [row_map, Tryd.f16]
  repeat (refine ⟨by first | omega | (simp at *; omega), ?_⟩)
  refine hK1 _ ?_
  clear hK1 K1
  refine AT_seq_region fun K2 hK2 => ?_
  simp [row_map]
  repeat (refine ⟨by first | omega | (simp at *; omega), ?_⟩)
  refine hK2 _ ?_
  clear hK2 K2
  refine AT_seq_k fun K3 hK3 => ?_
  refine AT_seq_region fun K4 hK4 => ?_
  simp [row_map]
  repeat (refine ⟨by first | omega | (simp at *; omega), ?_⟩)
  refine hK4 _ ?_
  clear hK4 K4
  refine AT_block ?_
  refine AT_loop_q [3,7,8,9,1] [1] (fun j s => ∃ k, k ≤ ts.length ∧ j = ts.length - k ∧ s = { n := 20, tm := [(3, .v (.int .i64 (deps (ts.take k) : Nat)) none), (7, .v (.slice (ts.map encTy)) none), (8, .v (.int .i64 ts.length) none), (9, .v (.int .i64 k) none), (1, .lp 1 0)], bx := [(1, encTy (.mk n ts p))], tb := [], sh := [], hint := [] }) (ts.length) (by first | rfl | simp) ?_ ?_
  ·
    exact ⟨0, by simp [deps]⟩
  ·
    rintro j s ⟨k, hk, rfl, rfl⟩ K5 hK5
    refine AT_seq_region fun K6 hK6 => ?_
    simp [row_map]
    repeat (refine ⟨by first | omega | (simp at *; omega), ?_⟩)
    refine hK6 _ ?_
    clear hK6 K6
    refine AT_seq_k fun K7 hK7 => ?_
    refine AT_cond (g := none) rfl (fun hb10 => ?_) (fun hb10 => ?_)
    ·
      try simp [row_map] at hb10
      refine AT_skip ?_
      try simp only [thenA, inBlockA, ite_true, ite_false, reduceIte, Nat.reduceEqDiff]
      refine hK7 _ ?_
      refine AT_seq_k fun K8 hK8 => ?_
      refine AT_block ?_
      refine AT_seq_region fun K9 hK9 => ?_
      have hm := wts_mem (l := ts) (t := ts[k]) (by simp)
      have hdk := dep_wt ts[k]
      have hdt := deps_wts (ts.take k)
      have hwt := wts_take ts k
      simp [row_map, hb10]
      repeat (refine ⟨by first | omega | (simp at *; omega), ?_⟩)
      refine hK9 _ ?_
      clear hK9 K9
      refine AT_region_q fun K10 hK10 => ?_
      simp [row_map, hb10]
      repeat (refine ⟨by first | omega | (simp at *; omega), ?_⟩)
      refine RVn_call (ih ts[k] (by simp) (by omega)) ?_
      simp [row_map, hb10]
      repeat (refine ⟨by first | omega | (simp at *; omega), ?_⟩)
      refine hK10 _ ?_
      clear hK10 K10
      try simp only [thenA, inBlockA, ite_true, ite_false, reduceIte, Nat.reduceEqDiff]
      refine hK8 _ ?_
      refine AT_region_q fun K11 hK11 => ?_
      simp [row_map, hb10]
      repeat (refine ⟨by first | omega | (simp at *; omega), ?_⟩)
      refine hK11 _ ?_
      clear hK11 K11
      try simp only [thenA, inBlockA, ite_true, ite_false, reduceIte, Nat.reduceEqDiff]
      refine hK5 _ (by first | rfl | simp) (ts.length - (k+1)) (by omega) ?_
      exact ⟨k+1, by omega, by omega, by simp [deps_take _ _ hb10]; split <;> omega⟩
    ·
      try simp [row_map] at hb10
      refine AT_exit ?_
      try simp only [thenA, inBlockA, ite_true, ite_false, reduceIte, Nat.reduceEqDiff]
      refine hK3 _ ?_
      refine AT_seq_region fun K12 hK12 => ?_
      have hdt := deps_wts (ts.take k)
      have hwt := wts_take ts k
      simp [row_map, hb10]
      repeat (refine ⟨by first | omega | (simp at *; omega), ?_⟩)
      refine hK12 _ ?_
      clear hK12 K12
      refine AT_ret ?_
      simp [row_map, Tryd.f16]
      rw [List.take_of_length_le hb10]; simp [dep]

end Go.Proofs.YtghmdnfdocdgfaaDoor

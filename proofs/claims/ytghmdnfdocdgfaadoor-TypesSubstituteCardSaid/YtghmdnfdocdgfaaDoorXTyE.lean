/- Contracts. -/
import Derived.Test.YtghmdnfdocdgfaaDoorPt
import Derived.Test.YtghmdnfdocdgfaaDoorPvZ
set_option linter.all false
set_option maxHeartbeats 1000000
set_option maxRecDepth 10000
namespace Go.Proofs.YtghmdnfdocdgfaaDoor
open Go Go.Pv
variable (g : Nat → Option (List AV)) (rnd : Bool)

theorem c_ref04x_Count : ∀ t : Ty, fit t → ∀ j0 : Nat, j0 ≤ 1000000000000000 → Valid Tryd.prog (G0 g rnd) 31 [.agg (encTy t), .int .i64 j0] (.int .i64 (cnt t j0)) := by
  intro t
  induction t using Ty.ind with
  | h n ts p ih =>
  intro hf j0 hj
  rw [fit] at hf
  obtain ⟨hf1, hf2, hf3⟩ := hf
  refine valid_of [] Tryd.func31 rfl (by kernel_rfl) ?_
  refine AT_seq_region fun K1 hK1 => ?_
  simp [row_map, tdiv50, Tryd.f31]
  repeat (refine ⟨by first | omega | (simp at *; omega), ?_⟩)
  refine hK1 _ ?_
  clear hK1 K1
  refine AT_seq_region fun K2 hK2 => ?_
  simp [row_map, tdiv50]
  repeat (refine ⟨by first | omega | (simp at *; omega), ?_⟩)
  refine hK2 _ ?_
  clear hK2 K2
  refine AT_seq_k fun K3 hK3 => ?_
  refine AT_seq_region fun K4 hK4 => ?_
  simp [row_map, tdiv50]
  repeat (refine ⟨by first | omega | (simp at *; omega), ?_⟩)
  refine hK4 _ ?_
  clear hK4 K4
  refine AT_block ?_
  refine AT_loop_q [2,1,5] [2] (fun j s => ∃ k c, k ≤ ts.length ∧ cnts ts (j0 + 1 + n.length / 50) = cnts (ts.drop k) c ∧ j = ts.length - k ∧ s = { n := 32, tm := [(2, .lp 2 0), (1, .v (.int .i64 (c : Nat)) none), (5, .v (.int .i64 k) none)], bx := [(2, encTy (.mk n ts p))], tb := [], sh := [], hint := [] }) (ts.length) (by first | rfl | simp) ?_ ?_
  ·
    exact ⟨0, j0 + 1 + n.length / 50, by simp⟩
  ·
    rintro j s ⟨k, c, hk, hc, rfl, rfl⟩ K5 hK5
    refine AT_seq_k fun K6 hK6 => ?_
    by_cases hkt : k < ts.length
    ·
      refine AT_seq_region fun K7 hK7 => ?_
      simp [row_map, tdiv50, hkt]
      repeat (refine ⟨by first | omega | (simp at *; omega), ?_⟩)
      refine hK7 _ ?_
      clear hK7 K7
      refine AT_cond (g := none) rfl (fun hb21 => ?_) (fun hb21 => ?_)
      ·
        try simp [row_map, tdiv50, hkt] at hb21
        refine AT_skip ?_
        try simp only [thenA, inBlockA, ite_true, ite_false, reduceIte, Nat.reduceEqDiff]
        refine hK6 _ ?_
        refine AT_seq_k fun K8 hK8 => ?_
        refine AT_block ?_
        refine AT_region_q fun K9 hK9 => ?_
        simp [row_map, tdiv50, hkt]
        repeat (refine ⟨by first | omega | (simp at *; omega), ?_⟩)
        refine RVn_call (ih ts[k] (by simp) (fits_mem hf3 (by simp)) c (by omega)) ?_
        simp [row_map, tdiv50, hkt]
        repeat (refine ⟨by first | omega | (simp at *; omega), ?_⟩)
        refine hK9 _ ?_
        clear hK9 K9
        try simp only [thenA, inBlockA, ite_true, ite_false, reduceIte, Nat.reduceEqDiff]
        refine hK8 _ ?_
        refine AT_region_q fun K10 hK10 => ?_
        simp [row_map, tdiv50, hkt]
        repeat (refine ⟨by first | omega | (simp at *; omega), ?_⟩)
        refine hK10 _ ?_
        clear hK10 K10
        try simp only [thenA, inBlockA, ite_true, ite_false, reduceIte, Nat.reduceEqDiff]
        refine hK5 _ (by first | rfl | simp) (ts.length - (k+1)) (by omega) ?_
        refine ⟨k+1, cnt ts[k] c, by omega, ?_, by omega, by simp⟩
        rw [hc, List.drop_eq_getElem_cons hkt, cnts_cons, if_pos (by omega)]
      ·
        try simp [row_map, tdiv50, hkt] at hb21
        refine AT_exit ?_
        try simp only [thenA, inBlockA, ite_true, ite_false, reduceIte, Nat.reduceEqDiff]
        refine hK3 _ ?_
        refine AT_seq_region fun K11 hK11 => ?_
        simp [row_map, tdiv50, hkt]
        repeat (refine ⟨by first | omega | (simp at *; omega), ?_⟩)
        refine hK11 _ ?_
        clear hK11 K11
        refine AT_ret ?_
        simp [row_map, tdiv50, Tryd.f31]
        first
        | (rw [show cnt (.mk n ts p) j0 = cnts ts (j0 + 1 + n.length / 50) by simp [cnt], hc, List.drop_eq_getElem_cons hkt, cnts_cons, if_neg (by omega)])
        | (rw [show cnt (.mk n ts p) j0 = cnts ts (j0 + 1 + n.length / 50) by simp [cnt], hc, List.drop_eq_nil_of_le (by omega)]; rfl)
    ·
      refine AT_seq_region fun K12 hK12 => ?_
      simp [row_map, tdiv50, hkt]
      repeat (refine ⟨by first | omega | (simp at *; omega), ?_⟩)
      refine hK12 _ ?_
      clear hK12 K12
      refine AT_cond (b := false) (g := none) (by simp [hkt]) (fun hb => ?_) (fun hb => ?_)
      ·
        cases hb
      ·
        clear hb
        refine AT_exit ?_
        try simp only [thenA, inBlockA, ite_true, ite_false, reduceIte, Nat.reduceEqDiff]
        refine hK3 _ ?_
        refine AT_seq_region fun K13 hK13 => ?_
        simp [row_map, tdiv50, hkt]
        repeat (refine ⟨by first | omega | (simp at *; omega), ?_⟩)
        refine hK13 _ ?_
        clear hK13 K13
        refine AT_ret ?_
        simp [row_map, tdiv50, Tryd.f31]
        first
        | (rw [show cnt (.mk n ts p) j0 = cnts ts (j0 + 1 + n.length / 50) by simp [cnt], hc, List.drop_eq_getElem_cons hkt, cnts_cons, if_neg (by omega)])
        | (rw [show cnt (.mk n ts p) j0 = cnts ts (j0 + 1 + n.length / 50) by simp [cnt], hc, List.drop_eq_nil_of_le (by omega)]; rfl)

theorem c_ref04x_Few (t : Ty) (hf : fit t) : Valid Tryd.prog (G0 g rnd) 10 [.agg (encTy t)] (.bool (decide (cnt t 0 ≤ 200))) := by

  refine valid_of [] Tryd.func10 rfl (by kernel_rfl) ?_
  refine AT_seq_region fun K1 hK1 => ?_
  simp [Tryd.f10]
  repeat (refine ⟨by first | omega | (simp at *; omega), ?_⟩)
  refine hK1 _ ?_
  clear hK1 K1
  refine AT_seq_region fun K2 hK2 => ?_
  simp
  repeat (refine ⟨by first | omega | (simp at *; omega), ?_⟩)
  refine RVn_call (c_ref04x_Count g rnd t hf 0 (by omega)) ?_
  simp
  repeat (refine ⟨by first | omega | (simp at *; omega), ?_⟩)
  refine hK2 _ ?_
  clear hK2 K2
  refine AT_ret ?_
  simp [Tryd.f10]
  omega

theorem c_ref04x_FewAll (ts : List Ty) (hl : ts.length ≤ 140737488355328) (hf : fits ts) : Valid Tryd.prog (G0 g rnd) 22 [.slice (ts.map encTy)] (.bool (decide (cnts ts 0 ≤ 200))) := by

  refine valid_of [] Tryd.func22 rfl (by kernel_rfl) ?_
  refine AT_seq_region fun K1 hK1 => ?_
  simp [row_map, Tryd.f22]
  repeat (refine ⟨by first | omega | (simp at *; omega), ?_⟩)
  refine hK1 _ ?_
  clear hK1 K1
  refine AT_seq_region fun K2 hK2 => ?_
  simp [row_map]
  repeat (refine ⟨by first | omega | (simp at *; omega), ?_⟩)
  refine hK2 _ ?_
  clear hK2 K2
  refine AT_seq_k fun K3 hK3 => ?_
  refine AT_seq_region fun K4 hK4 => ?_
  simp [row_map]
  repeat (refine ⟨by first | omega | (simp at *; omega), ?_⟩)
  refine hK4 _ ?_
  clear hK4 K4
  refine AT_block ?_
  refine AT_loop_q [0,3,4] [] (fun j s => ∃ k c, k ≤ ts.length ∧ cnts ts 0 = cnts (ts.drop k) c ∧ j = ts.length - k ∧ s = { n := 23, tm := [(0, .v (.slice (ts.map encTy)) none), (3, .v (.int .i64 (c : Nat)) none), (4, .v (.int .i64 k) none)], bx := [], tb := [], sh := [], hint := [] }) (ts.length) (by first | rfl | simp) ?_ ?_
  ·
    exact ⟨0, 0, by simp⟩
  ·
    rintro j s ⟨k, c, hk, hc, rfl, rfl⟩ K5 hK5
    refine AT_seq_k fun K6 hK6 => ?_
    by_cases hkt : k < ts.length
    ·
      refine AT_seq_region fun K7 hK7 => ?_
      simp [row_map, hkt]
      repeat (refine ⟨by first | omega | (simp at *; omega), ?_⟩)
      refine hK7 _ ?_
      clear hK7 K7
      refine AT_cond (g := none) rfl (fun hb12 => ?_) (fun hb12 => ?_)
      ·
        try simp [row_map, hkt] at hb12
        refine AT_skip ?_
        try simp only [thenA, inBlockA, ite_true, ite_false, reduceIte, Nat.reduceEqDiff]
        refine hK6 _ ?_
        refine AT_seq_k fun K8 hK8 => ?_
        refine AT_block ?_
        refine AT_region_q fun K9 hK9 => ?_
        simp [row_map, hkt]
        repeat (refine ⟨by first | omega | (simp at *; omega), ?_⟩)
        refine RVn_call (c_ref04x_Count g rnd ts[k] (fits_mem hf (by simp)) c (by omega)) ?_
        simp [row_map, hkt]
        repeat (refine ⟨by first | omega | (simp at *; omega), ?_⟩)
        refine hK9 _ ?_
        clear hK9 K9
        try simp only [thenA, inBlockA, ite_true, ite_false, reduceIte, Nat.reduceEqDiff]
        refine hK8 _ ?_
        refine AT_region_q fun K10 hK10 => ?_
        simp [row_map, hkt]
        repeat (refine ⟨by first | omega | (simp at *; omega), ?_⟩)
        refine hK10 _ ?_
        clear hK10 K10
        try simp only [thenA, inBlockA, ite_true, ite_false, reduceIte, Nat.reduceEqDiff]
        refine hK5 _ (by first | rfl | simp) (ts.length - (k+1)) (by omega) ?_
        refine ⟨k+1, cnt ts[k] c, by omega, ?_, by omega, by simp⟩
        rw [hc, List.drop_eq_getElem_cons hkt, cnts_cons, if_pos (by omega)]
      ·
        try simp [row_map, hkt] at hb12
        refine AT_exit ?_
        try simp only [thenA, inBlockA, ite_true, ite_false, reduceIte, Nat.reduceEqDiff]
        refine hK3 _ ?_
        refine AT_seq_region fun K11 hK11 => ?_
        simp [row_map, hkt]
        repeat (refine ⟨by first | omega | (simp at *; omega), ?_⟩)
        refine hK11 _ ?_
        clear hK11 K11
        refine AT_ret ?_
        simp [row_map, Tryd.f22]
        first
        | (rw [hc, List.drop_eq_getElem_cons hkt, cnts_cons, if_neg (by omega)]; omega)
        | (rw [hc, List.drop_eq_nil_of_le (by omega), cnts]; omega)
    ·
      refine AT_seq_region fun K12 hK12 => ?_
      simp [row_map, hkt]
      repeat (refine ⟨by first | omega | (simp at *; omega), ?_⟩)
      refine hK12 _ ?_
      clear hK12 K12
      refine AT_cond (b := false) (g := none) (by simp [hkt]) (fun hb => ?_) (fun hb => ?_)
      ·
        cases hb
      ·
        clear hb
        refine AT_exit ?_
        try simp only [thenA, inBlockA, ite_true, ite_false, reduceIte, Nat.reduceEqDiff]
        refine hK3 _ ?_
        refine AT_seq_region fun K13 hK13 => ?_
        simp [row_map, hkt]
        repeat (refine ⟨by first | omega | (simp at *; omega), ?_⟩)
        refine hK13 _ ?_
        clear hK13 K13
        refine AT_ret ?_
        simp [row_map, Tryd.f22]
        first
        | (rw [hc, List.drop_eq_getElem_cons hkt, cnts_cons, if_neg (by omega)]; omega)
        | (rw [hc, List.drop_eq_nil_of_le (by omega), cnts]; omega)

end Go.Proofs.YtghmdnfdocdgfaaDoor

/- Contracts. -/
import Derived.Test.YtghmdnfdocdgfaaDoorPt
import Derived.Test.YtghmdnfdocdgfaaDoorPvZ
import Derived.Test.YtghmdnfdocdgfaaDoorXTyH
set_option linter.all false
set_option maxHeartbeats 1000000
set_option maxRecDepth 10000
namespace Go.Proofs.YtghmdnfdocdgfaaDoor
open Go Go.Pv
variable (g : Nat → Option (List AV)) (rnd : Bool)

theorem c_ref04x_Subst_n : ∀ t : Ty, wt t ≤ 1099511627776 → Valid Tryd.prog (G0 g rnd) 27 [.agg (encTy t), .slice [], .slice []] (.agg (encTy t)) := by
  intro t
  induction t using Ty.ind with
  | h n ts p ih =>
  intro hw
  have hw2 : n.length + 1 + wts ts ≤ 1099511627776 := by simpa [wt] using hw
  have hln := wts_len ts
  refine valid_of [(109001, 24)] Tryd.func27 rfl (by kernel_rfl) ?_
  refine AT_seq_region fun K1 hK1 => ?_
  simp [row_map, encTy_mk, Tryd.f27]
  repeat (refine ⟨by first | omega | (simp at *; omega), ?_⟩)
  refine hK1 _ ?_
  clear hK1 K1
  refine AT_seq_k fun K2 hK2 => ?_
  refine AT_seq_region fun K3 hK3 => ?_
  simp [row_map, encTy_mk]
  repeat (refine ⟨by first | omega | (simp at *; omega), ?_⟩)
  refine hK3 _ ?_
  clear hK3 K3
  refine AT_block ?_
  refine AT_loop_q [1,2,3,6,7] [3,6] (fun j s => ∃ k, k = 0 ∧ j = k ∧ s = { n := 70, tm := [(1, .v (.slice []) none), (2, .v (.slice []) none), (3, .lp 3 0), (6, .lp 6 0), (7, .v (.int .i64 0) none)], bx := [(3, encTy (.mk n ts p)), (6, [.str [], .slice [], .int .i64 0])], tb := [], sh := [], hint := [(109001, 24)] }) (0) (by first | rfl | simp) ?_ ?_
  ·
    exact ⟨0, by simp [encTy_mk]⟩
  ·
    rintro j s ⟨k, rfl, rfl, rfl⟩ K4 hK4
    refine AT_seq_k fun K5 hK5 => ?_
    refine AT_seq_region fun K6 hK6 => ?_
    simp [row_map, encTy_mk]
    repeat (refine ⟨by first | omega | (simp at *; omega), ?_⟩)
    refine hK6 _ ?_
    clear hK6 K6
    refine AT_cond (b := false) (g := none) (by simp) (fun hb => ?_) (fun hb => ?_)
    ·
      cases hb
    ·
      clear hb
      refine AT_exit ?_
      try simp only [thenA, inBlockA, ite_true, ite_false, reduceIte, Nat.reduceEqDiff]
      refine hK2 _ ?_
      refine AT_seq_region fun K7 hK7 => ?_
      simp [row_map, encTy_mk]
      repeat (refine ⟨by first | omega | (simp at *; omega), ?_⟩)
      refine hK7 _ ?_
      clear hK7 K7
      refine AT_seq_k fun K8 hK8 => ?_
      refine AT_seq_region fun K9 hK9 => ?_
      simp [row_map, encTy_mk]
      repeat (refine ⟨by first | omega | (simp at *; omega), ?_⟩)
      refine hK9 _ ?_
      clear hK9 K9
      refine AT_block ?_
      refine AT_loop_q [1,2,3,6,9,10] [3,6,9] (fun j s => ∃ k, k ≤ ts.length ∧ j = ts.length - k ∧ s = { n := 70, tm := [(1, .v (.slice []) none), (2, .v (.slice []) none), (3, .lp 3 0), (6, .lp 6 0), (9, .lp 9 0), (10, .v (.int .i64 k) none)], bx := [(3, encTy (.mk n ts p)), (6, [.str [], .slice [], .int .i64 0]), (9, [.str n, .slice (((ts.take k).map id).map encTy), .int .i64 p])], tb := [(9, 1, 109001, 24)], sh := [], hint := [(109001, 24)] }) (ts.length) (by first | rfl | simp) ?_ ?_
      ·
        exact ⟨0, by simp [encTy_mk]⟩
      ·
        rintro j s ⟨k, hk, rfl, rfl⟩ K10 hK10
        refine AT_seq_k fun K11 hK11 => ?_
        refine AT_seq_region fun K12 hK12 => ?_
        simp [row_map, encTy_mk]
        repeat (refine ⟨by first | omega | (simp at *; omega), ?_⟩)
        refine hK12 _ ?_
        clear hK12 K12
        refine AT_cond (g := none) rfl (fun hb53 => ?_) (fun hb53 => ?_)
        ·
          try simp [row_map, encTy_mk] at hb53
          refine AT_skip ?_
          try simp only [thenA, inBlockA, ite_true, ite_false, reduceIte, Nat.reduceEqDiff]
          refine hK11 _ ?_
          refine AT_seq_k fun K13 hK13 => ?_
          refine AT_block ?_
          refine AT_draw_q Pt.mixed (by kernel_rfl) fun K14 hK14 => ?_
          simp [row_map, encTy_mk, hb53]
          repeat (refine ⟨by first | omega | (simp at *; omega), ?_⟩)
          refine RVdn_call (ih ts[k] (by simp) (by have := wts_mem (l := ts) (t := ts[k]) (by simp); omega)) ?_
          simp [row_map, encTy_mk, hb53]
          repeat (refine ⟨by first | omega | (simp at *; omega), ?_⟩)
          refine hK14 _ ?_
          clear hK14 K14
          try simp only [thenA, inBlockA, ite_true, ite_false, reduceIte, Nat.reduceEqDiff]
          refine hK13 _ ?_
          refine AT_region_q fun K15 hK15 => ?_
          simp [row_map, encTy_mk, hb53]
          repeat (refine ⟨by first | omega | (simp at *; omega), ?_⟩)
          refine hK15 _ ?_
          clear hK15 K15
          try simp only [thenA, inBlockA, ite_true, ite_false, reduceIte, Nat.reduceEqDiff]
          refine hK10 _ (by first | rfl | simp) (ts.length - (k+1)) (by omega) ?_
          have hs2 := take_map_succ (encTy ∘ id) ts k hb53
          try simp at hs2
          exact ⟨k+1, by omega, by omega, by simp [hs2, encTy_mk]⟩
        ·
          try simp [row_map, encTy_mk] at hb53
          refine AT_exit ?_
          try simp only [thenA, inBlockA, ite_true, ite_false, reduceIte, Nat.reduceEqDiff]
          refine hK8 _ ?_
          refine AT_seq_region fun K16 hK16 => ?_
          simp [row_map, encTy_mk, hb53]
          repeat (refine ⟨by first | omega | (simp at *; omega), ?_⟩)
          refine hK16 _ ?_
          clear hK16 K16
          refine AT_ret ?_
          simp [row_map, encTy_mk, Tryd.f27]
          rw [List.take_of_length_le (by simpa using hb53)]

end Go.Proofs.YtghmdnfdocdgfaaDoor

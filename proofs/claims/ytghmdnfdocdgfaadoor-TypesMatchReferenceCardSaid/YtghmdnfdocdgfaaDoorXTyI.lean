/- Contracts. -/
import Derived.Test.YtghmdnfdocdgfaaDoorPt
import Derived.Test.YtghmdnfdocdgfaaDoorPvZ
import Derived.Test.YtghmdnfdocdgfaaDoorXTyH
set_option linter.all false
set_option maxHeartbeats 1000000
set_option maxRecDepth 10000
namespace Go.Proofs.YtghmdnfdocdgfaaDoor
open Go Go.Pv
variable (g : Nat → Option (List AV)) (rnd : Bool)

theorem c_types_Subst_n : ∀ t : Ty, wt t ≤ 1099511627776 → Valid Tryd.prog (G0 g rnd) 23 [.agg (encTy t), .slice [], .slice []] (.agg (encTy t)) := by
  intro t
  induction t using Ty.ind with
  | h n ts p ih =>
  intro hw
  have hw2 : n.length + 1 + wts ts ≤ 1099511627776 := by simpa [wt] using hw
  have hln := wts_len ts
  refine valid_of [] Tryd.func23 rfl (by kernel_rfl) ?_
  refine AT_seq_region fun K1 hK1 => ?_
  simp [row_map, encTy_mk, Tryd.f23]
  repeat (refine ⟨by first | omega | (simp at *; omega), ?_⟩)
  refine hK1 _ ?_
  clear hK1 K1
  refine AT_seq_k fun K2 hK2 => ?_
  refine AT_seq_region fun K3 hK3 => ?_
  simp [row_map, encTy_mk]
  repeat (refine ⟨by first | omega | (simp at *; omega), ?_⟩)
  refine RVn_call ((by simpa [idxF] using c_slices_Index_string_string g rnd [] n (by simp) : Valid Tryd.prog (G0 g rnd) 39 [.slice [], .str n] (.int .i64 (-1)))) ?_
  simp [row_map, encTy_mk]
  repeat (refine ⟨by first | omega | (simp at *; omega), ?_⟩)
  refine hK3 _ ?_
  clear hK3 K3
  by_cases h0 : ts = []
  ·
    have h0b : ((ts.length : Int) == 0) = true := by simpa using h0
    refine AT_seq_region fun K4 hK4 => ?_
    simp [row_map, encTy_mk, h0b]
    repeat (refine ⟨by first | omega | (simp at *; omega), ?_⟩)
    refine hK4 _ ?_
    clear hK4 K4
    refine AT_cond (b := false) (g := none) (by simp [h0b]) (fun hb => ?_) (fun hb => ?_)
    ·
      cases hb
    ·
      clear hb
      refine AT_skip ?_
      try simp only [thenA, inBlockA, ite_true, ite_false, reduceIte, Nat.reduceEqDiff]
      refine hK2 _ ?_
      refine AT_seq_region fun K5 hK5 => ?_
      simp [row_map, encTy_mk, h0b]
      repeat (refine ⟨by first | omega | (simp at *; omega), ?_⟩)
      refine RVn_call ((by simpa using c_types_All g rnd ts [] [] id (by omega) (fun t ht => ih t ht (Nat.le_trans (wts_mem ht) (by omega))) : Valid Tryd.prog (G0 g rnd) 24 [.slice (ts.map encTy), .slice [], .slice []] (.slice (ts.map encTy)))) ?_
      simp [row_map, encTy_mk, h0b]
      repeat (refine ⟨by first | omega | (simp at *; omega), ?_⟩)
      refine hK5 _ ?_
      clear hK5 K5
      refine AT_seq_region fun K6 hK6 => ?_
      simp [row_map, encTy_mk, h0b]
      repeat (refine ⟨by first | omega | (simp at *; omega), ?_⟩)
      refine hK6 _ ?_
      clear hK6 K6
      refine AT_ret ?_
      simp [row_map, encTy_mk, Tryd.f23]
  ·
    have h0b : ((ts.length : Int) == 0) = false := by simpa using h0
    refine AT_seq_region fun K7 hK7 => ?_
    simp [row_map, encTy_mk, h0b]
    repeat (refine ⟨by first | omega | (simp at *; omega), ?_⟩)
    refine hK7 _ ?_
    clear hK7 K7
    refine AT_cond (b := false) (g := none) (by simp [h0b]) (fun hb => ?_) (fun hb => ?_)
    ·
      cases hb
    ·
      clear hb
      refine AT_skip ?_
      try simp only [thenA, inBlockA, ite_true, ite_false, reduceIte, Nat.reduceEqDiff]
      refine hK2 _ ?_
      refine AT_seq_region fun K8 hK8 => ?_
      simp [row_map, encTy_mk, h0b]
      repeat (refine ⟨by first | omega | (simp at *; omega), ?_⟩)
      refine RVn_call ((by simpa using c_types_All g rnd ts [] [] id (by omega) (fun t ht => ih t ht (Nat.le_trans (wts_mem ht) (by omega))) : Valid Tryd.prog (G0 g rnd) 24 [.slice (ts.map encTy), .slice [], .slice []] (.slice (ts.map encTy)))) ?_
      simp [row_map, encTy_mk, h0b]
      repeat (refine ⟨by first | omega | (simp at *; omega), ?_⟩)
      refine hK8 _ ?_
      clear hK8 K8
      refine AT_seq_region fun K9 hK9 => ?_
      simp [row_map, encTy_mk, h0b]
      repeat (refine ⟨by first | omega | (simp at *; omega), ?_⟩)
      refine hK9 _ ?_
      clear hK9 K9
      refine AT_ret ?_
      simp [row_map, encTy_mk, Tryd.f23]

theorem c_types_Clone (t : Ty) (hw : wt t ≤ 1099511627776) : Valid Tryd.prog (G0 g rnd) 29 [.agg (encTy t)] (.agg (encTy t)) := by

  refine valid_of [] Tryd.func29 rfl (by kernel_rfl) ?_
  refine AT_seq_region fun K1 hK1 => ?_
  simp [Tryd.f29]
  repeat (refine ⟨by first | omega | (simp at *; omega), ?_⟩)
  refine hK1 _ ?_
  clear hK1 K1
  refine AT_seq_region fun K2 hK2 => ?_
  simp
  repeat (refine ⟨by first | omega | (simp at *; omega), ?_⟩)
  refine RVn_call (c_types_Subst_n g rnd t hw) ?_
  simp
  repeat (refine ⟨by first | omega | (simp at *; omega), ?_⟩)
  refine hK2 _ ?_
  clear hK2 K2
  refine AT_ret ?_
  simp [Tryd.f29]

end Go.Proofs.YtghmdnfdocdgfaaDoor

import Derived.Test.YtjkabaejabibnaaDoorPt
import Derived.Test.YtjkabaejabibnaaDoorPvPa
import Derived.Test.YtjkabaejabibnaaDoorPvY
import Derived.Test.YtjkabaejabibnaaDoorXTyH
section
/- Contracts. -/
set_option linter.all false
set_option maxHeartbeats 1000000
set_option maxRecDepth 10000
namespace Go.Proofs.YtjkabaejabibnaaDoor
open Go Go.Pv
variable (g : Nat → Option (List AV)) (rnd : Bool)

theorem c_types_Subst_n : ∀ t : Ty, wt t ≤ 1099511627776 → Valid Tryd.prog (G0 g rnd) 50 [.agg (encTy t), .slice [], .slice []] (.agg (encTy t)) := by
 intro t
 induction t using Ty.ind with
 | h n ts p ih =>
 intro hw
 have hw2 : n.length + 1 + wts ts ≤ 1099511627776 := by simpa [wt] using hw
 have hln := wts_len ts
 refine valid_of [] Tryd.func50 rfl (by kernel_rfl) ?_
 refine AT_seq_region fun K1 hK1 => ?_
 simp [row_map, encTy_mk, Tryd.f50]
 repeat refine sg ?_
 refine hK1 _ ?_
 clear hK1 K1
 refine AT_seq_k fun K2 hK2 => ?_
 refine AT_seq_region fun K3 hK3 => ?_
 simp [row_map, encTy_mk]
 repeat refine sg ?_
 refine RVn_call ((by simpa [idxF] using c_slices_Index_string_string g rnd [] n (by simp) : Valid Tryd.prog (G0 g rnd) 55 [.slice [], .str n] (.int .i64 (-1)))) ?_
 simp [row_map, encTy_mk]
 repeat refine sg ?_
 refine hK3 _ ?_
 clear hK3 K3
 by_cases h0 : ts = []
 ·
  have h0b : ((ts.length : Int) == 0) = true := by simpa using h0
  refine AT_seq_region fun K4 hK4 => ?_
  simp [row_map, encTy_mk, h0b]
  repeat refine sg ?_
  refine hK4 _ ?_
  clear hK4 K4
  refine AT_cond (b := false) (g := none) (by simp [h0b]) (fun hb => ?_) (fun hb => ?_)
  ·
   cases hb
  ·
   clear hb
   refine AT_skip ?_
   try simp only [nrm, reduceIte, Nat.reduceEqDiff]
   refine hK2 _ ?_
   refine AT_seq_region fun K5 hK5 => ?_
   simp [row_map, encTy_mk, h0b]
   repeat refine sg ?_
   refine RVn_call ((by simpa using c_types_All g rnd ts [] [] id (by omega) (fun t ht => ih t ht (Nat.le_trans (wts_mem ht) (by omega))) : Valid Tryd.prog (G0 g rnd) 51 [.slice (ts.map encTy), .slice [], .slice []] (.slice (ts.map encTy)))) ?_
   simp [row_map, encTy_mk, h0b]
   repeat refine sg ?_
   refine hK5 _ ?_
   clear hK5 K5
   refine AT_seq_region fun K6 hK6 => ?_
   simp [row_map, encTy_mk, h0b]
   repeat refine sg ?_
   refine hK6 _ ?_
   clear hK6 K6
   refine AT_ret ?_
   simp [row_map, encTy_mk, Tryd.f50]
 ·
  have h0b : ((ts.length : Int) == 0) = false := by simpa using h0
  refine AT_seq_region fun K7 hK7 => ?_
  simp [row_map, encTy_mk, h0b]
  repeat refine sg ?_
  refine hK7 _ ?_
  clear hK7 K7
  refine AT_cond (b := false) (g := none) (by simp [h0b]) (fun hb => ?_) (fun hb => ?_)
  ·
   cases hb
  ·
   clear hb
   refine AT_skip ?_
   try simp only [nrm, reduceIte, Nat.reduceEqDiff]
   refine hK2 _ ?_
   refine AT_seq_region fun K8 hK8 => ?_
   simp [row_map, encTy_mk, h0b]
   repeat refine sg ?_
   refine RVn_call ((by simpa using c_types_All g rnd ts [] [] id (by omega) (fun t ht => ih t ht (Nat.le_trans (wts_mem ht) (by omega))) : Valid Tryd.prog (G0 g rnd) 51 [.slice (ts.map encTy), .slice [], .slice []] (.slice (ts.map encTy)))) ?_
   simp [row_map, encTy_mk, h0b]
   repeat refine sg ?_
   refine hK8 _ ?_
   clear hK8 K8
   refine AT_seq_region fun K9 hK9 => ?_
   simp [row_map, encTy_mk, h0b]
   repeat refine sg ?_
   refine hK9 _ ?_
   clear hK9 K9
   refine AT_ret ?_
   simp [row_map, encTy_mk, Tryd.f50]

theorem c_types_Clone (t : Ty) (hw : wt t ≤ 1099511627776) : Valid Tryd.prog (G0 g rnd) 69 [.agg (encTy t)] (.agg (encTy t)) := by

 refine valid_of [] Tryd.func69 rfl (by kernel_rfl) ?_
 refine AT_seq_region fun K1 hK1 => ?_
 simp [Tryd.f69]
 repeat refine sg ?_
 refine hK1 _ ?_
 clear hK1 K1
 refine AT_seq_region fun K2 hK2 => ?_
 simp
 repeat refine sg ?_
 refine RVn_call (c_types_Subst_n g rnd t hw) ?_
 simp
 repeat refine sg ?_
 refine hK2 _ ?_
 clear hK2 K2
 refine AT_ret ?_
 simp [Tryd.f69]

end Go.Proofs.YtjkabaejabibnaaDoor
end

section
/- Contracts. -/
set_option linter.all false
set_option maxHeartbeats 1000000
set_option maxRecDepth 10000
namespace Go.Proofs.YtjkabaejabibnaaDoor
open Go Go.Pv
variable (g : Nat → Option (List AV)) (rnd : Bool)

theorem c_types_Subst (ns : List Str) (as_ : List Ty) (hns : ns.length ≤ 1099511627776) (has : ∀ a ∈ as_, wt a ≤ 1099511627776) (hal : as_.length ≤ 1099511627776) : ∀ t : Ty, wt t ≤ 1099511627776 → Valid Tryd.prog (G0 g rnd) 50 [.agg (encTy t), .slice (ns.map encS), .slice (as_.map encTy)] (.agg (encTy (sub ns as_ t))) := by
 intro t
 induction t using Ty.ind with
 | h n ts p ih =>
 intro hw
 have hw2 : n.length + 1 + wts ts ≤ 1099511627776 := by simpa [wt] using hw
 have hln := wts_len ts
 have hi : ∃ i : Int, i = idxF ns n 0 := ⟨_, rfl⟩
 obtain ⟨i, hi⟩ := hi
 refine valid_of [] Tryd.func50 rfl (by kernel_rfl) ?_
 refine AT_seq_region fun K1 hK1 => ?_
 simp [row_map, encTy_mk, Tryd.f50]
 repeat refine sg ?_
 refine hK1 _ ?_
 clear hK1 K1
 refine AT_seq_k fun K2 hK2 => ?_
 refine AT_seq_region fun K3 hK3 => ?_
 simp [row_map, encTy_mk]
 repeat refine sg ?_
 refine RVn_call ((hi ▸ c_slices_Index_string_string g rnd ns n (by omega) : Valid Tryd.prog (G0 g rnd) 55 [.slice (ns.map encS), .str n] (.int .i64 i))) ?_
 simp [row_map, encTy_mk]
 repeat refine sg ?_
 refine hK3 _ ?_
 clear hK3 K3
 by_cases h0 : ts = []
 ·
  have h0b : ((ts.length : Int) == 0) = true := by simpa using h0
  by_cases h1 : 0 ≤ i
  ·
   by_cases h2 : i < as_.length
   ·
    refine AT_seq_region fun K4 hK4 => ?_
    simp [row_map, encTy_mk, h0b, h1, h2]
    repeat refine sg ?_
    refine hK4 _ ?_
    clear hK4 K4
    refine AT_cond (b := true) (g := none) (by simp [h0b, h1, h2]) (fun hb => ?_) (fun hb => ?_)
    ·
     clear hb
     refine AT_seq_region fun K5 hK5 => ?_
     have hin : i.toNat < as_.length := by omega
     simp [row_map, encTy_mk, hin, h0b, h1, h2]
     repeat refine sg ?_
     refine RVn_call (c_types_Clone g rnd as_[i.toNat] (has _ (by simp))) ?_
     simp [row_map, encTy_mk, hin, h0b, h1, h2]
     repeat refine sg ?_
     refine hK5 _ ?_
     clear hK5 K5
     refine AT_seq_region fun K6 hK6 => ?_
     simp [row_map, encTy_mk, h0b, h1, h2]
     repeat refine sg ?_
     refine hK6 _ ?_
     clear hK6 K6
     refine AT_seq_region fun K7 hK7 => ?_
     simp [row_map, encTy_mk, h0b, h1, h2]
     repeat refine sg ?_
     refine hK7 _ ?_
     clear hK7 K7
     refine AT_ret ?_
     simp [row_map, encTy_mk, Tryd.f50]
     first
     | (rw [sub, if_neg (by simpa using h0), encTy_mk, subs_map]; simp; done)
     | (have hin : i.toNat < as_.length := by omega
        rw [sub, if_pos (by simp [h0]), ← hi, if_pos h1, List.getElem?_eq_getElem hin]
        simp only []
        generalize as_[i.toNat] = a; cases a; simp [Ty.at_, encTy_mk]; done)
     | (have hin : as_.length ≤ i.toNat := by omega
        rw [sub, if_pos (by simp [h0]), ← hi, if_pos h1, List.getElem?_eq_none hin]
        simp [encTy_mk, h0]; done)
     | (rw [sub, if_pos (by simp [h0]), ← hi, if_neg h1]; simp [encTy_mk, h0]; done)
     | skip
    ·
     cases hb
   ·
    refine AT_seq_region fun K8 hK8 => ?_
    simp [row_map, encTy_mk, h0b, h1, h2]
    repeat refine sg ?_
    refine hK8 _ ?_
    clear hK8 K8
    refine AT_cond (b := false) (g := none) (by simp [h0b, h1, h2]) (fun hb => ?_) (fun hb => ?_)
    ·
     cases hb
    ·
     clear hb
     refine AT_skip ?_
     try simp only [nrm, reduceIte, Nat.reduceEqDiff]
     refine hK2 _ ?_
     refine AT_seq_region fun K9 hK9 => ?_
     simp [row_map, encTy_mk, h0b, h1, h2]
     repeat refine sg ?_
     refine RVn_call (c_types_All g rnd ts (ns.map encS) (as_.map encTy) (sub ns as_) (by omega) (fun t ht => ih t ht (Nat.le_trans (wts_mem ht) (by omega)))) ?_
     simp [row_map, encTy_mk, h0b, h1, h2]
     repeat refine sg ?_
     refine hK9 _ ?_
     clear hK9 K9
     refine AT_seq_region fun K10 hK10 => ?_
     simp [row_map, encTy_mk, h0b, h1, h2]
     repeat refine sg ?_
     refine hK10 _ ?_
     clear hK10 K10
     refine AT_ret ?_
     simp [row_map, encTy_mk, Tryd.f50]
     first
     | (rw [sub, if_neg (by simpa using h0), encTy_mk, subs_map]; simp; done)
     | (have hin : i.toNat < as_.length := by omega
        rw [sub, if_pos (by simp [h0]), ← hi, if_pos h1, List.getElem?_eq_getElem hin]
        simp only []
        generalize as_[i.toNat] = a; cases a; simp [Ty.at_, encTy_mk]; done)
     | (have hin : as_.length ≤ i.toNat := by omega
        rw [sub, if_pos (by simp [h0]), ← hi, if_pos h1, List.getElem?_eq_none hin]
        simp [encTy_mk, h0]; done)
     | (rw [sub, if_pos (by simp [h0]), ← hi, if_neg h1]; simp [encTy_mk, h0]; done)
     | skip
  ·
   refine AT_seq_region fun K11 hK11 => ?_
   simp [row_map, encTy_mk, h0b, h1]
   repeat refine sg ?_
   refine hK11 _ ?_
   clear hK11 K11
   refine AT_cond (b := false) (g := none) (by simp [h0b, h1]) (fun hb => ?_) (fun hb => ?_)
   ·
    cases hb
   ·
    clear hb
    refine AT_skip ?_
    try simp only [nrm, reduceIte, Nat.reduceEqDiff]
    refine hK2 _ ?_
    refine AT_seq_region fun K12 hK12 => ?_
    simp [row_map, encTy_mk, h0b, h1]
    repeat refine sg ?_
    refine RVn_call (c_types_All g rnd ts (ns.map encS) (as_.map encTy) (sub ns as_) (by omega) (fun t ht => ih t ht (Nat.le_trans (wts_mem ht) (by omega)))) ?_
    simp [row_map, encTy_mk, h0b, h1]
    repeat refine sg ?_
    refine hK12 _ ?_
    clear hK12 K12
    refine AT_seq_region fun K13 hK13 => ?_
    simp [row_map, encTy_mk, h0b, h1]
    repeat refine sg ?_
    refine hK13 _ ?_
    clear hK13 K13
    refine AT_ret ?_
    simp [row_map, encTy_mk, Tryd.f50]
    first
    | (rw [sub, if_neg (by simpa using h0), encTy_mk, subs_map]; simp; done)
    | (have hin : i.toNat < as_.length := by omega
       rw [sub, if_pos (by simp [h0]), ← hi, if_pos h1, List.getElem?_eq_getElem hin]
       simp only []
       generalize as_[i.toNat] = a; cases a; simp [Ty.at_, encTy_mk]; done)
    | (have hin : as_.length ≤ i.toNat := by omega
       rw [sub, if_pos (by simp [h0]), ← hi, if_pos h1, List.getElem?_eq_none hin]
       simp [encTy_mk, h0]; done)
    | (rw [sub, if_pos (by simp [h0]), ← hi, if_neg h1]; simp [encTy_mk, h0]; done)
    | skip
 ·
  have h0b : ((ts.length : Int) == 0) = false := by simpa using h0
  refine AT_seq_region fun K14 hK14 => ?_
  simp [row_map, encTy_mk, h0b]
  repeat refine sg ?_
  refine hK14 _ ?_
  clear hK14 K14
  refine AT_cond (b := false) (g := none) (by simp [h0b]) (fun hb => ?_) (fun hb => ?_)
  ·
   cases hb
  ·
   clear hb
   refine AT_skip ?_
   try simp only [nrm, reduceIte, Nat.reduceEqDiff]
   refine hK2 _ ?_
   refine AT_seq_region fun K15 hK15 => ?_
   simp [row_map, encTy_mk, h0b]
   repeat refine sg ?_
   refine RVn_call (c_types_All g rnd ts (ns.map encS) (as_.map encTy) (sub ns as_) (by omega) (fun t ht => ih t ht (Nat.le_trans (wts_mem ht) (by omega)))) ?_
   simp [row_map, encTy_mk, h0b]
   repeat refine sg ?_
   refine hK15 _ ?_
   clear hK15 K15
   refine AT_seq_region fun K16 hK16 => ?_
   simp [row_map, encTy_mk, h0b]
   repeat refine sg ?_
   refine hK16 _ ?_
   clear hK16 K16
   refine AT_ret ?_
   simp [row_map, encTy_mk, Tryd.f50]
   first
   | (rw [sub, if_neg (by simpa using h0), encTy_mk, subs_map]; simp; done)
   | (have hin : i.toNat < as_.length := by omega
      rw [sub, if_pos (by simp [h0]), ← hi, if_pos h1, List.getElem?_eq_getElem hin]
      simp only []
      generalize as_[i.toNat] = a; cases a; simp [Ty.at_, encTy_mk]; done)
   | (have hin : as_.length ≤ i.toNat := by omega
      rw [sub, if_pos (by simp [h0]), ← hi, if_pos h1, List.getElem?_eq_none hin]
      simp [encTy_mk, h0]; done)
   | (rw [sub, if_pos (by simp [h0]), ← hi, if_neg h1]; simp [encTy_mk, h0]; done)
   | skip

end Go.Proofs.YtjkabaejabibnaaDoor
end

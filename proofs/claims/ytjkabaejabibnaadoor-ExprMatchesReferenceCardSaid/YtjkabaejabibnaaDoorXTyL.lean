import Derived.Test.YtjkabaejabibnaaDoorPt
import Derived.Test.YtjkabaejabibnaaDoorPvPa
import Derived.Test.YtjkabaejabibnaaDoorPvZ
import Derived.Test.YtjkabaejabibnaaDoorXTyI
section
/- Contracts. -/
set_option linter.all false
set_option maxHeartbeats 1000000
set_option maxRecDepth 10000
namespace Go.Proofs.YtjkabaejabibnaaDoor
open Go Go.Pv
variable (g : Nat → Option (List AV)) (rnd : Bool)

theorem c_types_Subst (ns : List Str) (as_ : List Ty) (hns : ns.length ≤ 1099511627776) (has : ∀ a ∈ as_, wt a ≤ 1099511627776) (hal : as_.length ≤ 1099511627776) : ∀ t : Ty, wt t ≤ 1099511627776 → Valid Tryd.prog (G0 g rnd) 50 [.agg (encTy t), .slice (ns.map encS), .slice (as_.map encTy)] (.agg (encTy (sub ns as_ t))) := by
 intro t
 induction t using Ty.ind with
 | h n ts p ih =>
 intro hw
 have hw2 : n.length + 1 + wts ts ≤ 1099511627776 := by simpa [wt] using hw
 have hln := wts_len ts
 have hi : ∃ i : Int, i = idxF ns n 0 := ⟨_, rfl⟩
 obtain ⟨i, hi⟩ := hi
 refine valid_of [] Tryd.func50 rfl (by kernel_rfl) ?_
 refine AT_seq_region fun K1 hK1 => ?_
 simp [row_map, encTy_mk, Tryd.f50]
 repeat refine sg ?_
 refine hK1 _ ?_
 clear hK1 K1
 refine AT_seq_k fun K2 hK2 => ?_
 refine AT_seq_region fun K3 hK3 => ?_
 simp [row_map, encTy_mk]
 repeat refine sg ?_
 refine RVn_call ((hi ▸ c_slices_Index_string_string g rnd ns n (by omega) : Valid Tryd.prog (G0 g rnd) 55 [.slice (ns.map encS), .str n] (.int .i64 i))) ?_
 simp [row_map, encTy_mk]
 repeat refine sg ?_
 refine hK3 _ ?_
 clear hK3 K3
 by_cases h0 : ts = []
 ·
  have h0b : ((ts.length : Int) == 0) = true := by simpa using h0
  by_cases h1 : 0 ≤ i
  ·
   by_cases h2 : i < as_.length
   ·
    refine AT_seq_region fun K4 hK4 => ?_
    simp [row_map, encTy_mk, h0b, h1, h2]
    repeat refine sg ?_
    refine hK4 _ ?_
    clear hK4 K4
    refine AT_cond (b := true) (g := none) (by simp [h0b, h1, h2]) (fun hb => ?_) (fun hb => ?_)
    ·
     clear hb
     refine AT_seq_region fun K5 hK5 => ?_
     have hin : i.toNat < as_.length := by omega
     simp [row_map, encTy_mk, hin, h0b, h1, h2]
     repeat refine sg ?_
     refine RVn_call (c_types_Clone g rnd as_[i.toNat] (has _ (by simp))) ?_
     simp [row_map, encTy_mk, hin, h0b, h1, h2]
     repeat refine sg ?_
     refine hK5 _ ?_
     clear hK5 K5
     refine AT_seq_region fun K6 hK6 => ?_
     simp [row_map, encTy_mk, h0b, h1, h2]
     repeat refine sg ?_
     refine hK6 _ ?_
     clear hK6 K6
     refine AT_seq_region fun K7 hK7 => ?_
     simp [row_map, encTy_mk, h0b, h1, h2]
     repeat refine sg ?_
     refine hK7 _ ?_
     clear hK7 K7
     refine AT_ret ?_
     simp [row_map, encTy_mk, Tryd.f50]
     first
     | (rw [sub, if_neg (by simpa using h0), encTy_mk, subs_map]; simp; done)
     | (have hin : i.toNat < as_.length := by omega
        rw [sub, if_pos (by simp [h0]), ← hi, if_pos h1, List.getElem?_eq_getElem hin]
        simp only []
        generalize as_[i.toNat] = a; cases a; simp [Ty.at_, encTy_mk]; done)
     | (have hin : as_.length ≤ i.toNat := by omega
        rw [sub, if_pos (by simp [h0]), ← hi, if_pos h1, List.getElem?_eq_none hin]
        simp [encTy_mk, h0]; done)
     | (rw [sub, if_pos (by simp [h0]), ← hi, if_neg h1]; simp [encTy_mk, h0]; done)
     | skip
    ·
     cases hb
   ·
    refine AT_seq_region fun K8 hK8 => ?_
    simp [row_map, encTy_mk, h0b, h1, h2]
    repeat refine sg ?_
    refine hK8 _ ?_
    clear hK8 K8
    refine AT_cond (b := false) (g := none) (by simp [h0b, h1, h2]) (fun hb => ?_) (fun hb => ?_)
    ·
     cases hb
    ·
     clear hb
     refine AT_skip ?_
     try simp only [nrm, reduceIte, Nat.reduceEqDiff]
     refine hK2 _ ?_
     refine AT_seq_region fun K9 hK9 => ?_
     simp [row_map, encTy_mk, h0b, h1, h2]
     repeat refine sg ?_
     refine RVn_call (c_types_All g rnd ts (ns.map encS) (as_.map encTy) (sub ns as_) (by omega) (fun t ht => ih t ht (Nat.le_trans (wts_mem ht) (by omega)))) ?_
     simp [row_map, encTy_mk, h0b, h1, h2]
     repeat refine sg ?_
     refine hK9 _ ?_
     clear hK9 K9
     refine AT_seq_region fun K10 hK10 => ?_
     simp [row_map, encTy_mk, h0b, h1, h2]
     repeat refine sg ?_
     refine hK10 _ ?_
     clear hK10 K10
     refine AT_ret ?_
     simp [row_map, encTy_mk, Tryd.f50]
     first
     | (rw [sub, if_neg (by simpa using h0), encTy_mk, subs_map]; simp; done)
     | (have hin : i.toNat < as_.length := by omega
        rw [sub, if_pos (by simp [h0]), ← hi, if_pos h1, List.getElem?_eq_getElem hin]
        simp only []
        generalize as_[i.toNat] = a; cases a; simp [Ty.at_, encTy_mk]; done)
     | (have hin : as_.length ≤ i.toNat := by omega
        rw [sub, if_pos (by simp [h0]), ← hi, if_pos h1, List.getElem?_eq_none hin]
        simp [encTy_mk, h0]; done)
     | (rw [sub, if_pos (by simp [h0]), ← hi, if_neg h1]; simp [encTy_mk, h0]; done)
     | skip
  ·
   refine AT_seq_region fun K11 hK11 => ?_
   simp [row_map, encTy_mk, h0b, h1]
   repeat refine sg ?_
   refine hK11 _ ?_
   clear hK11 K11
   refine AT_cond (b := false) (g := none) (by simp [h0b, h1]) (fun hb => ?_) (fun hb => ?_)
   ·
    cases hb
   ·
    clear hb
    refine AT_skip ?_
    try simp only [nrm, reduceIte, Nat.reduceEqDiff]
    refine hK2 _ ?_
    refine AT_seq_region fun K12 hK12 => ?_
    simp [row_map, encTy_mk, h0b, h1]
    repeat refine sg ?_
    refine RVn_call (c_types_All g rnd ts (ns.map encS) (as_.map encTy) (sub ns as_) (by omega) (fun t ht => ih t ht (Nat.le_trans (wts_mem ht) (by omega)))) ?_
    simp [row_map, encTy_mk, h0b, h1]
    repeat refine sg ?_
    refine hK12 _ ?_
    clear hK12 K12
    refine AT_seq_region fun K13 hK13 => ?_
    simp [row_map, encTy_mk, h0b, h1]
    repeat refine sg ?_
    refine hK13 _ ?_
    clear hK13 K13
    refine AT_ret ?_
    simp [row_map, encTy_mk, Tryd.f50]
    first
    | (rw [sub, if_neg (by simpa using h0), encTy_mk, subs_map]; simp; done)
    | (have hin : i.toNat < as_.length := by omega
       rw [sub, if_pos (by simp [h0]), ← hi, if_pos h1, List.getElem?_eq_getElem hin]
       simp only []
       generalize as_[i.toNat] = a; cases a; simp [Ty.at_, encTy_mk]; done)
    | (have hin : as_.length ≤ i.toNat := by omega
       rw [sub, if_pos (by simp [h0]), ← hi, if_pos h1, List.getElem?_eq_none hin]
       simp [encTy_mk, h0]; done)
    | (rw [sub, if_pos (by simp [h0]), ← hi, if_neg h1]; simp [encTy_mk, h0]; done)
    | skip
 ·
  have h0b : ((ts.length : Int) == 0) = false := by simpa using h0
  refine AT_seq_region fun K14 hK14 => ?_
  simp [row_map, encTy_mk, h0b]
  repeat refine sg ?_
  refine hK14 _ ?_
  clear hK14 K14
  refine AT_cond (b := false) (g := none) (by simp [h0b]) (fun hb => ?_) (fun hb => ?_)
  ·
   cases hb
  ·
   clear hb
   refine AT_skip ?_
   try simp only [nrm, reduceIte, Nat.reduceEqDiff]
   refine hK2 _ ?_
   refine AT_seq_region fun K15 hK15 => ?_
   simp [row_map, encTy_mk, h0b]
   repeat refine sg ?_
   refine RVn_call (c_types_All g rnd ts (ns.map encS) (as_.map encTy) (sub ns as_) (by omega) (fun t ht => ih t ht (Nat.le_trans (wts_mem ht) (by omega)))) ?_
   simp [row_map, encTy_mk, h0b]
   repeat refine sg ?_
   refine hK15 _ ?_
   clear hK15 K15
   refine AT_seq_region fun K16 hK16 => ?_
   simp [row_map, encTy_mk, h0b]
   repeat refine sg ?_
   refine hK16 _ ?_
   clear hK16 K16
   refine AT_ret ?_
   simp [row_map, encTy_mk, Tryd.f50]
   first
   | (rw [sub, if_neg (by simpa using h0), encTy_mk, subs_map]; simp; done)
   | (have hin : i.toNat < as_.length := by omega
      rw [sub, if_pos (by simp [h0]), ← hi, if_pos h1, List.getElem?_eq_getElem hin]
      simp only []
      generalize as_[i.toNat] = a; cases a; simp [Ty.at_, encTy_mk]; done)
   | (have hin : as_.length ≤ i.toNat := by omega
      rw [sub, if_pos (by simp [h0]), ← hi, if_pos h1, List.getElem?_eq_none hin]
      simp [encTy_mk, h0]; done)
   | (rw [sub, if_pos (by simp [h0]), ← hi, if_neg h1]; simp [encTy_mk, h0]; done)
   | skip

end Go.Proofs.YtjkabaejabibnaaDoor
end

section
/- Contracts. -/
set_option linter.all false
set_option maxHeartbeats 1000000
set_option maxRecDepth 10000
namespace Go.Proofs.YtjkabaejabibnaaDoor
open Go Go.Pv
variable (g : Nat → Option (List AV)) (rnd : Bool)

theorem c_ref04x_Subst_n : ∀ t : Ty, wt t ≤ 1099511627776 → Valid Tryd.prog (G0 g rnd) 52 [.agg (encTy t), .slice [], .slice []] (.agg (encTy t)) := by
 intro t
 induction t using Ty.ind with
 | h n ts p ih =>
 intro hw
 have hw2 : n.length + 1 + wts ts ≤ 1099511627776 := by simpa [wt] using hw
 have hln := wts_len ts
 refine valid_of [(109001, 24)] Tryd.func52 rfl (by kernel_rfl) ?_
 refine AT_seq_region fun K1 hK1 => ?_
 simp [row_map, encTy_mk, Tryd.f52]
 repeat refine sg ?_
 refine hK1 _ ?_
 clear hK1 K1
 refine AT_seq_k fun K2 hK2 => ?_
 refine AT_seq_region fun K3 hK3 => ?_
 simp [row_map, encTy_mk]
 repeat refine sg ?_
 refine hK3 _ ?_
 clear hK3 K3
 refine AT_block ?_
 refine AT_loop_q [1,2,3,6,7] [3,6] (fun j s => ∃ k, k = 0 ∧ j = k ∧ s = { n := 70, tm := [(1, .v (.slice []) none), (2, .v (.slice []) none), (3, .lp 3 0), (6, .lp 6 0), (7, .v (.int .i64 0) none)], bx := [(3, encTy (.mk n ts p)), (6, [.str [], .slice [], .int .i64 0])], tb := [], sh := [], hint := [(109001, 24)] }) (0) (by first | rfl | simp) ?_ ?_
 ·
  exact ⟨0, by simp [encTy_mk]⟩
 ·
  rintro j s ⟨k, rfl, rfl, rfl⟩ K4 hK4
  refine AT_seq_k fun K5 hK5 => ?_
  refine AT_seq_region fun K6 hK6 => ?_
  simp [row_map, encTy_mk]
  repeat refine sg ?_
  refine hK6 _ ?_
  clear hK6 K6
  refine AT_cond (b := false) (g := none) (by simp) (fun hb => ?_) (fun hb => ?_)
  ·
   cases hb
  ·
   clear hb
   refine AT_exit ?_
   try simp only [nrm, reduceIte, Nat.reduceEqDiff]
   refine hK2 _ ?_
   refine AT_seq_region fun K7 hK7 => ?_
   simp [row_map, encTy_mk]
   repeat refine sg ?_
   refine hK7 _ ?_
   clear hK7 K7
   refine AT_seq_k fun K8 hK8 => ?_
   refine AT_seq_region fun K9 hK9 => ?_
   simp [row_map, encTy_mk]
   repeat refine sg ?_
   refine hK9 _ ?_
   clear hK9 K9
   refine AT_block ?_
   refine AT_loop_q [1,2,3,6,9,10] [3,6,9] (fun j s => ∃ k, k ≤ ts.length ∧ j = ts.length - k ∧ s = { n := 70, tm := [(1, .v (.slice []) none), (2, .v (.slice []) none), (3, .lp 3 0), (6, .lp 6 0), (9, .lp 9 0), (10, .v (.int .i64 k) none)], bx := [(3, encTy (.mk n ts p)), (6, [.str [], .slice [], .int .i64 0]), (9, [.str n, .slice (((ts.take k).map id).map encTy), .int .i64 p])], tb := [(9, 1, 109001, 24)], sh := [], hint := [(109001, 24)] }) (ts.length) (by first | rfl | simp) ?_ ?_
   ·
    exact ⟨0, by simp [encTy_mk]⟩
   ·
    rintro j s ⟨k, hk, rfl, rfl⟩ K10 hK10
    refine AT_seq_k fun K11 hK11 => ?_
    refine AT_seq_region fun K12 hK12 => ?_
    simp [row_map, encTy_mk]
    repeat refine sg ?_
    refine hK12 _ ?_
    clear hK12 K12
    refine AT_cond (g := none) rfl (fun hb53 => ?_) (fun hb53 => ?_)
    ·
     try simp [row_map, encTy_mk] at hb53
     refine AT_skip ?_
     try simp only [nrm, reduceIte, Nat.reduceEqDiff]
     refine hK11 _ ?_
     refine AT_seq_k fun K13 hK13 => ?_
     refine AT_block ?_
     refine AT_draw_q Pt.mixed (by kernel_rfl) fun K14 hK14 => ?_
     simp [row_map, encTy_mk, hb53]
     repeat refine sg ?_
     refine RVdn_call (ih ts[k] (by simp) (by have := wts_mem (l := ts) (t := ts[k]) (by simp); omega)) ?_
     simp [row_map, encTy_mk, hb53]
     repeat refine sg ?_
     refine hK14 _ ?_
     clear hK14 K14
     try simp only [nrm, reduceIte, Nat.reduceEqDiff]
     refine hK13 _ ?_
     refine AT_region_q fun K15 hK15 => ?_
     simp [row_map, encTy_mk, hb53]
     repeat refine sg ?_
     refine hK15 _ ?_
     clear hK15 K15
     try simp only [nrm, reduceIte, Nat.reduceEqDiff]
     refine hK10 _ (by first | rfl | simp) (ts.length - (k+1)) (by omega) ?_
     have hs2 := take_map_succ (encTy ∘ id) ts k hb53
     try simp at hs2
     exact ⟨k+1, by omega, by omega, by simp [hs2, encTy_mk]⟩
    ·
     try simp [row_map, encTy_mk] at hb53
     refine AT_exit ?_
     try simp only [nrm, reduceIte, Nat.reduceEqDiff]
     refine hK8 _ ?_
     refine AT_seq_region fun K16 hK16 => ?_
     simp [row_map, encTy_mk, hb53]
     repeat refine sg ?_
     refine hK16 _ ?_
     clear hK16 K16
     refine AT_ret ?_
     simp [row_map, encTy_mk, Tryd.f52]
     rw [List.take_of_length_le (by simpa using hb53)]

end Go.Proofs.YtjkabaejabibnaaDoor
end

section
/- Contracts. -/
set_option linter.all false
set_option maxHeartbeats 1000000
set_option maxRecDepth 10000
namespace Go.Proofs.YtjkabaejabibnaaDoor
open Go Go.Pv
variable (g : Nat → Option (List AV)) (rnd : Bool)

theorem c_ref04x_Subst (ns : List Str) (as_ : List Ty) (hns : ns.length ≤ 1099511627776) (has : ∀ a ∈ as_, wt a ≤ 1099511627776) (hal : as_.length ≤ 1099511627776) : ∀ t : Ty, wt t ≤ 1099511627776 → Valid Tryd.prog (G0 g rnd) 52 [.agg (encTy t), .slice (ns.map encS), .slice (as_.map encTy)] (.agg (encTy (sub ns as_ t))) := by
 intro t
 induction t using Ty.ind with
 | h n ts p ih =>
 intro hw
 have hw2 : n.length + 1 + wts ts ≤ 1099511627776 := by simpa [wt] using hw
 have hln := wts_len ts
 refine valid_of [(109001, 24)] Tryd.func52 rfl (by kernel_rfl) ?_
 refine AT_seq_region fun K1 hK1 => ?_
 simp [row_map, encTy_mk, Tryd.f52]
 repeat refine sg ?_
 refine hK1 _ ?_
 clear hK1 K1
 refine AT_seq_k fun K2 hK2 => ?_
 refine AT_seq_region fun K3 hK3 => ?_
 simp [row_map, encTy_mk]
 repeat refine sg ?_
 refine hK3 _ ?_
 clear hK3 K3
 refine AT_block ?_
 refine AT_loop_q [1,2,3,6,7] [3,6] (fun j s => ∃ k, k ≤ ns.length ∧ (ts = [] → idxF ns n 0 = idxF (ns.drop k) n k) ∧ j = ns.length - k ∧ s = { n := 70, tm := [(1, .v (.slice (ns.map encS)) none), (2, .v (.slice (as_.map encTy)) none), (3, .lp 3 0), (6, .lp 6 0), (7, .v (.int .i64 k) none)], bx := [(3, encTy (.mk n ts p)), (6, [.str [], .slice [], .int .i64 0])], tb := [], sh := [], hint := [(109001, 24)] }) (ns.length) (by first | rfl | simp) ?_ ?_
 ·
  exact ⟨0, by simp [encTy_mk]⟩
 ·
  rintro j s ⟨k, hk, hc, rfl, rfl⟩ K4 hK4
  refine AT_seq_k fun K5 hK5 => ?_
  by_cases hkn : k < ns.length
  ·
   by_cases h0 : ts = []
   ·
    have h0b : ((ts.length : Int) == 0) = true := by simpa using h0
    refine AT_seq_region fun K6 hK6 => ?_
    simp [row_map, encTy_mk, hkn, h0b]
    repeat refine sg ?_
    refine hK6 _ ?_
    clear hK6 K6
    refine AT_cond (b := true) (g := none) (by simp [hkn, h0b]) (fun hb => ?_) (fun hb => ?_)
    ·
     clear hb
     refine AT_skip ?_
     try simp only [nrm, reduceIte, Nat.reduceEqDiff]
     refine hK5 _ ?_
     refine AT_seq_k fun K7 hK7 => ?_
     refine AT_block ?_
     refine AT_seq_draw Pt.mixed (by kernel_rfl) fun K8 hK8 => ?_
     simp [row_map, encTy_mk, hkn, h0b]
     repeat refine sg ?_
     refine hK8 _ ?_
     clear hK8 K8
     refine AT_cond (g := none) rfl (fun hb29 => ?_) (fun hb29 => ?_)
     ·
      try simp [row_map, encTy_mk, hkn, h0b] at hb29
      refine AT_seq_k fun K9 hK9 => ?_
      refine AT_seq_region fun K10 hK10 => ?_
      simp [row_map, encTy_mk, hkn, h0b]
      repeat refine sg ?_
      refine hK10 _ ?_
      clear hK10 K10
      refine AT_cond (g := none) rfl (fun hb33 => ?_) (fun hb33 => ?_)
      ·
       try simp [row_map, encTy_mk, hkn, h0b] at hb33
       refine AT_seq_region fun K11 hK11 => ?_
       simp [row_map, encTy_mk, hkn, h0b]
       repeat refine sg ?_
       refine hK11 _ ?_
       clear hK11 K11
       refine AT_ret ?_
       simp [row_map, encTy_mk, Tryd.f52]
       first
       | (rw [sub, if_neg (by simpa using h0), encTy_mk, subs_map, List.take_of_length_le (by simpa using hb53)]; simp; done)
       | (have hi : idxF ns n 0 = (k:Int) := by rw [hc h0, List.drop_eq_getElem_cons hkn, idxF, if_pos hb29.symm]
          rw [sub, if_pos (by simp [h0]), hi, if_pos (by omega)]
          simp only [Int.toNat_natCast]
          first
          | (rw [List.getElem?_eq_none hb33]; simp [encTy_mk, h0]; done)
          | (rw [List.getElem?_eq_getElem hka]; simp only []; generalize as_[k] = a; cases a; simp [Ty.at_, encTy_mk]; done))
       | (by_cases h0 : ts = []
          · have hi : idxF ns n 0 = -1 := by rw [hc h0, List.drop_eq_nil_of_le (by omega)]; rfl
            rw [sub, if_pos (by simp [h0]), hi, if_neg (by omega)]; simp [encTy_mk, h0]
          · rw [sub, if_neg (by simpa using h0), encTy_mk, subs_map, List.take_of_length_le (by simpa using hb53)]; simp)
      ·
       try simp [row_map, encTy_mk, hkn, h0b] at hb33
       refine AT_skip ?_
       try simp only [nrm, reduceIte, Nat.reduceEqDiff]
       refine hK9 _ ?_
       refine AT_seq_region fun K12 hK12 => ?_
       have hka : k < as_.length := by omega
       simp [row_map, encTy_mk, hka, hkn, h0b]
       repeat refine sg ?_
       refine RVn_call (c_ref04x_Subst_n g rnd as_[k] (has _ (by simp))) ?_
       simp [row_map, encTy_mk, hka, hkn, h0b]
       repeat refine sg ?_
       refine hK12 _ ?_
       clear hK12 K12
       refine AT_seq_region fun K13 hK13 => ?_
       simp [row_map, encTy_mk, hkn, h0b]
       repeat refine sg ?_
       refine hK13 _ ?_
       clear hK13 K13
       refine AT_seq_region fun K14 hK14 => ?_
       simp [row_map, encTy_mk, hkn, h0b]
       repeat refine sg ?_
       refine hK14 _ ?_
       clear hK14 K14
       refine AT_ret ?_
       simp [row_map, encTy_mk, Tryd.f52]
       first
       | (rw [sub, if_neg (by simpa using h0), encTy_mk, subs_map, List.take_of_length_le (by simpa using hb53)]; simp; done)
       | (have hi : idxF ns n 0 = (k:Int) := by rw [hc h0, List.drop_eq_getElem_cons hkn, idxF, if_pos hb29.symm]
          rw [sub, if_pos (by simp [h0]), hi, if_pos (by omega)]
          simp only [Int.toNat_natCast]
          first
          | (rw [List.getElem?_eq_none hb33]; simp [encTy_mk, h0]; done)
          | (rw [List.getElem?_eq_getElem hka]; simp only []; generalize as_[k] = a; cases a; simp [Ty.at_, encTy_mk]; done))
       | (by_cases h0 : ts = []
          · have hi : idxF ns n 0 = -1 := by rw [hc h0, List.drop_eq_nil_of_le (by omega)]; rfl
            rw [sub, if_pos (by simp [h0]), hi, if_neg (by omega)]; simp [encTy_mk, h0]
          · rw [sub, if_neg (by simpa using h0), encTy_mk, subs_map, List.take_of_length_le (by simpa using hb53)]; simp)
     ·
      try simp [row_map, encTy_mk, hkn, h0b] at hb29
      refine AT_skip ?_
      try simp only [nrm, reduceIte, Nat.reduceEqDiff]
      refine hK7 _ ?_
      refine AT_region_q fun K15 hK15 => ?_
      simp [row_map, encTy_mk, hkn, h0b]
      repeat refine sg ?_
      refine hK15 _ ?_
      clear hK15 K15
      try simp only [nrm, reduceIte, Nat.reduceEqDiff]
      refine hK4 _ (by first | rfl | simp) (ns.length - (k+1)) (by omega) ?_
      refine ⟨k+1, by omega, ?_, by omega, by simp [encTy_mk]⟩
      intro h
      rw [hc h, List.drop_eq_getElem_cons hkn, idxF, if_neg (fun e => hb29 e.symm)]
    ·
     cases hb
   ·
    have h0b : ((ts.length : Int) == 0) = false := by simpa using h0
    refine AT_seq_region fun K16 hK16 => ?_
    simp [row_map, encTy_mk, hkn, h0b]
    repeat refine sg ?_
    refine hK16 _ ?_
    clear hK16 K16
    refine AT_cond (b := false) (g := none) (by simp [hkn, h0b]) (fun hb => ?_) (fun hb => ?_)
    ·
     cases hb
    ·
     clear hb
     refine AT_exit ?_
     try simp only [nrm, reduceIte, Nat.reduceEqDiff]
     refine hK2 _ ?_
     refine AT_seq_region fun K17 hK17 => ?_
     simp [row_map, encTy_mk, hkn, h0b]
     repeat refine sg ?_
     refine hK17 _ ?_
     clear hK17 K17
     refine AT_seq_k fun K18 hK18 => ?_
     refine AT_seq_region fun K19 hK19 => ?_
     simp [row_map, encTy_mk, hkn, h0b]
     repeat refine sg ?_
     refine hK19 _ ?_
     clear hK19 K19
     refine AT_block ?_
     refine AT_loop_q [1,2,3,6,9,10] [3,6,9] (fun j s => ∃ k, k ≤ ts.length ∧ j = ts.length - k ∧ s = { n := 70, tm := [(1, .v (.slice (ns.map encS)) none), (2, .v (.slice (as_.map encTy)) none), (3, .lp 3 0), (6, .lp 6 0), (9, .lp 9 0), (10, .v (.int .i64 k) none)], bx := [(3, encTy (.mk n ts p)), (6, [.str [], .slice [], .int .i64 0]), (9, [.str n, .slice (((ts.take k).map (sub ns as_)).map encTy), .int .i64 p])], tb := [(9, 1, 109001, 24)], sh := [], hint := [(109001, 24)] }) (ts.length) (by first | rfl | simp) ?_ ?_
     ·
      exact ⟨0, by simp [encTy_mk]⟩
     ·
      rintro j s ⟨k, hk, rfl, rfl⟩ K20 hK20
      refine AT_seq_k fun K21 hK21 => ?_
      refine AT_seq_region fun K22 hK22 => ?_
      simp [row_map, encTy_mk, hkn, h0b]
      repeat refine sg ?_
      refine hK22 _ ?_
      clear hK22 K22
      refine AT_cond (g := none) rfl (fun hb53 => ?_) (fun hb53 => ?_)
      ·
       try simp [row_map, encTy_mk, hkn, h0b] at hb53
       refine AT_skip ?_
       try simp only [nrm, reduceIte, Nat.reduceEqDiff]
       refine hK21 _ ?_
       refine AT_seq_k fun K23 hK23 => ?_
       refine AT_block ?_
       refine AT_draw_q Pt.mixed (by kernel_rfl) fun K24 hK24 => ?_
       simp [row_map, encTy_mk, hkn, h0b, hb53]
       repeat refine sg ?_
       refine RVdn_call (ih ts[k] (by simp) (by have := wts_mem (l := ts) (t := ts[k]) (by simp); omega)) ?_
       simp [row_map, encTy_mk, hkn, h0b, hb53]
       repeat refine sg ?_
       refine hK24 _ ?_
       clear hK24 K24
       try simp only [nrm, reduceIte, Nat.reduceEqDiff]
       refine hK23 _ ?_
       refine AT_region_q fun K25 hK25 => ?_
       simp [row_map, encTy_mk, hkn, h0b, hb53]
       repeat refine sg ?_
       refine hK25 _ ?_
       clear hK25 K25
       try simp only [nrm, reduceIte, Nat.reduceEqDiff]
       refine hK20 _ (by first | rfl | simp) (ts.length - (k+1)) (by omega) ?_
       have hs2 := take_map_succ (encTy ∘ (sub ns as_)) ts k hb53
       try simp at hs2
       exact ⟨k+1, by omega, by omega, by simp [hs2, encTy_mk]⟩
      ·
       try simp [row_map, encTy_mk, hkn, h0b] at hb53
       refine AT_exit ?_
       try simp only [nrm, reduceIte, Nat.reduceEqDiff]
       refine hK18 _ ?_
       refine AT_seq_region fun K26 hK26 => ?_
       simp [row_map, encTy_mk, hkn, h0b, hb53]
       repeat refine sg ?_
       refine hK26 _ ?_
       clear hK26 K26
       refine AT_ret ?_
       simp [row_map, encTy_mk, Tryd.f52]
       first
       | (rw [sub, if_neg (by simpa using h0), encTy_mk, subs_map, List.take_of_length_le (by simpa using hb53)]; simp; done)
       | (have hi : idxF ns n 0 = (k:Int) := by rw [hc h0, List.drop_eq_getElem_cons hkn, idxF, if_pos hb29.symm]
          rw [sub, if_pos (by simp [h0]), hi, if_pos (by omega)]
          simp only [Int.toNat_natCast]
          first
          | (rw [List.getElem?_eq_none hb33]; simp [encTy_mk, h0]; done)
          | (rw [List.getElem?_eq_getElem hka]; simp only []; generalize as_[k] = a; cases a; simp [Ty.at_, encTy_mk]; done))
       | (by_cases h0 : ts = []
          · have hi : idxF ns n 0 = -1 := by rw [hc h0, List.drop_eq_nil_of_le (by omega)]; rfl
            rw [sub, if_pos (by simp [h0]), hi, if_neg (by omega)]; simp [encTy_mk, h0]
          · rw [sub, if_neg (by simpa using h0), encTy_mk, subs_map, List.take_of_length_le (by simpa using hb53)]; simp)
  ·
   refine AT_seq_region fun K27 hK27 => ?_
   simp [row_map, encTy_mk, hkn]
   repeat refine sg ?_
   refine hK27 _ ?_
   clear hK27 K27
   refine AT_cond (b := false) (g := none) (by simp [hkn]) (fun hb => ?_) (fun hb => ?_)
   ·
    cases hb
   ·
    clear hb
    refine AT_exit ?_
    try simp only [nrm, reduceIte, Nat.reduceEqDiff]
    refine hK2 _ ?_
    refine AT_seq_region fun K28 hK28 => ?_
    simp [row_map, encTy_mk, hkn]
    repeat refine sg ?_
    refine hK28 _ ?_
    clear hK28 K28
    refine AT_seq_k fun K29 hK29 => ?_
    refine AT_seq_region fun K30 hK30 => ?_
    simp [row_map, encTy_mk, hkn]
    repeat refine sg ?_
    refine hK30 _ ?_
    clear hK30 K30
    refine AT_block ?_
    refine AT_loop_q [1,2,3,6,9,10] [3,6,9] (fun j s => ∃ k, k ≤ ts.length ∧ j = ts.length - k ∧ s = { n := 70, tm := [(1, .v (.slice (ns.map encS)) none), (2, .v (.slice (as_.map encTy)) none), (3, .lp 3 0), (6, .lp 6 0), (9, .lp 9 0), (10, .v (.int .i64 k) none)], bx := [(3, encTy (.mk n ts p)), (6, [.str [], .slice [], .int .i64 0]), (9, [.str n, .slice (((ts.take k).map (sub ns as_)).map encTy), .int .i64 p])], tb := [(9, 1, 109001, 24)], sh := [], hint := [(109001, 24)] }) (ts.length) (by first | rfl | simp) ?_ ?_
    ·
     exact ⟨0, by simp [encTy_mk]⟩
    ·
     rintro j s ⟨k, hk, rfl, rfl⟩ K31 hK31
     refine AT_seq_k fun K32 hK32 => ?_
     refine AT_seq_region fun K33 hK33 => ?_
     simp [row_map, encTy_mk, hkn]
     repeat refine sg ?_
     refine hK33 _ ?_
     clear hK33 K33
     refine AT_cond (g := none) rfl (fun hb53 => ?_) (fun hb53 => ?_)
     ·
      try simp [row_map, encTy_mk, hkn] at hb53
      refine AT_skip ?_
      try simp only [nrm, reduceIte, Nat.reduceEqDiff]
      refine hK32 _ ?_
      refine AT_seq_k fun K34 hK34 => ?_
      refine AT_block ?_
      refine AT_draw_q Pt.mixed (by kernel_rfl) fun K35 hK35 => ?_
      simp [row_map, encTy_mk, hkn, hb53]
      repeat refine sg ?_
      refine RVdn_call (ih ts[k] (by simp) (by have := wts_mem (l := ts) (t := ts[k]) (by simp); omega)) ?_
      simp [row_map, encTy_mk, hkn, hb53]
      repeat refine sg ?_
      refine hK35 _ ?_
      clear hK35 K35
      try simp only [nrm, reduceIte, Nat.reduceEqDiff]
      refine hK34 _ ?_
      refine AT_region_q fun K36 hK36 => ?_
      simp [row_map, encTy_mk, hkn, hb53]
      repeat refine sg ?_
      refine hK36 _ ?_
      clear hK36 K36
      try simp only [nrm, reduceIte, Nat.reduceEqDiff]
      refine hK31 _ (by first | rfl | simp) (ts.length - (k+1)) (by omega) ?_
      have hs2 := take_map_succ (encTy ∘ (sub ns as_)) ts k hb53
      try simp at hs2
      exact ⟨k+1, by omega, by omega, by simp [hs2, encTy_mk]⟩
     ·
      try simp [row_map, encTy_mk, hkn] at hb53
      refine AT_exit ?_
      try simp only [nrm, reduceIte, Nat.reduceEqDiff]
      refine hK29 _ ?_
      refine AT_seq_region fun K37 hK37 => ?_
      simp [row_map, encTy_mk, hkn, hb53]
      repeat refine sg ?_
      refine hK37 _ ?_
      clear hK37 K37
      refine AT_ret ?_
      simp [row_map, encTy_mk, Tryd.f52]
      first
      | (rw [sub, if_neg (by simpa using h0), encTy_mk, subs_map, List.take_of_length_le (by simpa using hb53)]; simp; done)
      | (have hi : idxF ns n 0 = (k:Int) := by rw [hc h0, List.drop_eq_getElem_cons hkn, idxF, if_pos hb29.symm]
         rw [sub, if_pos (by simp [h0]), hi, if_pos (by omega)]
         simp only [Int.toNat_natCast]
         first
         | (rw [List.getElem?_eq_none hb33]; simp [encTy_mk, h0]; done)
         | (rw [List.getElem?_eq_getElem hka]; simp only []; generalize as_[k] = a; cases a; simp [Ty.at_, encTy_mk]; done))
      | (by_cases h0 : ts = []
         · have hi : idxF ns n 0 = -1 := by rw [hc h0, List.drop_eq_nil_of_le (by omega)]; rfl
           rw [sub, if_pos (by simp [h0]), hi, if_neg (by omega)]; simp [encTy_mk, h0]
         · rw [sub, if_neg (by simpa using h0), encTy_mk, subs_map, List.take_of_length_le (by simpa using hb53)]; simp)

end Go.Proofs.YtjkabaejabibnaaDoor
end

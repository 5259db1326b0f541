import Derived.Test.YtdifpfehijnmiaaGreatDoorPt
import Derived.Test.YtdifpfehijnmiaaGreatDoorPvXa
import Derived.Test.YtdifpfehijnmiaaGreatDoorPvY
import Derived.Test.YtdifpfehijnmiaaGreatDoorXTyI
import Derived.Test.YtdifpfehijnmiaaGreatDoorXExA
section
/- Contracts. -/
set_option linter.all false
set_option maxHeartbeats 1000000
set_option maxRecDepth 10000
namespace Go.Proofs.YtdifpfehijnmiaaGreatDoor
open Go Go.Pv
variable (g : Nat → Option (List AV)) (rnd : Bool)

theorem c_types_Subst (ns : List Str) (as_ : List Ty) (hns : ns.length ≤ 1099511627776) (has : ∀ a ∈ as_, wt a ≤ 1099511627776) (hal : as_.length ≤ 1099511627776) : ∀ t : Ty, wt t ≤ 1099511627776 → Valid Tryz.prog (G0 g rnd) 106 [.agg (encTy t), .slice (ns.map encS), .slice (as_.map encTy)] (.agg (encTy (sub ns as_ t))) := by
 intro t
 induction t using Ty.ind with
 | h n ts p ih =>
 intro hw
 have hw2 : n.length + 1 + wts ts ≤ 1099511627776 := by simpa [wt] using hw
 have hln := wts_len ts
 have hi : ∃ i : Int, i = idxF ns n 0 := ⟨_, rfl⟩
 obtain ⟨i, hi⟩ := hi
 refine valid_of [] Tryz.func106 rfl (by kernel_rfl) ?_
 refine sr fun Z z => ?_
 simp [row_map, encTy_mk, Tryz.f106]
 refine z _ ?_
 clear z Z
 refine AT_seq_k fun K1 hK1 => ?_
 refine sr fun Z z => ?_
 simp [row_map, encTy_mk]
 refine RVn_call ((hi ▸ c_slices_Index_string_string g rnd ns n (by omega) : Valid Tryz.prog (G0 g rnd) 136 [.slice (ns.map encS), .str n] (.int .i64 i))) ?_
 simp [row_map, encTy_mk]
 refine z _ ?_
 clear z Z
 by_cases h0 : ts = []
 have h0b : ((ts.length : Int) == 0) = true := by simpa using h0
 by_cases h1 : 0 ≤ i
 by_cases h2 : i < as_.length
 refine sr fun Z z => ?_
 simp [row_map, encTy_mk, h0b, h1, h2]
 refine z _ ?_
 clear z Z
 refine AT_cond (b := true) (g := none) (by simp [h0b, h1, h2]) (fun hb => ?_) (fun hb => ?_)
 clear hb
 refine sr fun Z z => ?_
 have hin : i.toNat < as_.length := by omega
 simp [row_map, encTy_mk, hin, h0b, h1, h2]
 refine RVn_call (c_types_Clone g rnd as_[i.toNat] (has _ (by simp))) ?_
 simp [row_map, encTy_mk, hin, h0b, h1, h2]
 refine z _ ?_
 clear z Z
 refine sr fun Z z => ?_
 simp [row_map, encTy_mk, h0b, h1, h2]
 refine z _ ?_
 clear z Z
 refine sr fun Z z => ?_
 simp [row_map, encTy_mk, h0b, h1, h2]
 refine z _ ?_
 clear z Z
 refine AT_ret ?_
 simp [row_map, encTy_mk, Tryz.f106]
 (· have hin : i.toNat < as_.length := by omega
    rw [sub, if_pos (by simp [h0]), ← hi, if_pos h1, List.getElem?_eq_getElem hin]
    simp only []
    generalize as_[i.toNat] = a; cases a; simp [Ty.at_, encTy_mk])
 cases hb
 refine sr fun Z z => ?_
 simp [row_map, encTy_mk, h0b, h1, h2]
 refine z _ ?_
 clear z Z
 refine AT_cond (b := false) (g := none) (by simp [h0b, h1, h2]) (fun hb => ?_) (fun hb => ?_)
 cases hb
 clear hb
 refine AT_skip ?_
 simp only [nrm, reduceIte, Nat.reduceEqDiff]
 refine hK1 _ ?_
 refine sr fun Z z => ?_
 simp [row_map, encTy_mk, h0b, h1, h2]
 refine RVn_call (c_types_All g rnd ts (ns.map encS) (as_.map encTy) (sub ns as_) (by omega) (fun t ht => ih t ht (Nat.le_trans (wts_mem ht) (by omega)))) ?_
 simp [row_map, encTy_mk, h0b, h1, h2]
 refine z _ ?_
 clear z Z
 refine sr fun Z z => ?_
 simp [row_map, encTy_mk, h0b, h1, h2]
 refine z _ ?_
 clear z Z
 refine AT_ret ?_
 simp [row_map, encTy_mk, Tryz.f106]
 (· have hin : as_.length ≤ i.toNat := by omega
    rw [sub, if_pos (by simp [h0]), ← hi, if_pos h1, List.getElem?_eq_none hin]
    simp [encTy_mk, h0])
 refine sr fun Z z => ?_
 simp [row_map, encTy_mk, h0b, h1]
 refine z _ ?_
 clear z Z
 refine AT_cond (b := false) (g := none) (by simp [h0b, h1]) (fun hb => ?_) (fun hb => ?_)
 cases hb
 clear hb
 refine AT_skip ?_
 simp only [nrm, reduceIte, Nat.reduceEqDiff]
 refine hK1 _ ?_
 refine sr fun Z z => ?_
 simp [row_map, encTy_mk, h0b, h1]
 refine RVn_call (c_types_All g rnd ts (ns.map encS) (as_.map encTy) (sub ns as_) (by omega) (fun t ht => ih t ht (Nat.le_trans (wts_mem ht) (by omega)))) ?_
 simp [row_map, encTy_mk, h0b, h1]
 refine z _ ?_
 clear z Z
 refine sr fun Z z => ?_
 simp [row_map, encTy_mk, h0b, h1]
 refine z _ ?_
 clear z Z
 refine AT_ret ?_
 simp [row_map, encTy_mk, Tryz.f106]
 (· rw [sub, if_pos (by simp [h0]), ← hi, if_neg h1]; simp [encTy_mk, h0])
 have h0b : ((ts.length : Int) == 0) = false := by simpa using h0
 refine sr fun Z z => ?_
 simp [row_map, encTy_mk, h0b]
 refine z _ ?_
 clear z Z
 refine AT_cond (b := false) (g := none) (by simp [h0b]) (fun hb => ?_) (fun hb => ?_)
 cases hb
 clear hb
 refine AT_skip ?_
 simp only [nrm, reduceIte, Nat.reduceEqDiff]
 refine hK1 _ ?_
 refine sr fun Z z => ?_
 simp [row_map, encTy_mk, h0b]
 refine RVn_call (c_types_All g rnd ts (ns.map encS) (as_.map encTy) (sub ns as_) (by omega) (fun t ht => ih t ht (Nat.le_trans (wts_mem ht) (by omega)))) ?_
 simp [row_map, encTy_mk, h0b]
 refine z _ ?_
 clear z Z
 refine sr fun Z z => ?_
 simp [row_map, encTy_mk, h0b]
 refine z _ ?_
 clear z Z
 refine AT_ret ?_
 simp [row_map, encTy_mk, Tryz.f106]
 (· rw [sub, if_neg (by simpa using h0), encTy_mk, subs_map]; simp)

end Go.Proofs.YtdifpfehijnmiaaGreatDoor
end

section
/- Contracts: types substituted, variables replaced. -/
set_option linter.all false
set_option maxHeartbeats 1000000
set_option maxRecDepth 10000
namespace Go.Proofs.YtdifpfehijnmiaaGreatDoor
open Go Go.Pv
variable (g : Nat → Option (List AV)) (rnd : Bool)

theorem c_expr_mapped (F : Exp → Exp) (fid : Nat) (caps : List AV) (hf : ∀ k n t a l p, wt t ≤ 1000000000 → wts a ≤ 1000000000 → Valid Tryz.prog (G0 g rnd) fid ([.agg (encE (.mk k n t a l p))] ++ caps) (.agg (encE (F (.mk k n t a l p))))) : ∀ e : Exp, wtE e ≤ 1000000000 → Valid Tryz.prog (G0 g rnd) 141 [.agg (encE e), .func fid caps] (.agg (encE (mapE F e))) := by
 intro e
 induction e using Exp.ind with
 | h kd n t ta l p ih =>
 intro hw
 have hw2 : n.length + 1 + wt t + wts ta + wtEs l ≤ 1000000000 := by simpa [wtE_mk] using hw
 have hln := wtEs_len l
 have hla := wts_len ta
 refine valid_of [(5, 33)] Tryz.func141 rfl (by kernel_rfl) ?_
 refine sr fun Z z => ?_
 simp [row_map, encE_take6, encE_drop7, Tryz.f141]
 refine z _ ?_
 clear z Z
 refine sr fun Z z => ?_
 simp [row_map, encE_take6, encE_drop7]
 refine z _ ?_
 clear z Z
 refine AT_seq_k fun K1 hK1 => ?_
 refine sr fun Z z => ?_
 simp [row_map, encE_take6, encE_drop7]
 refine z _ ?_
 clear z Z
 refine AT_block ?_
 refine AT_loop_q [1,2,4,5,9,10,11] [2,4] (fun j s => ∃ k, k ≤ l.length ∧ j = l.length - k ∧ s = { n := 27, tm := [(1, .v (.func fid caps) none), (2, .lp 2 0), (4, .lp 4 0), (5, .v (.slice (((l.take k).map (mapE F)).map encE)) (some (5, 33))), (9, .v (.slice (l.map encE)) none), (10, .v (.int .i64 l.length) none), (11, .v (.int .i64 k) none)], bx := [(2, encE (.mk kd n t ta l p)), (4, [.int .i64 0, .str [], .str [], .slice [], .int .i64 0, .slice [], .slice [], .int .i64 0])], tb := [], sh := [], hint := [(5, 33)] }) (l.length) (by first | rfl | simp) ?_ ?_
 exact ⟨0, by simp⟩
 rintro j s ⟨k, hk, rfl, rfl⟩ K2 hK2
 refine sr fun Z z => ?_
 simp [row_map, encE_take6, encE_drop7]
 refine z _ ?_
 clear z Z
 refine AT_seq_k fun K3 hK3 => ?_
 refine AT_cond (g := none) rfl (fun hb12 => ?_) (fun hb12 => ?_)
 simp [row_map, encE_take6, encE_drop7] at hb12
 refine AT_skip ?_
 simp only [nrm, reduceIte, Nat.reduceEqDiff]
 refine hK3 _ ?_
 refine AT_seq_k fun K4 hK4 => ?_
 refine AT_block ?_
 refine sr fun Z z => ?_
 simp [row_map, encE_take6, encE_drop7, hb12]
 refine z _ ?_
 clear z Z
 refine AT_region_q fun Z z => ?_
 simp [row_map, encE_take6, encE_drop7, hb12]
 refine RVn_call (ih l[k] (by simp) (by have := wtEs_mem (l := l) (e := l[k]) (by simp); omega)) ?_
 simp [row_map, encE_take6, encE_drop7, hb12]
 repeat refine sg ?_
 refine z _ ?_
 clear z Z
 refine hK4 _ ?_
 refine AT_region_q fun Z z => ?_
 simp [row_map, encE_take6, encE_drop7, hb12]
 repeat refine sg ?_
 refine z _ ?_
 clear z Z
 simp only [nrm, reduceIte, Nat.reduceEqDiff]
 refine hK2 _ (by first | rfl | simp) (l.length - (k+1)) (by omega) ?_
 have hs2 := take_map_succ (encE ∘ mapE F) l k hb12
 exact ⟨k+1, by omega, by omega, by simp [hs2]⟩
 simp [row_map, encE_take6, encE_drop7] at hb12
 refine AT_exit ?_
 simp only [nrm, reduceIte, Nat.reduceEqDiff]
 refine hK1 _ ?_
 refine sr fun Z z => ?_
 simp [row_map, encE_take6, encE_drop7, hb12]
 refine z _ ?_
 clear z Z
 refine sr fun Z z => ?_
 try rw [List.take_of_length_le (by simpa using hb12)]
 simp [row_map, encE_take6, encE_drop7, hb12]
 refine RVn_call ((by have h := hf kd n t ta (l.map (mapE F)) p (by omega) (by omega); rw [encE_mk, List.map_map] at h; exact h)) ?_
 simp [row_map, encE_take6, encE_drop7, hb12]
 refine z _ ?_
 clear z Z
 refine AT_ret ?_
 simp [row_map, encE_take6, encE_drop7, Tryz.f141]
 rw [mapE_mk]

theorem c_expr_Subst_1 (ns : List Str) (as_ : List Ty) (hns : ns.length ≤ 1099511627776) (has : ∀ a ∈ as_, wt a ≤ 1099511627776) (hal : as_.length ≤ 1099511627776) (kd : Int) (n : Str) (t : Ty) (ta : List Ty) (l : List Exp) (p : Int) (hwt : wt t ≤ 1000000000) (hwa : wts ta ≤ 1000000000) : Valid Tryz.prog (G0 g rnd) 142 [.agg (encE (.mk kd n t ta l p)), .ro [.slice (ns.map encS)], .ro [.slice (as_.map encTy)]] (.agg (encE (subF ns as_ (.mk kd n t ta l p)))) := by
 have hla := wts_len ta
 refine valid_of [] Tryz.func142 rfl (by kernel_rfl) ?_
 refine sr fun Z z => ?_
 simp [encE_mk, encTy_def, Tryz.f142]
 refine z _ ?_
 clear z Z
 refine AT_seq_draw Pt.mixed (by kernel_rfl) fun Z z => ?_
 simp [encE_mk, encTy_def]
 refine RVdn_call ((by have h := c_types_Subst g rnd ns as_ hns has hal t (by omega); simp only [encTy_def] at h; exact h)) ?_
 simp [encE_mk, encTy_def]
 refine RVdn_call (c_types_All g rnd ta (ns.map encS) (as_.map encTy) (sub ns as_) (by omega) (fun x hx => c_types_Subst g rnd ns as_ hns has hal x (Nat.le_trans (wts_mem hx) (by omega)))) ?_
 simp [encE_mk, encTy_def]
 refine z _ ?_
 clear z Z
 refine sr fun Z z => ?_
 simp [encE_mk, encTy_def]
 refine z _ ?_
 clear z Z
 refine AT_ret ?_
 simp [encE_mk, encTy_def, Tryz.f142]
 simp [subF, encE_mk, subs_map, encTy_def]

theorem c_expr_Subst (ns : List Str) (as_ : List Ty) (hns : ns.length ≤ 1099511627776) (has : ∀ a ∈ as_, wt a ≤ 1099511627776) (hal : as_.length ≤ 1099511627776) (e : Exp) (hw : wtE e ≤ 1000000000) : Valid Tryz.prog (G0 g rnd) 119 [.agg (encE e), .slice (ns.map encS), .slice (as_.map encTy)] (.agg (encE (subE ns as_ e))) := by

 refine valid_of [(200004, 0), (200005, 0)] Tryz.func119 rfl (by kernel_rfl) ?_
 refine sr fun Z z => ?_
 simp [Tryz.f119]
 refine z _ ?_
 clear z Z
 refine sr fun Z z => ?_
 simp
 refine RVn_call ((by have h := c_expr_mapped g rnd (subF ns as_) 142 [.ro [.slice (ns.map encS)], .ro [.slice (as_.map encTy)]] (fun k n t a l p h1 h2 => c_expr_Subst_1 g rnd ns as_ hns has hal k n t a l p h1 h2) e hw; rw [mapE_sub] at h; exact h)) ?_
 simp
 refine z _ ?_
 clear z Z
 refine AT_ret ?_
 simp [Tryz.f119]

theorem c_expr_Clone (e : Exp) (hw : wtE e ≤ 1000000000) : Valid Tryz.prog (G0 g rnd) 76 [.agg (encE e)] (.agg (encE e)) := by

 refine valid_of [] Tryz.func76 rfl (by kernel_rfl) ?_
 refine sr fun Z z => ?_
 simp [Tryz.f76]
 refine z _ ?_
 clear z Z
 refine sr fun Z z => ?_
 simp
 refine RVn_call ((by have h := c_expr_Subst g rnd [] [] (by simp) (by simp) (by simp) e hw; rw [subE_nil] at h; exact h : Valid Tryz.prog (G0 g rnd) 119 [.agg (encE e), .slice [], .slice []] (.agg (encE e)))) ?_
 simp
 refine z _ ?_
 clear z Z
 refine AT_ret ?_
 simp [Tryz.f76]

end Go.Proofs.YtdifpfehijnmiaaGreatDoor
end

section
/- Contracts: clones. -/
set_option linter.all false
set_option maxHeartbeats 1000000
set_option maxRecDepth 10000
namespace Go.Proofs.YtdifpfehijnmiaaGreatDoor
open Go Go.Pv
variable (g : Nat → Option (List AV)) (rnd : Bool)

theorem c_decl_copies_api_Type (cid : Nat) (l : List Ty) (hl : l.length ≤ 1000000000) (hc : ∀ x ∈ l, Valid Tryz.prog (G0 g rnd) cid [.agg (encTy x)] (.agg (encTy x))) : Valid Tryz.prog (G0 g rnd) 60 [.slice (l.map encTy), .func cid []] (.slice (l.map encTy)) := by

 refine valid_of [(5, 28)] Tryz.func60 rfl (by kernel_rfl) ?_
 refine sr fun Z z => ?_
 simp [row_map, rows_take, Tryz.f60]
 refine z _ ?_
 clear z Z
 refine sr fun Z z => ?_
 simp [row_map, rows_take]
 refine z _ ?_
 clear z Z
 refine AT_seq_k fun K1 hK1 => ?_
 refine sr fun Z z => ?_
 simp [row_map, rows_take]
 refine z _ ?_
 clear z Z
 refine AT_block ?_
 refine AT_loop_q [1,5,8,9,10] [] (fun j s => ∃ k, k ≤ l.length ∧ j = l.length - k ∧ s = { n := 22, tm := [(1, .v (.func cid []) none), (5, .v (.slice ((l.take k).map encTy)) (some (5, 28))), (8, .v (.slice (l.map encTy)) none), (9, .v (.int .i64 l.length) none), (10, .v (.int .i64 k) none)], bx := [], tb := [], sh := [], hint := [(5, 28)] }) (l.length) (by first | rfl | simp) ?_ ?_
 exact ⟨0, by simp⟩
 rintro j s ⟨k, hk, rfl, rfl⟩ K2 hK2
 refine sr fun Z z => ?_
 simp [row_map, rows_take]
 refine z _ ?_
 clear z Z
 refine AT_seq_k fun K3 hK3 => ?_
 refine AT_cond (g := none) rfl (fun hb11 => ?_) (fun hb11 => ?_)
 simp [row_map, rows_take] at hb11
 refine AT_skip ?_
 simp only [nrm, reduceIte, Nat.reduceEqDiff]
 refine hK3 _ ?_
 refine AT_seq_k fun K4 hK4 => ?_
 refine AT_block ?_
 refine sr fun Z z => ?_
 simp [row_map, rows_take, hb11]
 refine z _ ?_
 clear z Z
 refine AT_region_q fun Z z => ?_
 simp [row_map, rows_take, hb11]
 refine RVn_call (hc l[k] (by simp)) ?_
 simp [row_map, rows_take, hb11]
 repeat refine sg ?_
 refine z _ ?_
 clear z Z
 refine hK4 _ ?_
 refine AT_region_q fun Z z => ?_
 simp [row_map, rows_take, hb11]
 repeat refine sg ?_
 refine z _ ?_
 clear z Z
 simp only [nrm, reduceIte, Nat.reduceEqDiff]
 refine hK2 _ (by first | rfl | simp) (l.length - (k+1)) (by omega) ?_
 refine ⟨k+1, by omega, by omega, ?_⟩
 have hk9 : k < l.length := by omega
 simp [List.take_succ_eq_append_getElem hk9, -List.take_append_getElem]
 simp [row_map, rows_take] at hb11
 refine AT_exit ?_
 simp only [nrm, reduceIte, Nat.reduceEqDiff]
 refine hK1 _ ?_
 refine sr fun Z z => ?_
 simp [row_map, rows_take, hb11]
 refine z _ ?_
 clear z Z
 refine AT_ret ?_
 simp [row_map, rows_take, Tryz.f60]
 rw [List.take_of_length_le (by simp; omega)]

theorem c_decl_copies_api_Formal (cid : Nat) (l : List Fm) (hl : l.length ≤ 1000000000) (hc : ∀ x ∈ l, Valid Tryz.prog (G0 g rnd) cid [.agg (encF x)] (.agg (encF x))) : Valid Tryz.prog (G0 g rnd) 112 [.slice (l.map encF), .func cid []] (.slice (l.map encF)) := by

 refine valid_of [(5, 51)] Tryz.func112 rfl (by kernel_rfl) ?_
 refine sr fun Z z => ?_
 simp [row_map, rows_take, Tryz.f112]
 refine z _ ?_
 clear z Z
 refine sr fun Z z => ?_
 simp [row_map, rows_take]
 refine z _ ?_
 clear z Z
 refine AT_seq_k fun K1 hK1 => ?_
 refine sr fun Z z => ?_
 simp [row_map, rows_take]
 refine z _ ?_
 clear z Z
 refine AT_block ?_
 refine AT_loop_q [1,5,8,9,10] [] (fun j s => ∃ k, k ≤ l.length ∧ j = l.length - k ∧ s = { n := 22, tm := [(1, .v (.func cid []) none), (5, .v (.slice ((l.take k).map encF)) (some (5, 51))), (8, .v (.slice (l.map encF)) none), (9, .v (.int .i64 l.length) none), (10, .v (.int .i64 k) none)], bx := [], tb := [], sh := [], hint := [(5, 51)] }) (l.length) (by first | rfl | simp) ?_ ?_
 exact ⟨0, by simp⟩
 rintro j s ⟨k, hk, rfl, rfl⟩ K2 hK2
 refine sr fun Z z => ?_
 simp [row_map, rows_take]
 refine z _ ?_
 clear z Z
 refine AT_seq_k fun K3 hK3 => ?_
 refine AT_cond (g := none) rfl (fun hb11 => ?_) (fun hb11 => ?_)
 simp [row_map, rows_take] at hb11
 refine AT_skip ?_
 simp only [nrm, reduceIte, Nat.reduceEqDiff]
 refine hK3 _ ?_
 refine AT_seq_k fun K4 hK4 => ?_
 refine AT_block ?_
 refine sr fun Z z => ?_
 simp [row_map, rows_take, hb11]
 refine z _ ?_
 clear z Z
 refine AT_region_q fun Z z => ?_
 simp [row_map, rows_take, hb11]
 refine RVn_call (hc l[k] (by simp)) ?_
 simp [row_map, rows_take, hb11]
 repeat refine sg ?_
 refine z _ ?_
 clear z Z
 refine hK4 _ ?_
 refine AT_region_q fun Z z => ?_
 simp [row_map, rows_take, hb11]
 repeat refine sg ?_
 refine z _ ?_
 clear z Z
 simp only [nrm, reduceIte, Nat.reduceEqDiff]
 refine hK2 _ (by first | rfl | simp) (l.length - (k+1)) (by omega) ?_
 refine ⟨k+1, by omega, by omega, ?_⟩
 have hk9 : k < l.length := by omega
 simp [List.take_succ_eq_append_getElem hk9, -List.take_append_getElem]
 simp [row_map, rows_take] at hb11
 refine AT_exit ?_
 simp only [nrm, reduceIte, Nat.reduceEqDiff]
 refine hK1 _ ?_
 refine sr fun Z z => ?_
 simp [row_map, rows_take, hb11]
 refine z _ ?_
 clear z Z
 refine AT_ret ?_
 simp [row_map, rows_take, Tryz.f112]
 rw [List.take_of_length_le (by simp; omega)]

theorem c_decl_copies_api_Param (cid : Nat) (l : List Fm) (hl : l.length ≤ 1000000000) (hc : ∀ x ∈ l, Valid Tryz.prog (G0 g rnd) cid [.agg (encF x)] (.agg (encF x))) : Valid Tryz.prog (G0 g rnd) 114 [.slice (l.map encF), .func cid []] (.slice (l.map encF)) := by

 refine valid_of [(5, 53)] Tryz.func114 rfl (by kernel_rfl) ?_
 refine sr fun Z z => ?_
 simp [row_map, rows_take, Tryz.f114]
 refine z _ ?_
 clear z Z
 refine sr fun Z z => ?_
 simp [row_map, rows_take]
 refine z _ ?_
 clear z Z
 refine AT_seq_k fun K1 hK1 => ?_
 refine sr fun Z z => ?_
 simp [row_map, rows_take]
 refine z _ ?_
 clear z Z
 refine AT_block ?_
 refine AT_loop_q [1,5,8,9,10] [] (fun j s => ∃ k, k ≤ l.length ∧ j = l.length - k ∧ s = { n := 22, tm := [(1, .v (.func cid []) none), (5, .v (.slice ((l.take k).map encF)) (some (5, 53))), (8, .v (.slice (l.map encF)) none), (9, .v (.int .i64 l.length) none), (10, .v (.int .i64 k) none)], bx := [], tb := [], sh := [], hint := [(5, 53)] }) (l.length) (by first | rfl | simp) ?_ ?_
 exact ⟨0, by simp⟩
 rintro j s ⟨k, hk, rfl, rfl⟩ K2 hK2
 refine sr fun Z z => ?_
 simp [row_map, rows_take]
 refine z _ ?_
 clear z Z
 refine AT_seq_k fun K3 hK3 => ?_
 refine AT_cond (g := none) rfl (fun hb11 => ?_) (fun hb11 => ?_)
 simp [row_map, rows_take] at hb11
 refine AT_skip ?_
 simp only [nrm, reduceIte, Nat.reduceEqDiff]
 refine hK3 _ ?_
 refine AT_seq_k fun K4 hK4 => ?_
 refine AT_block ?_
 refine sr fun Z z => ?_
 simp [row_map, rows_take, hb11]
 refine z _ ?_
 clear z Z
 refine AT_region_q fun Z z => ?_
 simp [row_map, rows_take, hb11]
 refine RVn_call (hc l[k] (by simp)) ?_
 simp [row_map, rows_take, hb11]
 repeat refine sg ?_
 refine z _ ?_
 clear z Z
 refine hK4 _ ?_
 refine AT_region_q fun Z z => ?_
 simp [row_map, rows_take, hb11]
 repeat refine sg ?_
 refine z _ ?_
 clear z Z
 simp only [nrm, reduceIte, Nat.reduceEqDiff]
 refine hK2 _ (by first | rfl | simp) (l.length - (k+1)) (by omega) ?_
 refine ⟨k+1, by omega, by omega, ?_⟩
 have hk9 : k < l.length := by omega
 simp [List.take_succ_eq_append_getElem hk9, -List.take_append_getElem]
 simp [row_map, rows_take] at hb11
 refine AT_exit ?_
 simp only [nrm, reduceIte, Nat.reduceEqDiff]
 refine hK1 _ ?_
 refine sr fun Z z => ?_
 simp [row_map, rows_take, hb11]
 refine z _ ?_
 clear z Z
 refine AT_ret ?_
 simp [row_map, rows_take, Tryz.f114]
 rw [List.take_of_length_le (by simp; omega)]

theorem c_decl_copies_api_Sig (cid : Nat) (l : List Sg) (hl : l.length ≤ 1000000000) (hc : ∀ x ∈ l, Valid Tryz.prog (G0 g rnd) cid [.agg (encG x)] (.agg (encG x))) : Valid Tryz.prog (G0 g rnd) 116 [.slice (l.map encG), .func cid []] (.slice (l.map encG)) := by

 refine valid_of [(5, 30)] Tryz.func116 rfl (by kernel_rfl) ?_
 refine sr fun Z z => ?_
 simp [row_map, rows_take, Tryz.f116]
 refine z _ ?_
 clear z Z
 refine sr fun Z z => ?_
 simp [row_map, rows_take]
 refine z _ ?_
 clear z Z
 refine AT_seq_k fun K1 hK1 => ?_
 refine sr fun Z z => ?_
 simp [row_map, rows_take]
 refine z _ ?_
 clear z Z
 refine AT_block ?_
 refine AT_loop_q [1,5,8,9,10] [] (fun j s => ∃ k, k ≤ l.length ∧ j = l.length - k ∧ s = { n := 22, tm := [(1, .v (.func cid []) none), (5, .v (.slice ((l.take k).map encG)) (some (5, 30))), (8, .v (.slice (l.map encG)) none), (9, .v (.int .i64 l.length) none), (10, .v (.int .i64 k) none)], bx := [], tb := [], sh := [], hint := [(5, 30)] }) (l.length) (by first | rfl | simp) ?_ ?_
 exact ⟨0, by simp⟩
 rintro j s ⟨k, hk, rfl, rfl⟩ K2 hK2
 refine sr fun Z z => ?_
 simp [row_map, rows_take]
 refine z _ ?_
 clear z Z
 refine AT_seq_k fun K3 hK3 => ?_
 refine AT_cond (g := none) rfl (fun hb11 => ?_) (fun hb11 => ?_)
 simp [row_map, rows_take] at hb11
 refine AT_skip ?_
 simp only [nrm, reduceIte, Nat.reduceEqDiff]
 refine hK3 _ ?_
 refine AT_seq_k fun K4 hK4 => ?_
 refine AT_block ?_
 refine sr fun Z z => ?_
 simp [row_map, rows_take, hb11]
 refine z _ ?_
 clear z Z
 refine AT_region_q fun Z z => ?_
 simp [row_map, rows_take, hb11]
 refine RVn_call (hc l[k] (by simp)) ?_
 simp [row_map, rows_take, hb11]
 repeat refine sg ?_
 refine z _ ?_
 clear z Z
 refine hK4 _ ?_
 refine AT_region_q fun Z z => ?_
 simp [row_map, rows_take, hb11]
 repeat refine sg ?_
 refine z _ ?_
 clear z Z
 simp only [nrm, reduceIte, Nat.reduceEqDiff]
 refine hK2 _ (by first | rfl | simp) (l.length - (k+1)) (by omega) ?_
 refine ⟨k+1, by omega, by omega, ?_⟩
 have hk9 : k < l.length := by omega
 simp [List.take_succ_eq_append_getElem hk9, -List.take_append_getElem]
 simp [row_map, rows_take] at hb11
 refine AT_exit ?_
 simp only [nrm, reduceIte, Nat.reduceEqDiff]
 refine hK1 _ ?_
 refine sr fun Z z => ?_
 simp [row_map, rows_take, hb11]
 refine z _ ?_
 clear z Z
 refine AT_ret ?_
 simp [row_map, rows_take, Tryz.f116]
 rw [List.take_of_length_le (by simp; omega)]

theorem c_decl_copies_api_Decl (cid : Nat) (l : List Dc) (hl : l.length ≤ 1000000000) (hc : ∀ x ∈ l, Valid Tryz.prog (G0 g rnd) cid [.agg (encD x)] (.agg (encD x))) : Valid Tryz.prog (G0 g rnd) 74 [.slice (l.map encD), .func cid []] (.slice (l.map encD)) := by

 refine valid_of [(5, 35)] Tryz.func74 rfl (by kernel_rfl) ?_
 refine sr fun Z z => ?_
 simp [row_map, rows_take, Tryz.f74]
 refine z _ ?_
 clear z Z
 refine sr fun Z z => ?_
 simp [row_map, rows_take]
 refine z _ ?_
 clear z Z
 refine AT_seq_k fun K1 hK1 => ?_
 refine sr fun Z z => ?_
 simp [row_map, rows_take]
 refine z _ ?_
 clear z Z
 refine AT_block ?_
 refine AT_loop_q [1,5,8,9,10] [] (fun j s => ∃ k, k ≤ l.length ∧ j = l.length - k ∧ s = { n := 22, tm := [(1, .v (.func cid []) none), (5, .v (.slice ((l.take k).map encD)) (some (5, 35))), (8, .v (.slice (l.map encD)) none), (9, .v (.int .i64 l.length) none), (10, .v (.int .i64 k) none)], bx := [], tb := [], sh := [], hint := [(5, 35)] }) (l.length) (by first | rfl | simp) ?_ ?_
 exact ⟨0, by simp⟩
 rintro j s ⟨k, hk, rfl, rfl⟩ K2 hK2
 refine sr fun Z z => ?_
 simp [row_map, rows_take]
 refine z _ ?_
 clear z Z
 refine AT_seq_k fun K3 hK3 => ?_
 refine AT_cond (g := none) rfl (fun hb11 => ?_) (fun hb11 => ?_)
 simp [row_map, rows_take] at hb11
 refine AT_skip ?_
 simp only [nrm, reduceIte, Nat.reduceEqDiff]
 refine hK3 _ ?_
 refine AT_seq_k fun K4 hK4 => ?_
 refine AT_block ?_
 refine sr fun Z z => ?_
 simp [row_map, rows_take, hb11]
 refine z _ ?_
 clear z Z
 refine AT_region_q fun Z z => ?_
 simp [row_map, rows_take, hb11]
 refine RVn_call (hc l[k] (by simp)) ?_
 simp [row_map, rows_take, hb11]
 repeat refine sg ?_
 refine z _ ?_
 clear z Z
 refine hK4 _ ?_
 refine AT_region_q fun Z z => ?_
 simp [row_map, rows_take, hb11]
 repeat refine sg ?_
 refine z _ ?_
 clear z Z
 simp only [nrm, reduceIte, Nat.reduceEqDiff]
 refine hK2 _ (by first | rfl | simp) (l.length - (k+1)) (by omega) ?_
 refine ⟨k+1, by omega, by omega, ?_⟩
 have hk9 : k < l.length := by omega
 simp [List.take_succ_eq_append_getElem hk9, -List.take_append_getElem]
 simp [row_map, rows_take] at hb11
 refine AT_exit ?_
 simp only [nrm, reduceIte, Nat.reduceEqDiff]
 refine hK1 _ ?_
 refine sr fun Z z => ?_
 simp [row_map, rows_take, hb11]
 refine z _ ?_
 clear z Z
 refine AT_ret ?_
 simp [row_map, rows_take, Tryz.f74]
 rw [List.take_of_length_le (by simp; omega)]

theorem c_decl_cloneFormal (a : Fm) (hw : wtF a ≤ 1000000000) : Valid Tryz.prog (G0 g rnd) 113 [.agg (encF a)] (.agg (encF a)) := by
 have hw2 : a.name.length + 1 + wt a.ty ≤ 1000000000 := hw
 refine valid_of [] Tryz.func113 rfl (by kernel_rfl) ?_
 refine sr fun Z z => ?_
 simp [encF, Tryz.f113]
 refine z _ ?_
 clear z Z
 refine sr fun Z z => ?_
 simp [encF]
 refine RVn_call ((by have h := c_types_Clone g rnd a.ty (by omega); simp only [encTy_def] at h; exact h)) ?_
 simp [encF]
 refine z _ ?_
 clear z Z
 refine sr fun Z z => ?_
 simp [encF]
 refine z _ ?_
 clear z Z
 refine AT_ret ?_
 simp [encF, Tryz.f113]

theorem c_decl_cloneParam (a : Fm) (hw : wtF a ≤ 1000000000) : Valid Tryz.prog (G0 g rnd) 115 [.agg (encF a)] (.agg (encF a)) := by
 have hw2 : a.name.length + 1 + wt a.ty ≤ 1000000000 := hw
 refine valid_of [] Tryz.func115 rfl (by kernel_rfl) ?_
 refine sr fun Z z => ?_
 simp [encF, Tryz.f115]
 refine z _ ?_
 clear z Z
 refine sr fun Z z => ?_
 simp [encF]
 refine RVn_call ((by have h := c_types_Clone g rnd a.ty (by omega); simp only [encTy_def] at h; exact h)) ?_
 simp [encF]
 refine z _ ?_
 clear z Z
 refine sr fun Z z => ?_
 simp [encF]
 refine z _ ?_
 clear z Z
 refine AT_ret ?_
 simp [encF, Tryz.f115]

theorem c_decl_cloneSig (a : Sg) (hw : wtG a ≤ 1000000000) : Valid Tryz.prog (G0 g rnd) 117 [.agg (encG a)] (.agg (encG a)) := by
 have hw2 : a.name.length + 1 + wtFs a.fms + wtFs a.pms + wt a.res ≤ 1000000000 := hw
 refine valid_of [] Tryz.func117 rfl (by kernel_rfl) ?_
 refine sr fun Z z => ?_
 simp [encG, Tryz.f117]
 refine z _ ?_
 clear z Z
 refine AT_seq_draw Pt.mixed (by kernel_rfl) fun Z z => ?_
 simp [encG]
 refine RVdn_call (c_decl_copies_api_Formal g rnd 113 a.fms (by have := wtFs_len a.fms; omega) (fun x hx => c_decl_cloneFormal g rnd x (by have := wtFs_mem hx; omega))) ?_
 simp [encG]
 refine RVdn_call (c_decl_copies_api_Param g rnd 115 a.pms (by have := wtFs_len a.pms; omega) (fun x hx => c_decl_cloneParam g rnd x (by have := wtFs_mem hx; omega))) ?_
 simp [encG]
 refine RVdn_call ((by have h := c_types_Clone g rnd a.res (by omega); simp only [encTy_def] at h; exact h)) ?_
 simp [encG]
 refine z _ ?_
 clear z Z
 refine sr fun Z z => ?_
 simp [encG]
 refine z _ ?_
 clear z Z
 refine AT_ret ?_
 simp [encG, Tryz.f117]

theorem c_slices_Clone_string_string (l : List Str) (hl : l.length ≤ 1000000000) : Valid Tryz.prog (G0 g rnd) 118 [.slice (l.map encS)] (.slice (l.map encS)) := by

 refine valid_of [(5, 9)] Tryz.func118 rfl (by kernel_rfl) ?_
 refine sr fun Z z => ?_
 simp [encS, Tryz.f118]
 refine z _ ?_
 clear z Z
 refine AT_seq_k fun K1 hK1 => ?_
 rcases l with _ | ⟨x, l⟩
 refine sr fun Z z => ?_
 simp [encS]
 refine z _ ?_
 clear z Z
 refine AT_condU rfl ?_ ?_
 refine sr fun Z z => ?_
 simp [encS]
 refine z _ ?_
 clear z Z
 refine AT_ret ?_
 simp [encS, Tryz.f118]
 refine AT_skip ?_
 simp only [nrm, reduceIte, Nat.reduceEqDiff]
 refine hK1 _ ?_
 refine sr fun Z z => ?_
 simp [encS]
 refine z _ ?_
 clear z Z
 refine AT_ret ?_
 simp [encS, Tryz.f118]
 refine sr fun Z z => ?_
 simp [encS]
 refine z _ ?_
 clear z Z
 refine AT_cond (b := false) (g := none) (by simp) (fun hb => ?_) (fun hb => ?_)
 cases hb
 clear hb
 refine AT_skip ?_
 simp only [nrm, reduceIte, Nat.reduceEqDiff]
 refine hK1 _ ?_
 refine sr fun Z z => ?_
 simp [encS]
 repeat refine sg ?_
 refine z _ ?_
 clear z Z
 refine AT_ret ?_
 simp [encS, Tryz.f118]

end Go.Proofs.YtdifpfehijnmiaaGreatDoor
end

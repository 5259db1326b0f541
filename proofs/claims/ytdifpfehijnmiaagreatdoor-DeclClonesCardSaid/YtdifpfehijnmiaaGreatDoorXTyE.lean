import Derived.Test.YtdifpfehijnmiaaGreatDoorPt
import Derived.Test.YtdifpfehijnmiaaGreatDoorPvPb
import Derived.Test.YtdifpfehijnmiaaGreatDoorPvY
import Derived.Test.YtdifpfehijnmiaaGreatDoorXTyI
import Derived.Test.YtdifpfehijnmiaaGreatDoorPvMf
section
/- Contracts. -/
set_option linter.all false
set_option maxHeartbeats 1000000
set_option maxRecDepth 10000
namespace Go.Proofs.YtdifpfehijnmiaaGreatDoor
open Go Go.Pv
variable (g : Nat → Option (List AV)) (rnd : Bool)

theorem c_types_Subst (ns : List Str) (as_ : List Ty) (hns : ns.length ≤ 1099511627776) (has : ∀ a ∈ as_, wt a ≤ 1099511627776) (hal : as_.length ≤ 1099511627776) : ∀ t : Ty, wt t ≤ 1099511627776 → Valid Tryz.prog (G0 g rnd) 106 [.agg (encTy t), .slice (ns.map encS), .slice (as_.map encTy)] (.agg (encTy (sub ns as_ t))) := by
 intro t
 induction t using Ty.ind with
 | h n ts p ih =>
 intro hw
 have hw2 : n.length + 1 + wts ts ≤ 1099511627776 := by simpa [wt] using hw
 have hln := wts_len ts
 have hi : ∃ i : Int, i = idxF ns n 0 := ⟨_, rfl⟩
 obtain ⟨i, hi⟩ := hi
 refine valid_of [] Tryz.func106 rfl (by kernel_rfl) ?_
 refine sr fun Z z => ?_
 simp [row_map, encTy_mk, Tryz.f106]
 refine z _ ?_
 clear z Z
 refine AT_seq_k fun K1 hK1 => ?_
 refine sr fun Z z => ?_
 simp [row_map, encTy_mk]
 refine RVn_call ((hi ▸ c_slices_Index_string_string g rnd ns n (by omega) : Valid Tryz.prog (G0 g rnd) 136 [.slice (ns.map encS), .str n] (.int .i64 i))) ?_
 simp [row_map, encTy_mk]
 refine z _ ?_
 clear z Z
 by_cases h0 : ts = []
 have h0b : ((ts.length : Int) == 0) = true := by simpa using h0
 by_cases h1 : 0 ≤ i
 by_cases h2 : i < as_.length
 refine sr fun Z z => ?_
 simp [row_map, encTy_mk, h0b, h1, h2]
 refine z _ ?_
 clear z Z
 refine cT (by simp [h0b, h1, h2]) ?_
 refine sr fun Z z => ?_
 have hin : i.toNat < as_.length := by omega
 simp [row_map, encTy_mk, hin, h0b, h1, h2]
 refine RVn_call (c_types_Clone g rnd as_[i.toNat] (has _ (by simp))) ?_
 simp [row_map, encTy_mk, hin, h0b, h1, h2]
 refine z _ ?_
 clear z Z
 refine sr fun Z z => ?_
 simp [row_map, encTy_mk, h0b, h1, h2]
 refine z _ ?_
 clear z Z
 refine sr fun Z z => ?_
 simp [row_map, encTy_mk, h0b, h1, h2]
 refine z _ ?_
 clear z Z
 refine AT_ret ?_
 simp [row_map, encTy_mk, Tryz.f106]
 (· have hin : i.toNat < as_.length := by omega
    rw [sub, if_pos (by simp [h0]), ← hi, if_pos h1, List.getElem?_eq_getElem hin]
    simp only []
    generalize as_[i.toNat] = a; cases a; simp [Ty.at_, encTy_mk])
 refine sr fun Z z => ?_
 simp [row_map, encTy_mk, h0b, h1, h2]
 refine z _ ?_
 clear z Z
 refine cF (by simp [h0b, h1, h2]) ?_
 refine AT_skip ?_
 refine hK1 _ ?_
 refine sr fun Z z => ?_
 simp [row_map, encTy_mk, h0b, h1, h2]
 refine RVn_call (c_types_All g rnd ts (ns.map encS) (as_.map encTy) (sub ns as_) (by omega) (fun t ht => ih t ht (Nat.le_trans (wts_mem ht) (by omega)))) ?_
 simp [row_map, encTy_mk, h0b, h1, h2]
 refine z _ ?_
 clear z Z
 refine sr fun Z z => ?_
 simp [row_map, encTy_mk, h0b, h1, h2]
 refine z _ ?_
 clear z Z
 refine AT_ret ?_
 simp [row_map, encTy_mk, Tryz.f106]
 (· have hin : as_.length ≤ i.toNat := by omega
    rw [sub, if_pos (by simp [h0]), ← hi, if_pos h1, List.getElem?_eq_none hin]
    simp [encTy_mk, h0])
 refine sr fun Z z => ?_
 simp [row_map, encTy_mk, h0b, h1]
 refine z _ ?_
 clear z Z
 refine cF (by simp [h0b, h1]) ?_
 refine AT_skip ?_
 refine hK1 _ ?_
 refine sr fun Z z => ?_
 simp [row_map, encTy_mk, h0b, h1]
 refine RVn_call (c_types_All g rnd ts (ns.map encS) (as_.map encTy) (sub ns as_) (by omega) (fun t ht => ih t ht (Nat.le_trans (wts_mem ht) (by omega)))) ?_
 simp [row_map, encTy_mk, h0b, h1]
 refine z _ ?_
 clear z Z
 refine sr fun Z z => ?_
 simp [row_map, encTy_mk, h0b, h1]
 refine z _ ?_
 clear z Z
 refine AT_ret ?_
 simp [row_map, encTy_mk, Tryz.f106]
 (· rw [sub, if_pos (by simp [h0]), ← hi, if_neg h1]; simp [encTy_mk, h0])
 have h0b : ((ts.length : Int) == 0) = false := by simpa using h0
 refine sr fun Z z => ?_
 simp [row_map, encTy_mk, h0b]
 refine z _ ?_
 clear z Z
 refine cF (by simp [h0b]) ?_
 refine AT_skip ?_
 refine hK1 _ ?_
 refine sr fun Z z => ?_
 simp [row_map, encTy_mk, h0b]
 refine RVn_call (c_types_All g rnd ts (ns.map encS) (as_.map encTy) (sub ns as_) (by omega) (fun t ht => ih t ht (Nat.le_trans (wts_mem ht) (by omega)))) ?_
 simp [row_map, encTy_mk, h0b]
 refine z _ ?_
 clear z Z
 refine sr fun Z z => ?_
 simp [row_map, encTy_mk, h0b]
 refine z _ ?_
 clear z Z
 refine AT_ret ?_
 simp [row_map, encTy_mk, Tryz.f106]
 (· rw [sub, if_neg (by simpa using h0), encTy_mk, subs_map]; simp)

end Go.Proofs.YtdifpfehijnmiaaGreatDoor
end

section
/- Contracts: substituted types are new memory. -/
set_option linter.all false
set_option maxHeartbeats 1000000
set_option maxRecDepth 10000
namespace Go.Proofs.YtdifpfehijnmiaaGreatDoor
open Go Go.Pv
variable (g : Nat → Option (List AV)) (rnd : Bool)

theorem c_types_All_m (l : List Ty) (ns as_ : List (List AV)) (res : Ty → Ty) (hl : l.length ≤ 1099511627776) (hs : ∀ t ∈ l, Valid Tryz.prog (G0 g rnd) 106 [.agg (encTy t), .slice ns, .slice as_] (.agg ((encR 28 0) (res t)))) : Valid Tryz.prog (G0 g rnd) 137 [.slice (l.map encTy), .slice ns, .slice as_] (.fr 0 28 3 ((l.map res).map (encR 28 0))) := by
 have hez : esz Tryz.prog 28 = 3 := by kernel_rfl
 refine valid_of [(7, 28)] Tryz.func137 rfl (by kernel_rfl) ?_
 refine sr fun Z z => ?_
 simp [row_map, Tryz.f137]
 refine z _ ?_
 clear z Z
 refine sr fun Z z => ?_
 simp [row_map]
 refine z _ ?_
 clear z Z
 refine AT_seq_k fun K1 hK1 => ?_
 refine sr fun Z z => ?_
 simp [row_map]
 refine z _ ?_
 clear z Z
 refine AT_block ?_
 refine AT_loop_q [1,2,7,10,11,12] [] (fun j s => ∃ k, k ≤ l.length ∧ j = l.length - k ∧ s = { n := 25, tm := [(1, .v (.slice ns) none), (2, .v (.slice as_) none), (7, .v (.slice (((l.take k).map res).map (encR 28 0))) (some (7, 28))), (10, .v (.slice (l.map encTy)) none), (11, .v (.int .i64 l.length) none), (12, .v (.int .i64 k) none)], bx := [], tb := [], sh := [], hint := [(7, 28)] }) (l.length) (by first | rfl | simp) ?_ ?_
 exact ⟨0, by simp⟩
 rintro j s ⟨k, hk, rfl, rfl⟩ K2 hK2
 refine sr fun Z z => ?_
 simp [row_map]
 refine z _ ?_
 clear z Z
 refine AT_seq_k fun K3 hK3 => ?_
 refine AT_cond (g := none) rfl (fun hb13 => ?_) (fun hb13 => ?_)
 simp [row_map] at hb13
 refine AT_skip ?_
 refine hK3 _ ?_
 refine AT_seq_k fun K4 hK4 => ?_
 refine AT_block ?_
 refine sr fun Z z => ?_
 simp [row_map, hb13]
 refine z _ ?_
 clear z Z
 refine AT_region_q fun Z z => ?_
 simp [row_map, hb13]
 refine RVn_call (hs l[k] (by simp)) ?_
 simp [row_map, hb13]
 repeat refine sg ?_
 refine z _ ?_
 clear z Z
 refine hK4 _ ?_
 refine AT_region_q fun Z z => ?_
 simp [row_map, hb13]
 repeat refine sg ?_
 refine z _ ?_
 clear z Z
 refine hK2 _ (by first | rfl | simp) (l.length - (k+1)) (by omega) ?_
 have hs2 := take_map_succ ((encR 28 0) ∘ res) l k hb13
 exact ⟨k+1, by omega, by omega, by simp [hs2]⟩
 simp [row_map] at hb13
 refine AT_exit ?_
 refine hK1 _ ?_
 refine AT_sealT 7 7 28 0 rfl (by rfl) ?_
 simp [AS.purge, hez]
 refine sr fun Z z => ?_
 simp [row_map, hb13]
 refine z _ ?_
 clear z Z
 refine AT_ret ?_
 simp [row_map, Tryz.f137]
 rw [List.take_of_length_le (by simpa using hb13)]

theorem c_types_Subst_nm : ∀ t : Ty, wt t ≤ 1099511627776 → Valid Tryz.prog (G0 g rnd) 106 [.agg (encTy t), .slice [], .slice []] (.agg ((encR 28 0) t)) := by
 intro t
 induction t using Ty.ind with
 | h n ts p ih =>
 intro hw
 have hw2 : n.length + 1 + wts ts ≤ 1099511627776 := by simpa [wt] using hw
 have hln := wts_len ts
 refine valid_of [] Tryz.func106 rfl (by kernel_rfl) ?_
 refine sr fun Z z => ?_
 simp [row_map, encTy_mk, encR_mk, Tryz.f106]
 refine z _ ?_
 clear z Z
 refine AT_seq_k fun K1 hK1 => ?_
 refine sr fun Z z => ?_
 simp [row_map, encTy_mk, encR_mk]
 refine RVn_call ((by simpa [idxF] using c_slices_Index_string_string g rnd [] n (by simp) : Valid Tryz.prog (G0 g rnd) 136 [.slice [], .str n] (.int .i64 (-1)))) ?_
 simp [row_map, encTy_mk, encR_mk]
 refine z _ ?_
 clear z Z
 by_cases h0 : ts = []
 have h0b : ((ts.length : Int) == 0) = true := by simpa using h0
 refine sr fun Z z => ?_
 simp [row_map, encTy_mk, encR_mk, h0b]
 refine z _ ?_
 clear z Z
 refine cF (by simp [h0b]) ?_
 refine AT_skip ?_
 refine hK1 _ ?_
 refine sr fun Z z => ?_
 simp [row_map, encTy_mk, encR_mk, h0b]
 refine RVn_call ((by simpa using c_types_All_m g rnd ts [] [] id (by omega) (fun t ht => ih t ht (Nat.le_trans (wts_mem ht) (by omega))) : Valid Tryz.prog (G0 g rnd) 137 [.slice (ts.map encTy), .slice [], .slice []] (.fr 0 28 3 (ts.map (encR 28 0))))) ?_
 simp [row_map, encTy_mk, encR_mk, h0b]
 refine z _ ?_
 clear z Z
 refine sr fun Z z => ?_
 simp [row_map, encTy_mk, encR_mk, h0b]
 refine z _ ?_
 clear z Z
 refine AT_ret ?_
 simp [row_map, encTy_mk, encR_mk, Tryz.f106]
 have h0b : ((ts.length : Int) == 0) = false := by simpa using h0
 refine sr fun Z z => ?_
 simp [row_map, encTy_mk, encR_mk, h0b]
 refine z _ ?_
 clear z Z
 refine cF (by simp [h0b]) ?_
 refine AT_skip ?_
 refine hK1 _ ?_
 refine sr fun Z z => ?_
 simp [row_map, encTy_mk, encR_mk, h0b]
 refine RVn_call ((by simpa using c_types_All_m g rnd ts [] [] id (by omega) (fun t ht => ih t ht (Nat.le_trans (wts_mem ht) (by omega))) : Valid Tryz.prog (G0 g rnd) 137 [.slice (ts.map encTy), .slice [], .slice []] (.fr 0 28 3 (ts.map (encR 28 0))))) ?_
 simp [row_map, encTy_mk, encR_mk, h0b]
 refine z _ ?_
 clear z Z
 refine sr fun Z z => ?_
 simp [row_map, encTy_mk, encR_mk, h0b]
 refine z _ ?_
 clear z Z
 refine AT_ret ?_
 simp [row_map, encTy_mk, encR_mk, Tryz.f106]

theorem c_types_Clone_m (t : Ty) (hw : wt t ≤ 1099511627776) : Valid Tryz.prog (G0 g rnd) 61 [.agg (encTy t)] (.agg ((encR 28 0) t)) := by

 refine valid_of [] Tryz.func61 rfl (by kernel_rfl) ?_
 refine sr fun Z z => ?_
 simp [Tryz.f61]
 refine z _ ?_
 clear z Z
 refine sr fun Z z => ?_
 simp
 refine RVn_call (c_types_Subst_nm g rnd t hw) ?_
 simp
 refine z _ ?_
 clear z Z
 refine AT_ret ?_
 simp [Tryz.f61]

theorem c_types_Subst_m (ns : List Str) (as_ : List Ty) (hns : ns.length ≤ 1099511627776) (has : ∀ a ∈ as_, wt a ≤ 1099511627776) (hal : as_.length ≤ 1099511627776) : ∀ t : Ty, wt t ≤ 1099511627776 → Valid Tryz.prog (G0 g rnd) 106 [.agg (encTy t), .slice (ns.map encS), .slice (as_.map encTy)] (.agg ((encR 28 0) (sub ns as_ t))) := by
 intro t
 induction t using Ty.ind with
 | h n ts p ih =>
 intro hw
 have hw2 : n.length + 1 + wts ts ≤ 1099511627776 := by simpa [wt] using hw
 have hln := wts_len ts
 have hi : ∃ i : Int, i = idxF ns n 0 := ⟨_, rfl⟩
 obtain ⟨i, hi⟩ := hi
 refine valid_of [] Tryz.func106 rfl (by kernel_rfl) ?_
 refine sr fun Z z => ?_
 simp [row_map, encTy_mk, Tryz.f106]
 refine z _ ?_
 clear z Z
 refine AT_seq_k fun K1 hK1 => ?_
 refine sr fun Z z => ?_
 simp [row_map, encTy_mk]
 refine RVn_call ((hi ▸ c_slices_Index_string_string g rnd ns n (by omega) : Valid Tryz.prog (G0 g rnd) 136 [.slice (ns.map encS), .str n] (.int .i64 i))) ?_
 simp [row_map, encTy_mk]
 refine z _ ?_
 clear z Z
 by_cases h0 : ts = []
 have h0b : ((ts.length : Int) == 0) = true := by simpa using h0
 by_cases h1 : 0 ≤ i
 by_cases h2 : i < as_.length
 refine sr fun Z z => ?_
 simp [row_map, encTy_mk, h0b, h1, h2]
 refine z _ ?_
 clear z Z
 refine cT (by simp [h0b, h1, h2]) ?_
 refine sr fun Z z => ?_
 have hin : i.toNat < as_.length := by omega
 simp [row_map, encTy_mk, hin, h0b, h1, h2]
 refine RVn_call (c_types_Clone_m g rnd as_[i.toNat] (has _ (by simp))) ?_
 simp [row_map, encTy_mk, hin, h0b, h1, h2]
 refine z _ ?_
 clear z Z
 refine sr fun Z z => ?_
 simp [row_map, encTy_mk, h0b, h1, h2]
 refine z _ ?_
 clear z Z
 refine sr fun Z z => ?_
 simp [row_map, encTy_mk, h0b, h1, h2]
 refine z _ ?_
 clear z Z
 refine AT_ret ?_
 simp [row_map, encTy_mk, Tryz.f106]
 (· have hin : i.toNat < as_.length := by omega
    rw [sub, if_pos (by simp [h0]), ← hi, if_pos h1, List.getElem?_eq_getElem hin]
    simp only []
    generalize as_[i.toNat] = a; cases a; simp [Ty.at_, encR_mk])
 refine sr fun Z z => ?_
 simp [row_map, encTy_mk, h0b, h1, h2]
 refine z _ ?_
 clear z Z
 refine cF (by simp [h0b, h1, h2]) ?_
 refine AT_skip ?_
 refine hK1 _ ?_
 refine sr fun Z z => ?_
 simp [row_map, encTy_mk, h0b, h1, h2]
 refine RVn_call (c_types_All_m g rnd ts (ns.map encS) (as_.map encTy) (sub ns as_) (by omega) (fun t ht => ih t ht (Nat.le_trans (wts_mem ht) (by omega)))) ?_
 simp [row_map, encTy_mk, h0b, h1, h2]
 refine z _ ?_
 clear z Z
 refine sr fun Z z => ?_
 simp [row_map, encTy_mk, h0b, h1, h2]
 refine z _ ?_
 clear z Z
 refine AT_ret ?_
 simp [row_map, encTy_mk, Tryz.f106]
 (· have hin : as_.length ≤ i.toNat := by omega
    rw [sub, if_pos (by simp [h0]), ← hi, if_pos h1, List.getElem?_eq_none hin]
    simp [encR_mk, h0])
 refine sr fun Z z => ?_
 simp [row_map, encTy_mk, h0b, h1]
 refine z _ ?_
 clear z Z
 refine cF (by simp [h0b, h1]) ?_
 refine AT_skip ?_
 refine hK1 _ ?_
 refine sr fun Z z => ?_
 simp [row_map, encTy_mk, h0b, h1]
 refine RVn_call (c_types_All_m g rnd ts (ns.map encS) (as_.map encTy) (sub ns as_) (by omega) (fun t ht => ih t ht (Nat.le_trans (wts_mem ht) (by omega)))) ?_
 simp [row_map, encTy_mk, h0b, h1]
 refine z _ ?_
 clear z Z
 refine sr fun Z z => ?_
 simp [row_map, encTy_mk, h0b, h1]
 refine z _ ?_
 clear z Z
 refine AT_ret ?_
 simp [row_map, encTy_mk, Tryz.f106]
 (· rw [sub, if_pos (by simp [h0]), ← hi, if_neg h1]; simp [encR_mk, h0])
 have h0b : ((ts.length : Int) == 0) = false := by simpa using h0
 refine sr fun Z z => ?_
 simp [row_map, encTy_mk, h0b]
 refine z _ ?_
 clear z Z
 refine cF (by simp [h0b]) ?_
 refine AT_skip ?_
 refine hK1 _ ?_
 refine sr fun Z z => ?_
 simp [row_map, encTy_mk, h0b]
 refine RVn_call (c_types_All_m g rnd ts (ns.map encS) (as_.map encTy) (sub ns as_) (by omega) (fun t ht => ih t ht (Nat.le_trans (wts_mem ht) (by omega)))) ?_
 simp [row_map, encTy_mk, h0b]
 refine z _ ?_
 clear z Z
 refine sr fun Z z => ?_
 simp [row_map, encTy_mk, h0b]
 refine z _ ?_
 clear z Z
 refine AT_ret ?_
 simp [row_map, encTy_mk, Tryz.f106]
 (· rw [sub, if_neg (by simpa using h0), encR_mk, subs_map]; simp)

end Go.Proofs.YtdifpfehijnmiaaGreatDoor
end

section
/- Contracts. -/
set_option linter.all false
set_option maxHeartbeats 1000000
set_option maxRecDepth 10000
namespace Go.Proofs.YtdifpfehijnmiaaGreatDoor
open Go Go.Pv
variable (g : Nat → Option (List AV)) (rnd : Bool)

theorem c_ref04x_Count : ∀ t : Ty, fit t → ∀ j0 : Nat, j0 ≤ 1000000000000000 → Valid Tryz.prog (G0 g rnd) 120 [.agg (encTy t), .int .i64 j0] (.int .i64 (cnt t j0)) := by
 intro t
 induction t using Ty.ind with
 | h n ts p ih =>
 intro hf j0 hj
 rw [fit] at hf
 obtain ⟨hf1, hf2, hf3⟩ := hf
 refine valid_of [] Tryz.func120 rfl (by kernel_rfl) ?_
 refine sr fun Z z => ?_
 simp [row_map, tdiv50, Tryz.f120]
 refine z _ ?_
 clear z Z
 refine sr fun Z z => ?_
 simp [row_map, tdiv50]
 repeat refine sg ?_
 refine z _ ?_
 clear z Z
 refine AT_seq_k fun K1 hK1 => ?_
 refine sr fun Z z => ?_
 simp [row_map, tdiv50]
 refine z _ ?_
 clear z Z
 refine AT_block ?_
 refine AT_loop_q [2,1,5] [2] (fun j s => ∃ k c, k ≤ ts.length ∧ cnts ts (j0 + 1 + n.length / 50) = cnts (ts.drop k) c ∧ j = ts.length - k ∧ s = { n := 32, tm := [(2, .lp 2 0), (1, .v (.int .i64 (c : Nat)) none), (5, .v (.int .i64 k) none)], bx := [(2, encTy (.mk n ts p))], tb := [], sh := [], hint := [] }) (ts.length) (by first | rfl | simp) ?_ ?_
 exact ⟨0, j0 + 1 + n.length / 50, by simp⟩
 rintro j s ⟨k, c, hk, hc, rfl, rfl⟩ K2 hK2
 refine AT_seq_k fun K3 hK3 => ?_
 by_cases hkt : k < ts.length
 refine sr fun Z z => ?_
 simp [row_map, tdiv50, hkt]
 refine z _ ?_
 clear z Z
 refine AT_cond (g := none) rfl (fun hb21 => ?_) (fun hb21 => ?_)
 simp [row_map, tdiv50, hkt] at hb21
 refine AT_skip ?_
 refine hK3 _ ?_
 refine AT_seq_k fun K4 hK4 => ?_
 refine AT_block ?_
 refine AT_region_q fun Z z => ?_
 simp [row_map, tdiv50, hkt]
 refine RVn_call (ih ts[k] (by simp) (fits_mem hf3 (by simp)) c (by omega)) ?_
 simp [row_map, tdiv50, hkt]
 refine z _ ?_
 clear z Z
 refine hK4 _ ?_
 refine AT_region_q fun Z z => ?_
 simp [row_map, tdiv50, hkt]
 repeat refine sg ?_
 refine z _ ?_
 clear z Z
 refine hK2 _ (by first | rfl | simp) (ts.length - (k+1)) (by omega) ?_
 refine ⟨k+1, cnt ts[k] c, by omega, ?_, by omega, by simp⟩
 rw [hc, List.drop_eq_getElem_cons hkt, cnts_cons, if_pos (by omega)]
 simp [row_map, tdiv50, hkt] at hb21
 refine AT_exit ?_
 refine hK1 _ ?_
 refine sr fun Z z => ?_
 simp [row_map, tdiv50, hkt]
 refine z _ ?_
 clear z Z
 refine AT_ret ?_
 simp [row_map, tdiv50, Tryz.f120]
 (rw [show cnt (.mk n ts p) j0 = cnts ts (j0 + 1 + n.length / 50) by simp [cnt], hc, List.drop_eq_getElem_cons hkt, cnts_cons, if_neg (by omega)])
 refine sr fun Z z => ?_
 simp [row_map, tdiv50, hkt]
 refine z _ ?_
 clear z Z
 refine cF (by simp [hkt]) ?_
 refine AT_exit ?_
 refine hK1 _ ?_
 refine sr fun Z z => ?_
 simp [row_map, tdiv50, hkt]
 refine z _ ?_
 clear z Z
 refine AT_ret ?_
 simp [row_map, tdiv50, Tryz.f120]
 (rw [show cnt (.mk n ts p) j0 = cnts ts (j0 + 1 + n.length / 50) by simp [cnt], hc, List.drop_eq_nil_of_le (by omega)]; rfl)

end Go.Proofs.YtdifpfehijnmiaaGreatDoor
end

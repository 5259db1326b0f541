import Derived.Test.YtocmdbojefgpbaaGreatDoorPt
import Derived.Test.YtocmdbojefgpbaaGreatDoorPvPb
import Derived.Test.YtocmdbojefgpbaaGreatDoorPvY
import Derived.Test.YtocmdbojefgpbaaGreatDoorPvMf
import Derived.Test.YtocmdbojefgpbaaGreatDoorXTyI
import Derived.Test.YtocmdbojefgpbaaGreatDoorXTyL
section
/- Contracts: substituted types are new memory. -/
set_option linter.all false
set_option maxHeartbeats 1000000
set_option maxRecDepth 10000
namespace Go.Proofs.YtocmdbojefgpbaaGreatDoor
open Go Go.Pv
variable (g : Nat → Option (List AV)) (rnd : Bool)

theorem c_types_All_m (l : List Ty) (ns as_ : List (List AV)) (res : Ty → Ty) (hl : l.length ≤ 1099511627776) (hs : ∀ t ∈ l, Valid Tryz.prog (G0 g rnd) 87 [.agg (encTy t), .slice ns, .slice as_] (.agg ((encR 24 0) (res t)))) : Valid Tryz.prog (G0 g rnd) 90 [.slice (l.map encTy), .slice ns, .slice as_] (.fr 0 24 3 ((l.map res).map (encR 24 0))) := by
 have hez : esz Tryz.prog 24 = 3 := by kernel_rfl
 refine valid_of [(7, 24)] Tryz.func90 rfl (by kernel_rfl) ?_
 refine sr fun Z z => ?_
 simp [row_map, Tryz.f90]
 refine z _ ?_
 clear z Z
 refine sr fun Z z => ?_
 simp [row_map]
 refine z _ ?_
 clear z Z
 refine AT_seq_k fun K1 hK1 => ?_
 refine sr fun Z z => ?_
 simp [row_map]
 repeat refine sg ?_
 refine z _ ?_
 clear z Z
 refine AT_block ?_
 refine AT_loop_q [1,2,7,10,11,12] [] (fun j s => ∃ k, k ≤ l.length ∧ j = l.length - k ∧ s = { n := 25, tm := [(1, .v (.slice ns) none), (2, .v (.slice as_) none), (7, .v (.slice (((l.take k).map res).map (encR 24 0))) (some (7, 24))), (10, .v (.slice (l.map encTy)) none), (11, .v (.int .i64 l.length) none), (12, .v (.int .i64 k) none)], bx := [], tb := [], sh := [], hint := [(7, 24)] }) (l.length) (by first | rfl | simp) ?_ ?_
 exact ⟨0, by simp⟩
 rintro j s ⟨k, hk, rfl, rfl⟩ K2 hK2
 refine sr fun Z z => ?_
 simp [row_map]
 repeat refine sg ?_
 refine z _ ?_
 clear z Z
 refine AT_seq_k fun K3 hK3 => ?_
 refine AT_cond (g := none) rfl (fun hb13 => ?_) (fun hb13 => ?_)
 try simp [row_map] at hb13
 refine AT_skip ?_
 try simp only [nrm, reduceIte, Nat.reduceEqDiff]
 refine hK3 _ ?_
 refine AT_seq_k fun K4 hK4 => ?_
 refine AT_block ?_
 refine sr fun Z z => ?_
 simp [row_map, hb13]
 repeat refine sg ?_
 refine z _ ?_
 clear z Z
 refine AT_region_q fun Z z => ?_
 simp [row_map, hb13]
 repeat refine sg ?_
 refine RVn_call (hs l[k] (by simp)) ?_
 simp [row_map, hb13]
 repeat refine sg ?_
 refine z _ ?_
 clear z Z
 try simp only [nrm, reduceIte, Nat.reduceEqDiff]
 refine hK4 _ ?_
 refine AT_region_q fun Z z => ?_
 simp [row_map, hb13]
 repeat refine sg ?_
 refine z _ ?_
 clear z Z
 try simp only [nrm, reduceIte, Nat.reduceEqDiff]
 refine hK2 _ (by first | rfl | simp) (l.length - (k+1)) (by omega) ?_
 have hs2 := take_map_succ ((encR 24 0) ∘ res) l k hb13
 exact ⟨k+1, by omega, by omega, by simp [hs2]⟩
 try simp [row_map] at hb13
 refine AT_exit ?_
 try simp only [nrm, reduceIte, Nat.reduceEqDiff]
 refine hK1 _ ?_
 refine AT_sealT 7 7 24 0 rfl (by rfl) ?_
 simp [AS.purge, hez]
 refine sr fun Z z => ?_
 simp [row_map, hb13]
 refine z _ ?_
 clear z Z
 refine AT_ret ?_
 simp [row_map, Tryz.f90]
 rw [List.take_of_length_le (by simpa using hb13)]

theorem c_types_Subst_nm : ∀ t : Ty, wt t ≤ 1099511627776 → Valid Tryz.prog (G0 g rnd) 87 [.agg (encTy t), .slice [], .slice []] (.agg ((encR 24 0) t)) := by
 intro t
 induction t using Ty.ind with
 | h n ts p ih =>
 intro hw
 have hw2 : n.length + 1 + wts ts ≤ 1099511627776 := by simpa [wt] using hw
 have hln := wts_len ts
 refine valid_of [] Tryz.func87 rfl (by kernel_rfl) ?_
 refine sr fun Z z => ?_
 simp [row_map, encTy_mk, encR_mk, Tryz.f87]
 refine z _ ?_
 clear z Z
 refine AT_seq_k fun K1 hK1 => ?_
 refine sr fun Z z => ?_
 simp [row_map, encTy_mk, encR_mk]
 repeat refine sg ?_
 refine RVn_call ((by simpa [idxF] using c_slices_Index_string_string g rnd [] n (by simp) : Valid Tryz.prog (G0 g rnd) 112 [.slice [], .str n] (.int .i64 (-1)))) ?_
 simp [row_map, encTy_mk, encR_mk]
 repeat refine sg ?_
 refine z _ ?_
 clear z Z
 by_cases h0 : ts = []
 have h0b : ((ts.length : Int) == 0) = true := by simpa using h0
 refine sr fun Z z => ?_
 simp [row_map, encTy_mk, encR_mk, h0b]
 repeat refine sg ?_
 refine z _ ?_
 clear z Z
 refine cF (by simp [h0b]) ?_
 refine AT_skip ?_
 try simp only [nrm, reduceIte, Nat.reduceEqDiff]
 refine hK1 _ ?_
 refine sr fun Z z => ?_
 simp [row_map, encTy_mk, encR_mk, h0b]
 repeat refine sg ?_
 refine RVn_call ((by simpa using c_types_All_m g rnd ts [] [] id (by omega) (fun t ht => ih t ht (Nat.le_trans (wts_mem ht) (by omega))) : Valid Tryz.prog (G0 g rnd) 90 [.slice (ts.map encTy), .slice [], .slice []] (.fr 0 24 3 (ts.map (encR 24 0))))) ?_
 simp [row_map, encTy_mk, encR_mk, h0b]
 repeat refine sg ?_
 refine z _ ?_
 clear z Z
 refine sr fun Z z => ?_
 simp [row_map, encTy_mk, encR_mk, h0b]
 repeat refine sg ?_
 refine z _ ?_
 clear z Z
 refine AT_ret ?_
 simp [row_map, encTy_mk, encR_mk, Tryz.f87]
 have h0b : ((ts.length : Int) == 0) = false := by simpa using h0
 refine sr fun Z z => ?_
 simp [row_map, encTy_mk, encR_mk, h0b]
 repeat refine sg ?_
 refine z _ ?_
 clear z Z
 refine cF (by simp [h0b]) ?_
 refine AT_skip ?_
 try simp only [nrm, reduceIte, Nat.reduceEqDiff]
 refine hK1 _ ?_
 refine sr fun Z z => ?_
 simp [row_map, encTy_mk, encR_mk, h0b]
 repeat refine sg ?_
 refine RVn_call ((by simpa using c_types_All_m g rnd ts [] [] id (by omega) (fun t ht => ih t ht (Nat.le_trans (wts_mem ht) (by omega))) : Valid Tryz.prog (G0 g rnd) 90 [.slice (ts.map encTy), .slice [], .slice []] (.fr 0 24 3 (ts.map (encR 24 0))))) ?_
 simp [row_map, encTy_mk, encR_mk, h0b]
 repeat refine sg ?_
 refine z _ ?_
 clear z Z
 refine sr fun Z z => ?_
 simp [row_map, encTy_mk, encR_mk, h0b]
 repeat refine sg ?_
 refine z _ ?_
 clear z Z
 refine AT_ret ?_
 simp [row_map, encTy_mk, encR_mk, Tryz.f87]

theorem c_types_Clone_m (t : Ty) (hw : wt t ≤ 1099511627776) : Valid Tryz.prog (G0 g rnd) 113 [.agg (encTy t)] (.agg ((encR 24 0) t)) := by

 refine valid_of [] Tryz.func113 rfl (by kernel_rfl) ?_
 refine sr fun Z z => ?_
 simp [Tryz.f113]
 refine z _ ?_
 clear z Z
 refine sr fun Z z => ?_
 simp
 repeat refine sg ?_
 refine RVn_call (c_types_Subst_nm g rnd t hw) ?_
 simp
 repeat refine sg ?_
 refine z _ ?_
 clear z Z
 refine AT_ret ?_
 simp [Tryz.f113]

theorem c_types_Subst_m (ns : List Str) (as_ : List Ty) (hns : ns.length ≤ 1099511627776) (has : ∀ a ∈ as_, wt a ≤ 1099511627776) (hal : as_.length ≤ 1099511627776) : ∀ t : Ty, wt t ≤ 1099511627776 → Valid Tryz.prog (G0 g rnd) 87 [.agg (encTy t), .slice (ns.map encS), .slice (as_.map encTy)] (.agg ((encR 24 0) (sub ns as_ t))) := by
 intro t
 induction t using Ty.ind with
 | h n ts p ih =>
 intro hw
 have hw2 : n.length + 1 + wts ts ≤ 1099511627776 := by simpa [wt] using hw
 have hln := wts_len ts
 have hi : ∃ i : Int, i = idxF ns n 0 := ⟨_, rfl⟩
 obtain ⟨i, hi⟩ := hi
 refine valid_of [] Tryz.func87 rfl (by kernel_rfl) ?_
 refine sr fun Z z => ?_
 simp [row_map, encTy_mk, Tryz.f87]
 refine z _ ?_
 clear z Z
 refine AT_seq_k fun K1 hK1 => ?_
 refine sr fun Z z => ?_
 simp [row_map, encTy_mk]
 repeat refine sg ?_
 refine RVn_call ((hi ▸ c_slices_Index_string_string g rnd ns n (by omega) : Valid Tryz.prog (G0 g rnd) 112 [.slice (ns.map encS), .str n] (.int .i64 i))) ?_
 simp [row_map, encTy_mk]
 repeat refine sg ?_
 refine z _ ?_
 clear z Z
 by_cases h0 : ts = []
 have h0b : ((ts.length : Int) == 0) = true := by simpa using h0
 by_cases h1 : 0 ≤ i
 by_cases h2 : i < as_.length
 refine sr fun Z z => ?_
 simp [row_map, encTy_mk, h0b, h1, h2]
 repeat refine sg ?_
 refine z _ ?_
 clear z Z
 refine cT (by simp [h0b, h1, h2]) ?_
 refine sr fun Z z => ?_
 have hin : i.toNat < as_.length := by omega
 simp [row_map, encTy_mk, hin, h0b, h1, h2]
 repeat refine sg ?_
 refine RVn_call (c_types_Clone_m g rnd as_[i.toNat] (has _ (by simp))) ?_
 simp [row_map, encTy_mk, hin, h0b, h1, h2]
 repeat refine sg ?_
 refine z _ ?_
 clear z Z
 refine sr fun Z z => ?_
 simp [row_map, encTy_mk, h0b, h1, h2]
 repeat refine sg ?_
 refine z _ ?_
 clear z Z
 refine sr fun Z z => ?_
 simp [row_map, encTy_mk, h0b, h1, h2]
 repeat refine sg ?_
 refine z _ ?_
 clear z Z
 refine AT_ret ?_
 simp [row_map, encTy_mk, Tryz.f87]
 first
 | (· rw [sub, if_neg (by simpa using h0), encR_mk, subs_map]; simp)
 | (· have hin : i.toNat < as_.length := by omega
      rw [sub, if_pos (by simp [h0]), ← hi, if_pos h1, List.getElem?_eq_getElem hin]
      simp only []
      generalize as_[i.toNat] = a; cases a; simp [Ty.at_, encR_mk])
 | (· have hin : as_.length ≤ i.toNat := by omega
      rw [sub, if_pos (by simp [h0]), ← hi, if_pos h1, List.getElem?_eq_none hin]
      simp [encR_mk, h0])
 | (· rw [sub, if_pos (by simp [h0]), ← hi, if_neg h1]; simp [encR_mk, h0])
 | skip
 refine sr fun Z z => ?_
 simp [row_map, encTy_mk, h0b, h1, h2]
 repeat refine sg ?_
 refine z _ ?_
 clear z Z
 refine cF (by simp [h0b, h1, h2]) ?_
 refine AT_skip ?_
 try simp only [nrm, reduceIte, Nat.reduceEqDiff]
 refine hK1 _ ?_
 refine sr fun Z z => ?_
 simp [row_map, encTy_mk, h0b, h1, h2]
 repeat refine sg ?_
 refine RVn_call (c_types_All_m g rnd ts (ns.map encS) (as_.map encTy) (sub ns as_) (by omega) (fun t ht => ih t ht (Nat.le_trans (wts_mem ht) (by omega)))) ?_
 simp [row_map, encTy_mk, h0b, h1, h2]
 repeat refine sg ?_
 refine z _ ?_
 clear z Z
 refine sr fun Z z => ?_
 simp [row_map, encTy_mk, h0b, h1, h2]
 repeat refine sg ?_
 refine z _ ?_
 clear z Z
 refine AT_ret ?_
 simp [row_map, encTy_mk, Tryz.f87]
 first
 | (· rw [sub, if_neg (by simpa using h0), encR_mk, subs_map]; simp)
 | (· have hin : i.toNat < as_.length := by omega
      rw [sub, if_pos (by simp [h0]), ← hi, if_pos h1, List.getElem?_eq_getElem hin]
      simp only []
      generalize as_[i.toNat] = a; cases a; simp [Ty.at_, encR_mk])
 | (· have hin : as_.length ≤ i.toNat := by omega
      rw [sub, if_pos (by simp [h0]), ← hi, if_pos h1, List.getElem?_eq_none hin]
      simp [encR_mk, h0])
 | (· rw [sub, if_pos (by simp [h0]), ← hi, if_neg h1]; simp [encR_mk, h0])
 | skip
 refine sr fun Z z => ?_
 simp [row_map, encTy_mk, h0b, h1]
 repeat refine sg ?_
 refine z _ ?_
 clear z Z
 refine cF (by simp [h0b, h1]) ?_
 refine AT_skip ?_
 try simp only [nrm, reduceIte, Nat.reduceEqDiff]
 refine hK1 _ ?_
 refine sr fun Z z => ?_
 simp [row_map, encTy_mk, h0b, h1]
 repeat refine sg ?_
 refine RVn_call (c_types_All_m g rnd ts (ns.map encS) (as_.map encTy) (sub ns as_) (by omega) (fun t ht => ih t ht (Nat.le_trans (wts_mem ht) (by omega)))) ?_
 simp [row_map, encTy_mk, h0b, h1]
 repeat refine sg ?_
 refine z _ ?_
 clear z Z
 refine sr fun Z z => ?_
 simp [row_map, encTy_mk, h0b, h1]
 repeat refine sg ?_
 refine z _ ?_
 clear z Z
 refine AT_ret ?_
 simp [row_map, encTy_mk, Tryz.f87]
 first
 | (· rw [sub, if_neg (by simpa using h0), encR_mk, subs_map]; simp)
 | (· have hin : i.toNat < as_.length := by omega
      rw [sub, if_pos (by simp [h0]), ← hi, if_pos h1, List.getElem?_eq_getElem hin]
      simp only []
      generalize as_[i.toNat] = a; cases a; simp [Ty.at_, encR_mk])
 | (· have hin : as_.length ≤ i.toNat := by omega
      rw [sub, if_pos (by simp [h0]), ← hi, if_pos h1, List.getElem?_eq_none hin]
      simp [encR_mk, h0])
 | (· rw [sub, if_pos (by simp [h0]), ← hi, if_neg h1]; simp [encR_mk, h0])
 | skip
 have h0b : ((ts.length : Int) == 0) = false := by simpa using h0
 refine sr fun Z z => ?_
 simp [row_map, encTy_mk, h0b]
 repeat refine sg ?_
 refine z _ ?_
 clear z Z
 refine cF (by simp [h0b]) ?_
 refine AT_skip ?_
 try simp only [nrm, reduceIte, Nat.reduceEqDiff]
 refine hK1 _ ?_
 refine sr fun Z z => ?_
 simp [row_map, encTy_mk, h0b]
 repeat refine sg ?_
 refine RVn_call (c_types_All_m g rnd ts (ns.map encS) (as_.map encTy) (sub ns as_) (by omega) (fun t ht => ih t ht (Nat.le_trans (wts_mem ht) (by omega)))) ?_
 simp [row_map, encTy_mk, h0b]
 repeat refine sg ?_
 refine z _ ?_
 clear z Z
 refine sr fun Z z => ?_
 simp [row_map, encTy_mk, h0b]
 repeat refine sg ?_
 refine z _ ?_
 clear z Z
 refine AT_ret ?_
 simp [row_map, encTy_mk, Tryz.f87]
 first
 | (· rw [sub, if_neg (by simpa using h0), encR_mk, subs_map]; simp)
 | (· have hin : i.toNat < as_.length := by omega
      rw [sub, if_pos (by simp [h0]), ← hi, if_pos h1, List.getElem?_eq_getElem hin]
      simp only []
      generalize as_[i.toNat] = a; cases a; simp [Ty.at_, encR_mk])
 | (· have hin : as_.length ≤ i.toNat := by omega
      rw [sub, if_pos (by simp [h0]), ← hi, if_pos h1, List.getElem?_eq_none hin]
      simp [encR_mk, h0])
 | (· rw [sub, if_pos (by simp [h0]), ← hi, if_neg h1]; simp [encR_mk, h0])
 | skip

theorem c_ref04x_Subst_nm : ∀ t : Ty, wt t ≤ 1099511627776 → Valid Tryz.prog (G0 g rnd) 84 [.agg (encTy t), .slice [], .slice []] (.agg ((encR 24 0) t)) := by
 have hez : esz Tryz.prog 24 = 3 := by kernel_rfl
 intro t
 induction t using Ty.ind with
 | h n ts p ih =>
 intro hw
 have hw2 : n.length + 1 + wts ts ≤ 1099511627776 := by simpa [wt] using hw
 have hln := wts_len ts
 refine valid_of [(109001, 24)] Tryz.func84 rfl (by kernel_rfl) ?_
 refine sr fun Z z => ?_
 simp [row_map, encTy_mk, Tryz.f84]
 refine z _ ?_
 clear z Z
 refine AT_seq_k fun K1 hK1 => ?_
 refine sr fun Z z => ?_
 simp [row_map, encTy_mk]
 refine z _ ?_
 clear z Z
 refine AT_block ?_
 refine AT_loop_q [1,2,3,6,7] [3,6] (fun j s => ∃ k, k = 0 ∧ j = k ∧ s = { n := 70, tm := [(1, .v (.slice []) none), (2, .v (.slice []) none), (3, .lp 3 0), (6, .lp 6 0), (7, .v (.int .i64 0) none)], bx := [(3, encTy (.mk n ts p)), (6, [.str [], .slice [], .int .i64 0])], tb := [], sh := [], hint := [(109001, 24)] }) (0) (by first | rfl | simp) ?_ ?_
 exact ⟨0, by simp [encTy_mk]⟩
 rintro j s ⟨k, rfl, rfl, rfl⟩ K2 hK2
 refine AT_seq_k fun K3 hK3 => ?_
 refine sr fun Z z => ?_
 simp [row_map, encTy_mk]
 repeat refine sg ?_
 refine z _ ?_
 clear z Z
 refine cF (by simp) ?_
 refine AT_exit ?_
 try simp only [nrm, reduceIte, Nat.reduceEqDiff]
 refine hK1 _ ?_
 refine sr fun Z z => ?_
 simp [row_map, encTy_mk]
 repeat refine sg ?_
 refine z _ ?_
 clear z Z
 refine AT_seq_k fun K4 hK4 => ?_
 refine sr fun Z z => ?_
 simp [row_map, encTy_mk]
 refine z _ ?_
 clear z Z
 refine AT_block ?_
 refine AT_loop_q [1,2,3,6,9,10] [3,6,9] (fun j s => ∃ k, k ≤ ts.length ∧ j = ts.length - k ∧ s = { n := 70, tm := [(1, .v (.slice []) none), (2, .v (.slice []) none), (3, .lp 3 0), (6, .lp 6 0), (9, .lp 9 0), (10, .v (.int .i64 k) none)], bx := [(3, encTy (.mk n ts p)), (6, [.str [], .slice [], .int .i64 0]), (9, [.str n, .slice (((ts.take k).map id).map (encR 24 0)), .int .i64 p])], tb := [(9, 1, 109001, 24)], sh := [], hint := [(109001, 24)] }) (ts.length) (by first | rfl | simp) ?_ ?_
 exact ⟨0, by simp [encTy_mk]⟩
 rintro j s ⟨k, hk, rfl, rfl⟩ K5 hK5
 refine AT_seq_k fun K6 hK6 => ?_
 refine sr fun Z z => ?_
 simp [row_map, encTy_mk]
 repeat refine sg ?_
 refine z _ ?_
 clear z Z
 refine AT_cond (g := none) rfl (fun hb53 => ?_) (fun hb53 => ?_)
 try simp [row_map, encTy_mk] at hb53
 refine AT_skip ?_
 try simp only [nrm, reduceIte, Nat.reduceEqDiff]
 refine hK6 _ ?_
 refine AT_seq_k fun K7 hK7 => ?_
 refine AT_block ?_
 refine AT_draw_q Pt.mixed (by kernel_rfl) fun Z z => ?_
 simp [row_map, encTy_mk, hb53]
 repeat refine sg ?_
 refine RVdn_call (ih ts[k] (by simp) (by have := wts_mem (l := ts) (t := ts[k]) (by simp); omega)) ?_
 simp [row_map, encTy_mk, hb53]
 repeat refine sg ?_
 refine z _ ?_
 clear z Z
 try simp only [nrm, reduceIte, Nat.reduceEqDiff]
 refine hK7 _ ?_
 refine AT_region_q fun Z z => ?_
 simp [row_map, encTy_mk, hb53]
 repeat refine sg ?_
 refine z _ ?_
 clear z Z
 try simp only [nrm, reduceIte, Nat.reduceEqDiff]
 refine hK5 _ (by first | rfl | simp) (ts.length - (k+1)) (by omega) ?_
 have hs2 := take_map_succ ((encR 24 0) ∘ id) ts k hb53
 try simp at hs2
 exact ⟨k+1, by omega, by omega, by simp [hs2, encTy_mk]⟩
 try simp [row_map, encTy_mk] at hb53
 refine AT_exit ?_
 try simp only [nrm, reduceIte, Nat.reduceEqDiff]
 refine hK4 _ ?_
 refine AT_sealB 9 1 109001 24 0 rfl (by rfl) (by rfl) (by simp) ?_
 simp [AS.purge, hez]
 refine sr fun Z z => ?_
 simp [row_map, encTy_mk, hb53]
 repeat refine sg ?_
 refine z _ ?_
 clear z Z
 refine AT_ret ?_
 simp [row_map, encTy_mk, Tryz.f84]
 first | (· rw [List.take_of_length_le (by simpa using hb53), encR_mk]) | (· rw [List.take_of_length_le (by simpa using hb53), encR_mk]; simp)

theorem c_ref04x_Subst_m (ns : List Str) (as_ : List Ty) (hns : ns.length ≤ 1099511627776) (has : ∀ a ∈ as_, wt a ≤ 1099511627776) (hal : as_.length ≤ 1099511627776) (hnl : ns.length ≤ as_.length) : ∀ t : Ty, wt t ≤ 1099511627776 → Valid Tryz.prog (G0 g rnd) 84 [.agg (encTy t), .slice (ns.map encS), .slice (as_.map encTy)] (.agg ((encR 24 0) (sub ns as_ t))) := by
 have hez : esz Tryz.prog 24 = 3 := by kernel_rfl
 intro t
 induction t using Ty.ind with
 | h n ts p ih =>
 intro hw
 have hw2 : n.length + 1 + wts ts ≤ 1099511627776 := by simpa [wt] using hw
 have hln := wts_len ts
 refine valid_of [(109001, 24)] Tryz.func84 rfl (by kernel_rfl) ?_
 refine sr fun Z z => ?_
 simp [row_map, encTy_mk, Tryz.f84]
 refine z _ ?_
 clear z Z
 refine AT_seq_k fun K1 hK1 => ?_
 refine sr fun Z z => ?_
 simp [row_map, encTy_mk]
 refine z _ ?_
 clear z Z
 refine AT_block ?_
 refine AT_loop_q [1,2,3,6,7] [3,6] (fun j s => ∃ k, k ≤ ns.length ∧ (ts = [] → idxF ns n 0 = idxF (ns.drop k) n k) ∧ j = ns.length - k ∧ s = { n := 70, tm := [(1, .v (.slice (ns.map encS)) none), (2, .v (.slice (as_.map encTy)) none), (3, .lp 3 0), (6, .lp 6 0), (7, .v (.int .i64 k) none)], bx := [(3, encTy (.mk n ts p)), (6, [.str [], .slice [], .int .i64 0])], tb := [], sh := [], hint := [(109001, 24)] }) (ns.length) (by first | rfl | simp) ?_ ?_
 exact ⟨0, by simp [encTy_mk]⟩
 rintro j s ⟨k, hk, hc, rfl, rfl⟩ K2 hK2
 refine AT_seq_k fun K3 hK3 => ?_
 by_cases hkn : k < ns.length
 by_cases h0 : ts = []
 have h0b : ((ts.length : Int) == 0) = true := by simpa using h0
 refine sr fun Z z => ?_
 simp [row_map, encTy_mk, hkn, h0b]
 repeat refine sg ?_
 refine z _ ?_
 clear z Z
 refine cT (by simp [hkn, h0b]) ?_
 refine AT_skip ?_
 try simp only [nrm, reduceIte, Nat.reduceEqDiff]
 refine hK3 _ ?_
 refine AT_seq_k fun K4 hK4 => ?_
 refine AT_block ?_
 refine AT_seq_draw Pt.mixed (by kernel_rfl) fun Z z => ?_
 simp [row_map, encTy_mk, hkn, h0b]
 repeat refine sg ?_
 refine z _ ?_
 clear z Z
 refine AT_cond (g := none) rfl (fun hb29 => ?_) (fun hb29 => ?_)
 try simp [row_map, encTy_mk, hkn, h0b] at hb29
 refine AT_seq_k fun K5 hK5 => ?_
 refine sr fun Z z => ?_
 simp [row_map, encTy_mk, hkn, h0b]
 repeat refine sg ?_
 refine z _ ?_
 clear z Z
 refine AT_cond (g := none) rfl (fun hb33 => ?_) (fun hb33 => ?_)
 try simp [row_map, encTy_mk, hkn, h0b] at hb33
 refine sr fun Z z => ?_
 simp [row_map, encTy_mk, hkn, h0b]
 repeat refine sg ?_
 refine z _ ?_
 clear z Z
 refine AT_ret ?_
 simp [row_map, encTy_mk, Tryz.f84]
 first
 | (exfalso; omega)
 | (· rw [sub, if_neg (by simpa using h0), encR_mk, subs_map, List.take_of_length_le (by simpa using hb53)]; simp)
 | (· have hi : idxF ns n 0 = (k:Int) := by rw [hc h0, List.drop_eq_getElem_cons hkn, idxF, if_pos hb29.symm]
      rw [sub, if_pos (by simp [h0]), hi, if_pos (by omega)]
      simp only [Int.toNat_natCast]
      rw [List.getElem?_eq_getElem hka]; simp only []; generalize as_[k] = a; cases a; simp [Ty.at_, encR_mk])
 | (by_cases h0 : ts = []
    · have hi : idxF ns n 0 = -1 := by rw [hc h0, List.drop_eq_nil_of_le (by omega)]; rfl
      rw [sub, if_pos (by simp [h0]), hi, if_neg (by omega)]; simp [encR_mk, h0]
    · rw [sub, if_neg (by simpa using h0), encR_mk, subs_map, List.take_of_length_le (by simpa using hb53)]; simp)
 try simp [row_map, encTy_mk, hkn, h0b] at hb33
 refine AT_skip ?_
 try simp only [nrm, reduceIte, Nat.reduceEqDiff]
 refine hK5 _ ?_
 refine sr fun Z z => ?_
 have hka : k < as_.length := by omega
 simp [row_map, encTy_mk, hka, hkn, h0b]
 repeat refine sg ?_
 refine RVn_call (c_ref04x_Subst_nm g rnd as_[k] (has _ (by simp))) ?_
 simp [row_map, encTy_mk, hka, hkn, h0b]
 repeat refine sg ?_
 refine z _ ?_
 clear z Z
 refine sr fun Z z => ?_
 simp [row_map, encTy_mk, hkn, h0b]
 repeat refine sg ?_
 refine z _ ?_
 clear z Z
 refine sr fun Z z => ?_
 simp [row_map, encTy_mk, hkn, h0b]
 repeat refine sg ?_
 refine z _ ?_
 clear z Z
 refine AT_ret ?_
 simp [row_map, encTy_mk, Tryz.f84]
 first
 | (exfalso; omega)
 | (· rw [sub, if_neg (by simpa using h0), encR_mk, subs_map, List.take_of_length_le (by simpa using hb53)]; simp)
 | (· have hi : idxF ns n 0 = (k:Int) := by rw [hc h0, List.drop_eq_getElem_cons hkn, idxF, if_pos hb29.symm]
      rw [sub, if_pos (by simp [h0]), hi, if_pos (by omega)]
      simp only [Int.toNat_natCast]
      rw [List.getElem?_eq_getElem hka]; simp only []; generalize as_[k] = a; cases a; simp [Ty.at_, encR_mk])
 | (by_cases h0 : ts = []
    · have hi : idxF ns n 0 = -1 := by rw [hc h0, List.drop_eq_nil_of_le (by omega)]; rfl
      rw [sub, if_pos (by simp [h0]), hi, if_neg (by omega)]; simp [encR_mk, h0]
    · rw [sub, if_neg (by simpa using h0), encR_mk, subs_map, List.take_of_length_le (by simpa using hb53)]; simp)
 try simp [row_map, encTy_mk, hkn, h0b] at hb29
 refine AT_skip ?_
 try simp only [nrm, reduceIte, Nat.reduceEqDiff]
 refine hK4 _ ?_
 refine AT_region_q fun Z z => ?_
 simp [row_map, encTy_mk, hkn, h0b]
 repeat refine sg ?_
 refine z _ ?_
 clear z Z
 try simp only [nrm, reduceIte, Nat.reduceEqDiff]
 refine hK2 _ (by first | rfl | simp) (ns.length - (k+1)) (by omega) ?_
 refine ⟨k+1, by omega, ?_, by omega, by simp [encTy_mk]⟩
 intro h
 rw [hc h, List.drop_eq_getElem_cons hkn, idxF, if_neg (fun e => hb29 e.symm)]
 have h0b : ((ts.length : Int) == 0) = false := by simpa using h0
 refine sr fun Z z => ?_
 simp [row_map, encTy_mk, hkn, h0b]
 repeat refine sg ?_
 refine z _ ?_
 clear z Z
 refine cF (by simp [hkn, h0b]) ?_
 refine AT_exit ?_
 try simp only [nrm, reduceIte, Nat.reduceEqDiff]
 refine hK1 _ ?_
 refine sr fun Z z => ?_
 simp [row_map, encTy_mk, hkn, h0b]
 repeat refine sg ?_
 refine z _ ?_
 clear z Z
 refine AT_seq_k fun K6 hK6 => ?_
 refine sr fun Z z => ?_
 simp [row_map, encTy_mk, hkn, h0b]
 refine z _ ?_
 clear z Z
 refine AT_block ?_
 refine AT_loop_q [1,2,3,6,9,10] [3,6,9] (fun j s => ∃ k, k ≤ ts.length ∧ j = ts.length - k ∧ s = { n := 70, tm := [(1, .v (.slice (ns.map encS)) none), (2, .v (.slice (as_.map encTy)) none), (3, .lp 3 0), (6, .lp 6 0), (9, .lp 9 0), (10, .v (.int .i64 k) none)], bx := [(3, encTy (.mk n ts p)), (6, [.str [], .slice [], .int .i64 0]), (9, [.str n, .slice (((ts.take k).map (sub ns as_)).map (encR 24 0)), .int .i64 p])], tb := [(9, 1, 109001, 24)], sh := [], hint := [(109001, 24)] }) (ts.length) (by first | rfl | simp) ?_ ?_
 exact ⟨0, by simp [encTy_mk]⟩
 rintro j s ⟨k, hk, rfl, rfl⟩ K7 hK7
 refine AT_seq_k fun K8 hK8 => ?_
 refine sr fun Z z => ?_
 simp [row_map, encTy_mk, hkn, h0b]
 repeat refine sg ?_
 refine z _ ?_
 clear z Z
 refine AT_cond (g := none) rfl (fun hb53 => ?_) (fun hb53 => ?_)
 try simp [row_map, encTy_mk, hkn, h0b] at hb53
 refine AT_skip ?_
 try simp only [nrm, reduceIte, Nat.reduceEqDiff]
 refine hK8 _ ?_
 refine AT_seq_k fun K9 hK9 => ?_
 refine AT_block ?_
 refine AT_draw_q Pt.mixed (by kernel_rfl) fun Z z => ?_
 simp [row_map, encTy_mk, hkn, h0b, hb53]
 repeat refine sg ?_
 refine RVdn_call (ih ts[k] (by simp) (by have := wts_mem (l := ts) (t := ts[k]) (by simp); omega)) ?_
 simp [row_map, encTy_mk, hkn, h0b, hb53]
 repeat refine sg ?_
 refine z _ ?_
 clear z Z
 try simp only [nrm, reduceIte, Nat.reduceEqDiff]
 refine hK9 _ ?_
 refine AT_region_q fun Z z => ?_
 simp [row_map, encTy_mk, hkn, h0b, hb53]
 repeat refine sg ?_
 refine z _ ?_
 clear z Z
 try simp only [nrm, reduceIte, Nat.reduceEqDiff]
 refine hK7 _ (by first | rfl | simp) (ts.length - (k+1)) (by omega) ?_
 have hs2 := take_map_succ ((encR 24 0) ∘ (sub ns as_)) ts k hb53
 try simp at hs2
 exact ⟨k+1, by omega, by omega, by simp [hs2, encTy_mk]⟩
 try simp [row_map, encTy_mk, hkn, h0b] at hb53
 refine AT_exit ?_
 try simp only [nrm, reduceIte, Nat.reduceEqDiff]
 refine hK6 _ ?_
 refine AT_sealB 9 1 109001 24 0 rfl (by rfl) (by rfl) (by simp) ?_
 simp [AS.purge, hez]
 refine sr fun Z z => ?_
 simp [row_map, encTy_mk, hkn, h0b, hb53]
 repeat refine sg ?_
 refine z _ ?_
 clear z Z
 refine AT_ret ?_
 simp [row_map, encTy_mk, Tryz.f84]
 first
 | (exfalso; omega)
 | (· rw [sub, if_neg (by simpa using h0), encR_mk, subs_map, List.take_of_length_le (by simpa using hb53)]; simp)
 | (· have hi : idxF ns n 0 = (k:Int) := by rw [hc h0, List.drop_eq_getElem_cons hkn, idxF, if_pos hb29.symm]
      rw [sub, if_pos (by simp [h0]), hi, if_pos (by omega)]
      simp only [Int.toNat_natCast]
      rw [List.getElem?_eq_getElem hka]; simp only []; generalize as_[k] = a; cases a; simp [Ty.at_, encR_mk])
 | (by_cases h0 : ts = []
    · have hi : idxF ns n 0 = -1 := by rw [hc h0, List.drop_eq_nil_of_le (by omega)]; rfl
      rw [sub, if_pos (by simp [h0]), hi, if_neg (by omega)]; simp [encR_mk, h0]
    · rw [sub, if_neg (by simpa using h0), encR_mk, subs_map, List.take_of_length_le (by simpa using hb53)]; simp)
 refine sr fun Z z => ?_
 simp [row_map, encTy_mk, hkn]
 repeat refine sg ?_
 refine z _ ?_
 clear z Z
 refine cF (by simp [hkn]) ?_
 refine AT_exit ?_
 try simp only [nrm, reduceIte, Nat.reduceEqDiff]
 refine hK1 _ ?_
 refine sr fun Z z => ?_
 simp [row_map, encTy_mk, hkn]
 repeat refine sg ?_
 refine z _ ?_
 clear z Z
 refine AT_seq_k fun K10 hK10 => ?_
 refine sr fun Z z => ?_
 simp [row_map, encTy_mk, hkn]
 refine z _ ?_
 clear z Z
 refine AT_block ?_
 refine AT_loop_q [1,2,3,6,9,10] [3,6,9] (fun j s => ∃ k, k ≤ ts.length ∧ j = ts.length - k ∧ s = { n := 70, tm := [(1, .v (.slice (ns.map encS)) none), (2, .v (.slice (as_.map encTy)) none), (3, .lp 3 0), (6, .lp 6 0), (9, .lp 9 0), (10, .v (.int .i64 k) none)], bx := [(3, encTy (.mk n ts p)), (6, [.str [], .slice [], .int .i64 0]), (9, [.str n, .slice (((ts.take k).map (sub ns as_)).map (encR 24 0)), .int .i64 p])], tb := [(9, 1, 109001, 24)], sh := [], hint := [(109001, 24)] }) (ts.length) (by first | rfl | simp) ?_ ?_
 exact ⟨0, by simp [encTy_mk]⟩
 rintro j s ⟨k, hk, rfl, rfl⟩ K11 hK11
 refine AT_seq_k fun K12 hK12 => ?_
 refine sr fun Z z => ?_
 simp [row_map, encTy_mk, hkn]
 repeat refine sg ?_
 refine z _ ?_
 clear z Z
 refine AT_cond (g := none) rfl (fun hb53 => ?_) (fun hb53 => ?_)
 try simp [row_map, encTy_mk, hkn] at hb53
 refine AT_skip ?_
 try simp only [nrm, reduceIte, Nat.reduceEqDiff]
 refine hK12 _ ?_
 refine AT_seq_k fun K13 hK13 => ?_
 refine AT_block ?_
 refine AT_draw_q Pt.mixed (by kernel_rfl) fun Z z => ?_
 simp [row_map, encTy_mk, hkn, hb53]
 repeat refine sg ?_
 refine RVdn_call (ih ts[k] (by simp) (by have := wts_mem (l := ts) (t := ts[k]) (by simp); omega)) ?_
 simp [row_map, encTy_mk, hkn, hb53]
 repeat refine sg ?_
 refine z _ ?_
 clear z Z
 try simp only [nrm, reduceIte, Nat.reduceEqDiff]
 refine hK13 _ ?_
 refine AT_region_q fun Z z => ?_
 simp [row_map, encTy_mk, hkn, hb53]
 repeat refine sg ?_
 refine z _ ?_
 clear z Z
 try simp only [nrm, reduceIte, Nat.reduceEqDiff]
 refine hK11 _ (by first | rfl | simp) (ts.length - (k+1)) (by omega) ?_
 have hs2 := take_map_succ ((encR 24 0) ∘ (sub ns as_)) ts k hb53
 try simp at hs2
 exact ⟨k+1, by omega, by omega, by simp [hs2, encTy_mk]⟩
 try simp [row_map, encTy_mk, hkn] at hb53
 refine AT_exit ?_
 try simp only [nrm, reduceIte, Nat.reduceEqDiff]
 refine hK10 _ ?_
 refine AT_sealB 9 1 109001 24 0 rfl (by rfl) (by rfl) (by simp) ?_
 simp [AS.purge, hez]
 refine sr fun Z z => ?_
 simp [row_map, encTy_mk, hkn, hb53]
 repeat refine sg ?_
 refine z _ ?_
 clear z Z
 refine AT_ret ?_
 simp [row_map, encTy_mk, Tryz.f84]
 first
 | (exfalso; omega)
 | (· rw [sub, if_neg (by simpa using h0), encR_mk, subs_map, List.take_of_length_le (by simpa using hb53)]; simp)
 | (· have hi : idxF ns n 0 = (k:Int) := by rw [hc h0, List.drop_eq_getElem_cons hkn, idxF, if_pos hb29.symm]
      rw [sub, if_pos (by simp [h0]), hi, if_pos (by omega)]
      simp only [Int.toNat_natCast]
      rw [List.getElem?_eq_getElem hka]; simp only []; generalize as_[k] = a; cases a; simp [Ty.at_, encR_mk])
 | (by_cases h0 : ts = []
    · have hi : idxF ns n 0 = -1 := by rw [hc h0, List.drop_eq_nil_of_le (by omega)]; rfl
      rw [sub, if_pos (by simp [h0]), hi, if_neg (by omega)]; simp [encR_mk, h0]
    · rw [sub, if_neg (by simpa using h0), encR_mk, subs_map, List.take_of_length_le (by simpa using hb53)]; simp)

end Go.Proofs.YtocmdbojefgpbaaGreatDoor
end

section
/- Contracts. -/
set_option linter.all false
set_option maxHeartbeats 1000000
set_option maxRecDepth 10000
namespace Go.Proofs.YtocmdbojefgpbaaGreatDoor
open Go Go.Pv
variable (g : Nat → Option (List AV)) (rnd : Bool)

theorem c_ref04x_Count : ∀ t : Ty, fit t → ∀ j0 : Nat, j0 ≤ 1000000000000000 → Valid Tryz.prog (G0 g rnd) 29 [.agg (encTy t), .int .i64 j0] (.int .i64 (cnt t j0)) := by
 intro t
 induction t using Ty.ind with
 | h n ts p ih =>
 intro hf j0 hj
 rw [fit] at hf
 obtain ⟨hf1, hf2, hf3⟩ := hf
 refine valid_of [] Tryz.func29 rfl (by kernel_rfl) ?_
 refine sr fun Z z => ?_
 simp [row_map, tdiv50, Tryz.f29]
 refine z _ ?_
 clear z Z
 refine sr fun Z z => ?_
 simp [row_map, tdiv50]
 repeat refine sg ?_
 refine z _ ?_
 clear z Z
 refine AT_seq_k fun K1 hK1 => ?_
 refine sr fun Z z => ?_
 simp [row_map, tdiv50]
 refine z _ ?_
 clear z Z
 refine AT_block ?_
 refine AT_loop_q [2,1,5] [2] (fun j s => ∃ k c, k ≤ ts.length ∧ cnts ts (j0 + 1 + n.length / 50) = cnts (ts.drop k) c ∧ j = ts.length - k ∧ s = { n := 32, tm := [(2, .lp 2 0), (1, .v (.int .i64 (c : Nat)) none), (5, .v (.int .i64 k) none)], bx := [(2, encTy (.mk n ts p))], tb := [], sh := [], hint := [] }) (ts.length) (by first | rfl | simp) ?_ ?_
 exact ⟨0, j0 + 1 + n.length / 50, by simp⟩
 rintro j s ⟨k, c, hk, hc, rfl, rfl⟩ K2 hK2
 refine AT_seq_k fun K3 hK3 => ?_
 by_cases hkt : k < ts.length
 refine sr fun Z z => ?_
 simp [row_map, tdiv50, hkt]
 repeat refine sg ?_
 refine z _ ?_
 clear z Z
 refine AT_cond (g := none) rfl (fun hb21 => ?_) (fun hb21 => ?_)
 try simp [row_map, tdiv50, hkt] at hb21
 refine AT_skip ?_
 try simp only [nrm, reduceIte, Nat.reduceEqDiff]
 refine hK3 _ ?_
 refine AT_seq_k fun K4 hK4 => ?_
 refine AT_block ?_
 refine AT_region_q fun Z z => ?_
 simp [row_map, tdiv50, hkt]
 repeat refine sg ?_
 refine RVn_call (ih ts[k] (by simp) (fits_mem hf3 (by simp)) c (by omega)) ?_
 simp [row_map, tdiv50, hkt]
 repeat refine sg ?_
 refine z _ ?_
 clear z Z
 try simp only [nrm, reduceIte, Nat.reduceEqDiff]
 refine hK4 _ ?_
 refine AT_region_q fun Z z => ?_
 simp [row_map, tdiv50, hkt]
 repeat refine sg ?_
 refine z _ ?_
 clear z Z
 try simp only [nrm, reduceIte, Nat.reduceEqDiff]
 refine hK2 _ (by first | rfl | simp) (ts.length - (k+1)) (by omega) ?_
 refine ⟨k+1, cnt ts[k] c, by omega, ?_, by omega, by simp⟩
 rw [hc, List.drop_eq_getElem_cons hkt, cnts_cons, if_pos (by omega)]
 try simp [row_map, tdiv50, hkt] at hb21
 refine AT_exit ?_
 try simp only [nrm, reduceIte, Nat.reduceEqDiff]
 refine hK1 _ ?_
 refine sr fun Z z => ?_
 simp [row_map, tdiv50, hkt]
 refine z _ ?_
 clear z Z
 refine AT_ret ?_
 simp [row_map, tdiv50, Tryz.f29]
 first
 | (rw [show cnt (.mk n ts p) j0 = cnts ts (j0 + 1 + n.length / 50) by simp [cnt], hc, List.drop_eq_getElem_cons hkt, cnts_cons, if_neg (by omega)])
 | (rw [show cnt (.mk n ts p) j0 = cnts ts (j0 + 1 + n.length / 50) by simp [cnt], hc, List.drop_eq_nil_of_le (by omega)]; rfl)
 refine sr fun Z z => ?_
 simp [row_map, tdiv50, hkt]
 repeat refine sg ?_
 refine z _ ?_
 clear z Z
 refine cF (by simp [hkt]) ?_
 refine AT_exit ?_
 try simp only [nrm, reduceIte, Nat.reduceEqDiff]
 refine hK1 _ ?_
 refine sr fun Z z => ?_
 simp [row_map, tdiv50, hkt]
 refine z _ ?_
 clear z Z
 refine AT_ret ?_
 simp [row_map, tdiv50, Tryz.f29]
 first
 | (rw [show cnt (.mk n ts p) j0 = cnts ts (j0 + 1 + n.length / 50) by simp [cnt], hc, List.drop_eq_getElem_cons hkt, cnts_cons, if_neg (by omega)])
 | (rw [show cnt (.mk n ts p) j0 = cnts ts (j0 + 1 + n.length / 50) by simp [cnt], hc, List.drop_eq_nil_of_le (by omega)]; rfl)

theorem c_ref04x_Few (t : Ty) (hf : fit t) : Valid Tryz.prog (G0 g rnd) 8 [.agg (encTy t)] (.bool (decide (cnt t 0 ≤ 200))) := by

 refine valid_of [] Tryz.func8 rfl (by kernel_rfl) ?_
 refine sr fun Z z => ?_
 simp [Tryz.f8]
 refine z _ ?_
 clear z Z
 refine sr fun Z z => ?_
 simp
 repeat refine sg ?_
 refine RVn_call (c_ref04x_Count g rnd t hf 0 (by omega)) ?_
 simp
 repeat refine sg ?_
 refine z _ ?_
 clear z Z
 refine AT_ret ?_
 simp [Tryz.f8]
 omega

end Go.Proofs.YtocmdbojefgpbaaGreatDoor
end

section
/- Contracts. -/
set_option linter.all false
set_option maxHeartbeats 1000000
set_option maxRecDepth 10000
namespace Go.Proofs.YtocmdbojefgpbaaGreatDoor
open Go Go.Pv
variable (g : Nat → Option (List AV)) (rnd : Bool)

theorem c_ref01x_Compare (a b : Str) (ha : a.length ≤ 1099511627776) : Valid Tryz.prog (G0 g rnd) 60 [.str a, .str b] (.int .i64 (cmpS a b)) := by

 refine valid_of [] Tryz.func60 rfl (by kernel_rfl) ?_
 refine sr fun Z z => ?_
 simp [Tryz.f60]
 refine z _ ?_
 clear z Z
 refine AT_seq_k fun K1 hK1 => ?_
 refine sr fun Z z => ?_
 simp
 refine z _ ?_
 clear z Z
 refine AT_block ?_
 refine AT_loop_q [0,1,5] [] (fun j s => ∃ k, (k ≤ a.length ∧ k ≤ b.length) ∧ cmpS a b = cmpS (a.drop k) (b.drop k) ∧ j = a.length - k ∧ s = { n := 42, tm := [(0, .v (.str a) none), (1, .v (.str b) none), (5, .v (.int .i64 k) none)], bx := [], tb := [], sh := [], hint := [] }) (a.length) (by first | rfl | simp) ?_ ?_
 exact ⟨0, by simp⟩
 rintro j s ⟨k, ⟨hk1, hk2⟩, hc, rfl, rfl⟩ K2 hK2
 refine AT_seq_k fun K3 hK3 => ?_
 by_cases hka : k < a.length
 refine sr fun Z z => ?_
 simp [hka]
 repeat refine sg ?_
 refine z _ ?_
 clear z Z
 refine AT_cond (g := none) rfl (fun hb15 => ?_) (fun hb15 => ?_)
 try simp [hka] at hb15
 refine AT_skip ?_
 try simp only [nrm, reduceIte, Nat.reduceEqDiff]
 refine hK3 _ ?_
 refine AT_seq_k fun K4 hK4 => ?_
 refine AT_block ?_
 refine AT_seq_k fun K5 hK5 => ?_
 refine AT_seq_draw Pt.mixed (by kernel_rfl) fun Z z => ?_
 have hda := List.drop_eq_getElem_cons hka
 have hdb := List.drop_eq_getElem_cons hb15
 simp [hka, hb15]
 repeat refine sg ?_
 refine z _ ?_
 clear z Z
 refine AT_cond (g := none) rfl (fun hb24 => ?_) (fun hb24 => ?_)
 try simp [hka, hb15] at hb24
 refine sr fun Z z => ?_
 simp [hka, hb15, hb24]
 refine z _ ?_
 clear z Z
 refine AT_ret ?_
 simp [Tryz.f60]
 first | (rw [hc, hda, hdb, cmpS_cons]; repeat (first | omega | split)) | (rw [hc, cmpS_end a b k (by omega) hk1 hk2]; repeat (first | omega | split))
 try simp [hka, hb15] at hb24
 refine AT_skip ?_
 try simp only [nrm, reduceIte, Nat.reduceEqDiff]
 refine hK5 _ ?_
 refine AT_seq_draw Pt.mixed (by kernel_rfl) fun Z z => ?_
 simp [hka, hb15, hb24]
 repeat refine sg ?_
 refine z _ ?_
 clear z Z
 refine AT_cond (g := none) rfl (fun hb31 => ?_) (fun hb31 => ?_)
 try simp [hka, hb15, hb24] at hb31
 refine sr fun Z z => ?_
 simp [hka, hb15, hb24, hb31]
 refine z _ ?_
 clear z Z
 refine AT_ret ?_
 simp [Tryz.f60]
 first | (rw [hc, hda, hdb, cmpS_cons]; repeat (first | omega | split)) | (rw [hc, cmpS_end a b k (by omega) hk1 hk2]; repeat (first | omega | split))
 try simp [hka, hb15, hb24] at hb31
 refine AT_skip ?_
 try simp only [nrm, reduceIte, Nat.reduceEqDiff]
 refine hK4 _ ?_
 refine AT_region_q fun Z z => ?_
 simp [hka, hb15, hb24, hb31]
 repeat refine sg ?_
 refine z _ ?_
 clear z Z
 try simp only [nrm, reduceIte, Nat.reduceEqDiff]
 refine hK2 _ (by first | rfl | simp) (a.length - (k+1)) (by omega) ?_
 refine ⟨k+1, by omega, ?_, by omega, by simp⟩
 rw [hc, hda, hdb, cmpS_cons, if_neg (by omega), if_neg (by omega)]
 try simp [hka] at hb15
 refine AT_exit ?_
 try simp only [nrm, reduceIte, Nat.reduceEqDiff]
 refine hK1 _ ?_
 refine AT_seq_k fun K6 hK6 => ?_
 refine sr fun Z z => ?_
 simp [hka, hb15]
 repeat refine sg ?_
 refine z _ ?_
 clear z Z
 refine AT_cond (g := none) rfl (fun hb36 => ?_) (fun hb36 => ?_)
 try simp [hka, hb15] at hb36
 refine sr fun Z z => ?_
 simp [hka, hb15, hb36]
 refine z _ ?_
 clear z Z
 refine AT_ret ?_
 simp [Tryz.f60]
 first | (rw [hc, hda, hdb, cmpS_cons]; repeat (first | omega | split)) | (rw [hc, cmpS_end a b k (by omega) hk1 hk2]; repeat (first | omega | split))
 try simp [hka, hb15] at hb36
 refine AT_skip ?_
 try simp only [nrm, reduceIte, Nat.reduceEqDiff]
 refine hK6 _ ?_
 refine AT_seq_k fun K7 hK7 => ?_
 refine sr fun Z z => ?_
 simp [hka, hb15, hb36]
 repeat refine sg ?_
 refine z _ ?_
 clear z Z
 refine AT_cond (g := none) rfl (fun hb41 => ?_) (fun hb41 => ?_)
 try simp [hka, hb15, hb36] at hb41
 refine sr fun Z z => ?_
 simp [hka, hb15, hb36, hb41]
 refine z _ ?_
 clear z Z
 refine AT_ret ?_
 simp [Tryz.f60]
 first | (rw [hc, hda, hdb, cmpS_cons]; repeat (first | omega | split)) | (rw [hc, cmpS_end a b k (by omega) hk1 hk2]; repeat (first | omega | split))
 try simp [hka, hb15, hb36] at hb41
 refine AT_skip ?_
 try simp only [nrm, reduceIte, Nat.reduceEqDiff]
 refine hK7 _ ?_
 refine sr fun Z z => ?_
 simp [hka, hb15, hb36, hb41]
 refine z _ ?_
 clear z Z
 refine AT_ret ?_
 simp [Tryz.f60]
 first | (rw [hc, hda, hdb, cmpS_cons]; repeat (first | omega | split)) | (rw [hc, cmpS_end a b k (by omega) hk1 hk2]; repeat (first | omega | split))
 refine sr fun Z z => ?_
 simp [hka]
 repeat refine sg ?_
 refine z _ ?_
 clear z Z
 refine cF (by simp [hka]) ?_
 refine AT_exit ?_
 try simp only [nrm, reduceIte, Nat.reduceEqDiff]
 refine hK1 _ ?_
 refine AT_seq_k fun K8 hK8 => ?_
 refine sr fun Z z => ?_
 simp [hka]
 repeat refine sg ?_
 refine z _ ?_
 clear z Z
 refine AT_cond (g := none) rfl (fun hb36 => ?_) (fun hb36 => ?_)
 try simp [hka] at hb36
 refine sr fun Z z => ?_
 simp [hka, hb36]
 refine z _ ?_
 clear z Z
 refine AT_ret ?_
 simp [Tryz.f60]
 first | (rw [hc, hda, hdb, cmpS_cons]; repeat (first | omega | split)) | (rw [hc, cmpS_end a b k (by omega) hk1 hk2]; repeat (first | omega | split))
 try simp [hka] at hb36
 refine AT_skip ?_
 try simp only [nrm, reduceIte, Nat.reduceEqDiff]
 refine hK8 _ ?_
 refine AT_seq_k fun K9 hK9 => ?_
 refine sr fun Z z => ?_
 simp [hka, hb36]
 repeat refine sg ?_
 refine z _ ?_
 clear z Z
 refine AT_cond (g := none) rfl (fun hb41 => ?_) (fun hb41 => ?_)
 try simp [hka, hb36] at hb41
 refine sr fun Z z => ?_
 simp [hka, hb36, hb41]
 refine z _ ?_
 clear z Z
 refine AT_ret ?_
 simp [Tryz.f60]
 first | (rw [hc, hda, hdb, cmpS_cons]; repeat (first | omega | split)) | (rw [hc, cmpS_end a b k (by omega) hk1 hk2]; repeat (first | omega | split))
 try simp [hka, hb36] at hb41
 refine AT_skip ?_
 try simp only [nrm, reduceIte, Nat.reduceEqDiff]
 refine hK9 _ ?_
 refine sr fun Z z => ?_
 simp [hka, hb36, hb41]
 refine z _ ?_
 clear z Z
 refine AT_ret ?_
 simp [Tryz.f60]
 first | (rw [hc, hda, hdb, cmpS_cons]; repeat (first | omega | split)) | (rw [hc, cmpS_end a b k (by omega) hk1 hk2]; repeat (first | omega | split))

end Go.Proofs.YtocmdbojefgpbaaGreatDoor
end

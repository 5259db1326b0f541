import Derived.Test.YtocmdbojefgpbaaGreatDoorPt
import Derived.Test.YtocmdbojefgpbaaGreatDoorPvPb
import Derived.Test.YtocmdbojefgpbaaGreatDoorPvY
section
/- Contracts. -/
set_option linter.all false
set_option maxHeartbeats 1000000
set_option maxRecDepth 10000
namespace Go.Proofs.YtocmdbojefgpbaaGreatDoor
open Go Go.Pv
variable (g : Nat → Option (List AV)) (rnd : Bool)

theorem c_slices_Index_string_string (l : List Str) (x : Str) (hl : l.length ≤ 140737488355328) : Valid Tryz.prog (G0 g rnd) 112 [.slice (l.map encS), .str x] (.int .i64 (idxF l x 0)) := by

 refine valid_of [] Tryz.func112 rfl (by kernel_rfl) ?_
 refine sr fun Z z => ?_
 simp [row_map, Tryz.f112]
 refine z _ ?_
 clear z Z
 refine AT_seq_k fun K1 hK1 => ?_
 refine sr fun Z z => ?_
 simp [row_map]
 repeat refine sg ?_
 refine z _ ?_
 clear z Z
 refine AT_block ?_
 refine AT_loop_q [0,1,6,7,8] [] (fun j s => ∃ k, k ≤ l.length ∧ idxF l x 0 = idxF (l.drop k) x k ∧ j = l.length - k ∧ s = { n := 19, tm := [(0, .v (.slice (l.map encS)) none), (1, .v (.str x) none), (6, .v (.slice (l.map encS)) none), (7, .v (.int .i64 l.length) none), (8, .v (.int .i64 k) none)], bx := [], tb := [], sh := [], hint := [] }) (l.length) (by first | rfl | simp) ?_ ?_
 exact ⟨0, by simp⟩
 rintro j s ⟨k, hk, hc, rfl, rfl⟩ K2 hK2
 refine sr fun Z z => ?_
 simp [row_map]
 repeat refine sg ?_
 refine z _ ?_
 clear z Z
 refine AT_seq_k fun K3 hK3 => ?_
 refine AT_cond (g := none) rfl (fun hb9 => ?_) (fun hb9 => ?_)
 try simp [row_map] at hb9
 refine AT_skip ?_
 try simp only [nrm, reduceIte, Nat.reduceEqDiff]
 refine hK3 _ ?_
 refine AT_seq_k fun K4 hK4 => ?_
 refine AT_block ?_
 refine sr fun Z z => ?_
 simp [row_map, hb9]
 refine z _ ?_
 clear z Z
 refine sr fun Z z => ?_
 have hd := List.drop_eq_getElem_cons hb9
 simp [row_map, hb9]
 repeat refine sg ?_
 refine z _ ?_
 clear z Z
 refine AT_cond (g := none) rfl (fun hb16 => ?_) (fun hb16 => ?_)
 try simp [row_map, hb9] at hb16
 refine sr fun Z z => ?_
 simp [row_map, hb9]
 refine z _ ?_
 clear z Z
 refine AT_ret ?_
 simp [row_map, Tryz.f112]
 first | (rw [hc, hd, idxF, if_pos hb16]) | (rw [hc, List.drop_eq_nil_of_le hb9]; rfl)
 try simp [row_map, hb9] at hb16
 refine AT_skip ?_
 try simp only [nrm, reduceIte, Nat.reduceEqDiff]
 refine hK4 _ ?_
 refine AT_region_q fun Z z => ?_
 simp [row_map, hb9]
 repeat refine sg ?_
 refine z _ ?_
 clear z Z
 try simp only [nrm, reduceIte, Nat.reduceEqDiff]
 refine hK2 _ (by first | rfl | simp) (l.length - (k+1)) (by omega) ?_
 refine ⟨k+1, by omega, ?_, by omega, by simp⟩
 rw [hc, hd, idxF, if_neg hb16]
 try simp [row_map] at hb9
 refine AT_exit ?_
 try simp only [nrm, reduceIte, Nat.reduceEqDiff]
 refine hK1 _ ?_
 refine sr fun Z z => ?_
 simp [row_map, hb9]
 refine z _ ?_
 clear z Z
 refine AT_ret ?_
 simp [row_map, Tryz.f112]
 first | (rw [hc, hd, idxF, if_pos hb16]) | (rw [hc, List.drop_eq_nil_of_le hb9]; rfl)

end Go.Proofs.YtocmdbojefgpbaaGreatDoor
end

section
/- Contracts. -/
set_option linter.all false
set_option maxHeartbeats 1000000
set_option maxRecDepth 10000
namespace Go.Proofs.YtocmdbojefgpbaaGreatDoor
open Go Go.Pv
variable (g : Nat → Option (List AV)) (rnd : Bool)

theorem c_types_All (l : List Ty) (ns as_ : List (List AV)) (res : Ty → Ty) (hl : l.length ≤ 1099511627776) (hs : ∀ t ∈ l, Valid Tryz.prog (G0 g rnd) 87 [.agg (encTy t), .slice ns, .slice as_] (.agg (encTy (res t)))) : Valid Tryz.prog (G0 g rnd) 90 [.slice (l.map encTy), .slice ns, .slice as_] (.slice ((l.map res).map encTy)) := by

 refine valid_of [(7, 24)] Tryz.func90 rfl (by kernel_rfl) ?_
 refine sr fun Z z => ?_
 simp [row_map, Tryz.f90]
 refine z _ ?_
 clear z Z
 refine sr fun Z z => ?_
 simp [row_map]
 refine z _ ?_
 clear z Z
 refine AT_seq_k fun K1 hK1 => ?_
 refine sr fun Z z => ?_
 simp [row_map]
 repeat refine sg ?_
 refine z _ ?_
 clear z Z
 refine AT_block ?_
 refine AT_loop_q [1,2,7,10,11,12] [] (fun j s => ∃ k, k ≤ l.length ∧ j = l.length - k ∧ s = { n := 25, tm := [(1, .v (.slice ns) none), (2, .v (.slice as_) none), (7, .v (.slice (((l.take k).map res).map encTy)) (some (7, 24))), (10, .v (.slice (l.map encTy)) none), (11, .v (.int .i64 l.length) none), (12, .v (.int .i64 k) none)], bx := [], tb := [], sh := [], hint := [(7, 24)] }) (l.length) (by first | rfl | simp) ?_ ?_
 exact ⟨0, by simp⟩
 rintro j s ⟨k, hk, rfl, rfl⟩ K2 hK2
 refine sr fun Z z => ?_
 simp [row_map]
 repeat refine sg ?_
 refine z _ ?_
 clear z Z
 refine AT_seq_k fun K3 hK3 => ?_
 refine AT_cond (g := none) rfl (fun hb13 => ?_) (fun hb13 => ?_)
 try simp [row_map] at hb13
 refine AT_skip ?_
 try simp only [nrm, reduceIte, Nat.reduceEqDiff]
 refine hK3 _ ?_
 refine AT_seq_k fun K4 hK4 => ?_
 refine AT_block ?_
 refine sr fun Z z => ?_
 simp [row_map, hb13]
 repeat refine sg ?_
 refine z _ ?_
 clear z Z
 refine AT_region_q fun Z z => ?_
 simp [row_map, hb13]
 repeat refine sg ?_
 refine RVn_call (hs l[k] (by simp)) ?_
 simp [row_map, hb13]
 repeat refine sg ?_
 refine z _ ?_
 clear z Z
 try simp only [nrm, reduceIte, Nat.reduceEqDiff]
 refine hK4 _ ?_
 refine AT_region_q fun Z z => ?_
 simp [row_map, hb13]
 repeat refine sg ?_
 refine z _ ?_
 clear z Z
 try simp only [nrm, reduceIte, Nat.reduceEqDiff]
 refine hK2 _ (by first | rfl | simp) (l.length - (k+1)) (by omega) ?_
 have hs2 := take_map_succ (encTy ∘ res) l k hb13
 exact ⟨k+1, by omega, by omega, by simp [hs2]⟩
 try simp [row_map] at hb13
 refine AT_exit ?_
 try simp only [nrm, reduceIte, Nat.reduceEqDiff]
 refine hK1 _ ?_
 refine sr fun Z z => ?_
 simp [row_map, hb13]
 refine z _ ?_
 clear z Z
 refine AT_ret ?_
 simp [row_map, Tryz.f90]
 rw [List.take_of_length_le (by simpa using hb13)]

end Go.Proofs.YtocmdbojefgpbaaGreatDoor
end

section
/- Contracts. -/
set_option linter.all false
set_option maxHeartbeats 1000000
set_option maxRecDepth 10000
namespace Go.Proofs.YtocmdbojefgpbaaGreatDoor
open Go Go.Pv
variable (g : Nat → Option (List AV)) (rnd : Bool)

theorem c_types_Subst_n : ∀ t : Ty, wt t ≤ 1099511627776 → Valid Tryz.prog (G0 g rnd) 87 [.agg (encTy t), .slice [], .slice []] (.agg (encTy t)) := by
 intro t
 induction t using Ty.ind with
 | h n ts p ih =>
 intro hw
 have hw2 : n.length + 1 + wts ts ≤ 1099511627776 := by simpa [wt] using hw
 have hln := wts_len ts
 refine valid_of [] Tryz.func87 rfl (by kernel_rfl) ?_
 refine sr fun Z z => ?_
 simp [row_map, encTy_mk, Tryz.f87]
 refine z _ ?_
 clear z Z
 refine AT_seq_k fun K1 hK1 => ?_
 refine sr fun Z z => ?_
 simp [row_map, encTy_mk]
 repeat refine sg ?_
 refine RVn_call ((by simpa [idxF] using c_slices_Index_string_string g rnd [] n (by simp) : Valid Tryz.prog (G0 g rnd) 112 [.slice [], .str n] (.int .i64 (-1)))) ?_
 simp [row_map, encTy_mk]
 repeat refine sg ?_
 refine z _ ?_
 clear z Z
 by_cases h0 : ts = []
 have h0b : ((ts.length : Int) == 0) = true := by simpa using h0
 refine sr fun Z z => ?_
 simp [row_map, encTy_mk, h0b]
 repeat refine sg ?_
 refine z _ ?_
 clear z Z
 refine cF (by simp [h0b]) ?_
 refine AT_skip ?_
 try simp only [nrm, reduceIte, Nat.reduceEqDiff]
 refine hK1 _ ?_
 refine sr fun Z z => ?_
 simp [row_map, encTy_mk, h0b]
 repeat refine sg ?_
 refine RVn_call ((by simpa using c_types_All g rnd ts [] [] id (by omega) (fun t ht => ih t ht (Nat.le_trans (wts_mem ht) (by omega))) : Valid Tryz.prog (G0 g rnd) 90 [.slice (ts.map encTy), .slice [], .slice []] (.slice (ts.map encTy)))) ?_
 simp [row_map, encTy_mk, h0b]
 repeat refine sg ?_
 refine z _ ?_
 clear z Z
 refine sr fun Z z => ?_
 simp [row_map, encTy_mk, h0b]
 repeat refine sg ?_
 refine z _ ?_
 clear z Z
 refine AT_ret ?_
 simp [row_map, encTy_mk, Tryz.f87]
 have h0b : ((ts.length : Int) == 0) = false := by simpa using h0
 refine sr fun Z z => ?_
 simp [row_map, encTy_mk, h0b]
 repeat refine sg ?_
 refine z _ ?_
 clear z Z
 refine cF (by simp [h0b]) ?_
 refine AT_skip ?_
 try simp only [nrm, reduceIte, Nat.reduceEqDiff]
 refine hK1 _ ?_
 refine sr fun Z z => ?_
 simp [row_map, encTy_mk, h0b]
 repeat refine sg ?_
 refine RVn_call ((by simpa using c_types_All g rnd ts [] [] id (by omega) (fun t ht => ih t ht (Nat.le_trans (wts_mem ht) (by omega))) : Valid Tryz.prog (G0 g rnd) 90 [.slice (ts.map encTy), .slice [], .slice []] (.slice (ts.map encTy)))) ?_
 simp [row_map, encTy_mk, h0b]
 repeat refine sg ?_
 refine z _ ?_
 clear z Z
 refine sr fun Z z => ?_
 simp [row_map, encTy_mk, h0b]
 repeat refine sg ?_
 refine z _ ?_
 clear z Z
 refine AT_ret ?_
 simp [row_map, encTy_mk, Tryz.f87]

theorem c_types_Clone (t : Ty) (hw : wt t ≤ 1099511627776) : Valid Tryz.prog (G0 g rnd) 113 [.agg (encTy t)] (.agg (encTy t)) := by

 refine valid_of [] Tryz.func113 rfl (by kernel_rfl) ?_
 refine sr fun Z z => ?_
 simp [Tryz.f113]
 refine z _ ?_
 clear z Z
 refine sr fun Z z => ?_
 simp
 repeat refine sg ?_
 refine RVn_call (c_types_Subst_n g rnd t hw) ?_
 simp
 repeat refine sg ?_
 refine z _ ?_
 clear z Z
 refine AT_ret ?_
 simp [Tryz.f113]

end Go.Proofs.YtocmdbojefgpbaaGreatDoor
end

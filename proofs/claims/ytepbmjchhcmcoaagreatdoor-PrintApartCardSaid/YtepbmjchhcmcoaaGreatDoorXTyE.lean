import Derived.Test.YtepbmjchhcmcoaaGreatDoorPt
import Derived.Test.YtepbmjchhcmcoaaGreatDoorPvPb
import Derived.Test.YtepbmjchhcmcoaaGreatDoorPvY
import Derived.Test.YtepbmjchhcmcoaaGreatDoorXLbJ
import Derived.Test.YtepbmjchhcmcoaaGreatDoorXShelf
section
/- Contracts. -/
set_option linter.all false
set_option maxHeartbeats 1000000
set_option maxRecDepth 10000
namespace Go.Proofs.YtepbmjchhcmcoaaGreatDoor
open Go Go.Pv
variable (g : Nat → Option (List AV)) (rnd : Bool)

end Go.Proofs.YtepbmjchhcmcoaaGreatDoor
end

section
/- Contracts. -/
set_option linter.all false
set_option maxHeartbeats 1000000
set_option maxRecDepth 10000
namespace Go.Proofs.YtepbmjchhcmcoaaGreatDoor
open Go Go.Pv
variable (g : Nat → Option (List AV)) (rnd : Bool)

theorem c_types_Text (t : Ty) : wt t ≤ 1099511627776 → Valid Tryz.prog (G0 g rnd) 43 [.agg (encTy t)] (.str (txt t)) := by
 induction t using Ty.ind with
 | h n ts p ih =>
 intro hw
 have hw2 : n.length + 1 + wts ts ≤ 1099511627776 := by simpa [wt] using hw
 have hln := wts_len ts
 refine valid_of [(3, 9)] Tryz.func43 rfl (by kernel_rfl) ?_
 refine sr fun Z z => ?_
 simp [row_map, Tryz.f43]
 refine z _ ?_
 clear z Z
 refine AT_seq_k fun K1 hK1 => ?_
 refine sr fun Z z => ?_
 simp [row_map]
 refine z _ ?_
 clear z Z
 refine AT_cond (g := none) rfl (fun hb9 => ?_) (fun hb9 => ?_)
 simp [row_map] at hb9
 refine sr fun Z z => ?_
 simp [row_map]
 refine z _ ?_
 clear z Z
 refine AT_ret ?_
 simp [row_map, Tryz.f43]
 simp [txt, hb9]
 simp [row_map] at hb9
 refine AT_skip ?_
 simp only [nrm, reduceIte, Nat.reduceEqDiff]
 refine hK1 _ ?_
 refine sr fun Z z => ?_
 simp [row_map]
 refine z _ ?_
 clear z Z
 refine AT_seq_k fun K2 hK2 => ?_
 refine sr fun Z z => ?_
 simp [row_map]
 refine z _ ?_
 clear z Z
 refine AT_block ?_
 refine AT_loop_q [1,3,13,14,15] [1] (fun j s => ∃ k, k ≤ ts.length ∧ j = ts.length - k ∧ s = { n := 32, tm := [(1, .lp 1 0), (3, .v (.slice ((txts (ts.take k)).map encS)) (some (3, 9))), (13, .v (.slice (ts.map encTy)) none), (14, .v (.int .i64 ts.length) none), (15, .v (.int .i64 k) none)], bx := [(1, encTy (.mk n ts p))], tb := [], sh := [], hint := [(3, 9)] }) (ts.length) (by first | rfl | simp) ?_ ?_
 exact ⟨0, by simp [txts]⟩
 rintro j s ⟨k, hk, rfl, rfl⟩ K3 hK3
 refine sr fun Z z => ?_
 simp [row_map]
 refine z _ ?_
 clear z Z
 refine AT_seq_k fun K4 hK4 => ?_
 refine AT_cond (g := none) rfl (fun hb16 => ?_) (fun hb16 => ?_)
 simp [row_map] at hb16
 refine AT_skip ?_
 simp only [nrm, reduceIte, Nat.reduceEqDiff]
 refine hK4 _ ?_
 refine AT_seq_k fun K5 hK5 => ?_
 refine AT_block ?_
 refine sr fun Z z => ?_
 simp [row_map, hb16]
 refine z _ ?_
 clear z Z
 refine AT_region_q fun Z z => ?_
 have hm := wts_mem (l := ts) (t := ts[k]) (by simp)
 have htl := txts_len (ts.take k)
 have hlt : (ts.take k).length ≤ k := by simp; omega
 simp [row_map, hb16]
 refine RVn_call (ih ts[k] (by simp) (by omega)) ?_
 simp [row_map, hb16]
 repeat refine sg ?_
 refine z _ ?_
 clear z Z
 refine hK5 _ ?_
 refine AT_region_q fun Z z => ?_
 simp [row_map, hb16]
 repeat refine sg ?_
 refine z _ ?_
 clear z Z
 simp only [nrm, reduceIte, Nat.reduceEqDiff]
 refine hK3 _ (by first | rfl | simp) (ts.length - (k+1)) (by omega) ?_
 have hs := txts_take ts k hb16
 exact ⟨k+1, by omega, by omega, by simp [hs, encS]⟩
 simp [row_map] at hb16
 refine AT_exit ?_
 simp only [nrm, reduceIte, Nat.reduceEqDiff]
 refine hK2 _ ?_
 refine AT_seq_draw Pt.mixed (by kernel_rfl) fun Z z => ?_
 have hjl := txts_join_len ts
 rw [List.take_of_length_le hb16]
 simp [row_map, hb16]
 repeat refine sg ?_
 refine RVdn_call (c_strings_Join g rnd (txts ts) [44, 32] (by rw [txts_len]; omega) (by omega)) ?_
 simp [row_map, hb16]
 repeat refine sg ?_
 refine z _ ?_
 clear z Z
 refine AT_ret ?_
 simp [row_map, Tryz.f43]
 simp [txt, hb9]

end Go.Proofs.YtepbmjchhcmcoaaGreatDoor
end

section
/- Contracts. -/
set_option linter.all false
set_option maxHeartbeats 1000000
set_option maxRecDepth 10000
namespace Go.Proofs.YtepbmjchhcmcoaaGreatDoor
open Go Go.Pv
variable (g : Nat → Option (List AV)) (rnd : Bool)

theorem c_ref04x_Count : ∀ t : Ty, fit t → ∀ j0 : Nat, j0 ≤ 1000000000000000 → Valid Tryz.prog (G0 g rnd) 78 [.agg (encTy t), .int .i64 j0] (.int .i64 (cnt t j0)) := by
 intro t
 induction t using Ty.ind with
 | h n ts p ih =>
 intro hf j0 hj
 rw [fit] at hf
 obtain ⟨hf1, hf2, hf3⟩ := hf
 refine valid_of [] Tryz.func78 rfl (by kernel_rfl) ?_
 refine sr fun Z z => ?_
 simp [row_map, tdiv50, Tryz.f78]
 refine z _ ?_
 clear z Z
 refine sr fun Z z => ?_
 simp [row_map, tdiv50]
 repeat refine sg ?_
 refine z _ ?_
 clear z Z
 refine AT_seq_k fun K1 hK1 => ?_
 refine sr fun Z z => ?_
 simp [row_map, tdiv50]
 refine z _ ?_
 clear z Z
 refine AT_block ?_
 refine AT_loop_q [2,1,5] [2] (fun j s => ∃ k c, k ≤ ts.length ∧ cnts ts (j0 + 1 + n.length / 50) = cnts (ts.drop k) c ∧ j = ts.length - k ∧ s = { n := 32, tm := [(2, .lp 2 0), (1, .v (.int .i64 (c : Nat)) none), (5, .v (.int .i64 k) none)], bx := [(2, encTy (.mk n ts p))], tb := [], sh := [], hint := [] }) (ts.length) (by first | rfl | simp) ?_ ?_
 exact ⟨0, j0 + 1 + n.length / 50, by simp⟩
 rintro j s ⟨k, c, hk, hc, rfl, rfl⟩ K2 hK2
 refine AT_seq_k fun K3 hK3 => ?_
 by_cases hkt : k < ts.length
 refine sr fun Z z => ?_
 simp [row_map, tdiv50, hkt]
 refine z _ ?_
 clear z Z
 refine AT_cond (g := none) rfl (fun hb21 => ?_) (fun hb21 => ?_)
 simp [row_map, tdiv50, hkt] at hb21
 refine AT_skip ?_
 simp only [nrm, reduceIte, Nat.reduceEqDiff]
 refine hK3 _ ?_
 refine AT_seq_k fun K4 hK4 => ?_
 refine AT_block ?_
 refine AT_region_q fun Z z => ?_
 simp [row_map, tdiv50, hkt]
 refine RVn_call (ih ts[k] (by simp) (fits_mem hf3 (by simp)) c (by omega)) ?_
 simp [row_map, tdiv50, hkt]
 refine z _ ?_
 clear z Z
 refine hK4 _ ?_
 refine AT_region_q fun Z z => ?_
 simp [row_map, tdiv50, hkt]
 repeat refine sg ?_
 refine z _ ?_
 clear z Z
 simp only [nrm, reduceIte, Nat.reduceEqDiff]
 refine hK2 _ (by first | rfl | simp) (ts.length - (k+1)) (by omega) ?_
 refine ⟨k+1, cnt ts[k] c, by omega, ?_, by omega, by simp⟩
 rw [hc, List.drop_eq_getElem_cons hkt, cnts_cons, if_pos (by omega)]
 simp [row_map, tdiv50, hkt] at hb21
 refine AT_exit ?_
 simp only [nrm, reduceIte, Nat.reduceEqDiff]
 refine hK1 _ ?_
 refine sr fun Z z => ?_
 simp [row_map, tdiv50, hkt]
 refine z _ ?_
 clear z Z
 refine AT_ret ?_
 simp [row_map, tdiv50, Tryz.f78]
 (rw [show cnt (.mk n ts p) j0 = cnts ts (j0 + 1 + n.length / 50) by simp [cnt], hc, List.drop_eq_getElem_cons hkt, cnts_cons, if_neg (by omega)])
 refine sr fun Z z => ?_
 simp [row_map, tdiv50, hkt]
 refine z _ ?_
 clear z Z
 refine AT_cond (b := false) (g := none) (by simp [hkt]) (fun hb => ?_) (fun hb => ?_)
 cases hb
 clear hb
 refine AT_exit ?_
 simp only [nrm, reduceIte, Nat.reduceEqDiff]
 refine hK1 _ ?_
 refine sr fun Z z => ?_
 simp [row_map, tdiv50, hkt]
 refine z _ ?_
 clear z Z
 refine AT_ret ?_
 simp [row_map, tdiv50, Tryz.f78]
 (rw [show cnt (.mk n ts p) j0 = cnts ts (j0 + 1 + n.length / 50) by simp [cnt], hc, List.drop_eq_nil_of_le (by omega)]; rfl)

end Go.Proofs.YtepbmjchhcmcoaaGreatDoor
end

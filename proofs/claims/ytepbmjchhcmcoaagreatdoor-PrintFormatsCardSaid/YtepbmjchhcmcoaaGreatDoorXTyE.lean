import Derived.Test.YtepbmjchhcmcoaaGreatDoorPt
import Derived.Test.YtepbmjchhcmcoaaGreatDoorPvPb
import Derived.Test.YtepbmjchhcmcoaaGreatDoorPvY
import Derived.Test.YtepbmjchhcmcoaaGreatDoorXLbJ
import Derived.Test.YtepbmjchhcmcoaaGreatDoorXShelf
section
/- Contracts. -/
set_option linter.all false
set_option maxHeartbeats 1000000
set_option maxRecDepth 10000
namespace Go.Proofs.YtepbmjchhcmcoaaGreatDoor
open Go Go.Pv
variable (g : Nat → Option (List AV)) (rnd : Bool)

theorem c_ref04x_Text (t : Ty) : wt t ≤ 1099511627776 → Valid Tryz.prog (G0 g rnd) 64 [.agg (encTy t)] (.str (txt t)) := by
 induction t using Ty.ind with
 | h n ts p ih =>
 intro hw
 have hw2 : n.length + 1 + wts ts ≤ 1099511627776 := by simpa [wt] using hw
 have hln := wts_len ts
 refine valid_of [] Tryz.func64 rfl (by kernel_rfl) ?_
 refine sr fun Z z => ?_
 simp [row_map, Tryz.f64]
 refine z _ ?_
 clear z Z
 refine sr fun Z z => ?_
 simp [row_map]
 refine z _ ?_
 clear z Z
 refine AT_seq_k fun K1 hK1 => ?_
 refine sr fun Z z => ?_
 simp [row_map]
 refine z _ ?_
 clear z Z
 refine AT_block ?_
 refine AT_loop_q [3,4,1] [1] (fun j s => ∃ k, k ≤ ts.length ∧ j = ts.length - k ∧ s = { n := 35, tm := [(3, .v (.str (txtK n ts k)) none), (4, .v (.int .i64 k) none), (1, .lp 1 0)], bx := [(1, encTy (.mk n ts p))], tb := [], sh := [], hint := [] }) (ts.length) (by first | rfl | simp) ?_ ?_
 exact ⟨0, by simp [txtK]⟩
 rintro j s ⟨k, hk, rfl, rfl⟩ K2 hK2
 refine AT_seq_k fun K3 hK3 => ?_
 refine sr fun Z z => ?_
 simp [row_map]
 refine z _ ?_
 clear z Z
 refine AT_cond (g := none) rfl (fun hb11 => ?_) (fun hb11 => ?_)
 simp [row_map] at hb11
 refine AT_skip ?_
 refine hK3 _ ?_
 refine AT_seq_k fun K4 hK4 => ?_
 refine AT_block ?_
 refine AT_seq_k fun K5 hK5 => ?_
 refine sr fun Z z => ?_
 simp [row_map, hb11]
 refine z _ ?_
 clear z Z
 refine AT_cond (g := none) rfl (fun hb15 => ?_) (fun hb15 => ?_)
 simp [row_map, hb11] at hb15
 refine AT_region_q fun Z z => ?_
 have htk := txtK_len n ts k
 simp [row_map, hb11]
 repeat refine sg ?_
 refine z _ ?_
 clear z Z
 refine hK5 _ ?_
 refine AT_region_q fun Z z => ?_
 have htk := txtK_len n ts k
 have hm := wts_mem (l := ts) (t := ts[k]) (by simp)
 have hxt := txt_wt ts[k]
 simp [row_map, hb11]
 refine RVn_call (ih ts[k] (by simp) (by omega)) ?_
 simp [row_map, hb11]
 repeat refine sg ?_
 refine z _ ?_
 clear z Z
 refine hK4 _ ?_
 refine AT_region_q fun Z z => ?_
 simp [row_map, hb11]
 repeat refine sg ?_
 refine z _ ?_
 clear z Z
 refine hK2 _ (by first | rfl | simp) (ts.length - (k+1)) (by omega) ?_
 have hs := txtK_succ n ts k hb11
 first | rw [if_pos hb15] at hs | rw [if_neg hb15] at hs
 exact ⟨k+1, by omega, by omega, by simp [hs]⟩
 simp [row_map, hb11] at hb15
 refine AT_region_q fun Z z => ?_
 have htk := txtK_len n ts k
 simp [row_map, hb11]
 repeat refine sg ?_
 refine z _ ?_
 clear z Z
 refine hK5 _ ?_
 refine AT_region_q fun Z z => ?_
 have htk := txtK_len n ts k
 have hm := wts_mem (l := ts) (t := ts[k]) (by simp)
 have hxt := txt_wt ts[k]
 simp [row_map, hb11]
 refine RVn_call (ih ts[k] (by simp) (by omega)) ?_
 simp [row_map, hb11]
 repeat refine sg ?_
 refine z _ ?_
 clear z Z
 refine hK4 _ ?_
 refine AT_region_q fun Z z => ?_
 simp [row_map, hb11]
 repeat refine sg ?_
 refine z _ ?_
 clear z Z
 refine hK2 _ (by first | rfl | simp) (ts.length - (k+1)) (by omega) ?_
 have hs := txtK_succ n ts k hb11
 first | rw [if_pos hb15] at hs | rw [if_neg hb15] at hs
 exact ⟨k+1, by omega, by omega, by simp [hs]⟩
 simp [row_map] at hb11
 refine AT_exit ?_
 refine hK1 _ ?_
 refine AT_seq_k fun K6 hK6 => ?_
 refine sr fun Z z => ?_
 simp [row_map, hb11]
 refine z _ ?_
 clear z Z
 refine AT_cond (g := none) rfl (fun hb31 => ?_) (fun hb31 => ?_)
 simp [row_map, hb11] at hb31
 refine AT_region_q fun Z z => ?_
 have htk := txtK_len n ts k
 simp [row_map, hb11]
 repeat refine sg ?_
 refine z _ ?_
 clear z Z
 refine hK6 _ ?_
 refine sr fun Z z => ?_
 simp [row_map, hb11]
 refine z _ ?_
 clear z Z
 refine AT_ret ?_
 simp [row_map, Tryz.f64]
 exact (txt_end n ts p k (by omega)).1 (by first | omega | simpa [List.length_pos_iff] using hb31)
 simp [row_map, hb11] at hb31
 refine AT_skip ?_
 refine hK6 _ ?_
 refine sr fun Z z => ?_
 simp [row_map, hb11]
 refine z _ ?_
 clear z Z
 refine AT_ret ?_
 simp [row_map, Tryz.f64]
 exact (txt_end n ts p k (by omega)).2 (by first | omega | simpa using hb31)

end Go.Proofs.YtepbmjchhcmcoaaGreatDoor
end

section
/- Contracts. -/
set_option linter.all false
set_option maxHeartbeats 1000000
set_option maxRecDepth 10000
namespace Go.Proofs.YtepbmjchhcmcoaaGreatDoor
open Go Go.Pv
variable (g : Nat → Option (List AV)) (rnd : Bool)

theorem c_types_Text (t : Ty) : wt t ≤ 1099511627776 → Valid Tryz.prog (G0 g rnd) 43 [.agg (encTy t)] (.str (txt t)) := by
 induction t using Ty.ind with
 | h n ts p ih =>
 intro hw
 have hw2 : n.length + 1 + wts ts ≤ 1099511627776 := by simpa [wt] using hw
 have hln := wts_len ts
 refine valid_of [(3, 9)] Tryz.func43 rfl (by kernel_rfl) ?_
 refine sr fun Z z => ?_
 simp [row_map, Tryz.f43]
 refine z _ ?_
 clear z Z
 refine AT_seq_k fun K1 hK1 => ?_
 refine sr fun Z z => ?_
 simp [row_map]
 refine z _ ?_
 clear z Z
 refine AT_cond (g := none) rfl (fun hb9 => ?_) (fun hb9 => ?_)
 simp [row_map] at hb9
 refine sr fun Z z => ?_
 simp [row_map]
 refine z _ ?_
 clear z Z
 refine AT_ret ?_
 simp [row_map, Tryz.f43]
 simp [txt, hb9]
 simp [row_map] at hb9
 refine AT_skip ?_
 refine hK1 _ ?_
 refine sr fun Z z => ?_
 simp [row_map]
 refine z _ ?_
 clear z Z
 refine AT_seq_k fun K2 hK2 => ?_
 refine sr fun Z z => ?_
 simp [row_map]
 refine z _ ?_
 clear z Z
 refine AT_block ?_
 refine AT_loop_q [1,3,13,14,15] [1] (fun j s => ∃ k, k ≤ ts.length ∧ j = ts.length - k ∧ s = { n := 32, tm := [(1, .lp 1 0), (3, .v (.slice ((txts (ts.take k)).map encS)) (some (3, 9))), (13, .v (.slice (ts.map encTy)) none), (14, .v (.int .i64 ts.length) none), (15, .v (.int .i64 k) none)], bx := [(1, encTy (.mk n ts p))], tb := [], sh := [], hint := [(3, 9)] }) (ts.length) (by first | rfl | simp) ?_ ?_
 exact ⟨0, by simp [txts]⟩
 rintro j s ⟨k, hk, rfl, rfl⟩ K3 hK3
 refine sr fun Z z => ?_
 simp [row_map]
 refine z _ ?_
 clear z Z
 refine AT_seq_k fun K4 hK4 => ?_
 refine AT_cond (g := none) rfl (fun hb16 => ?_) (fun hb16 => ?_)
 simp [row_map] at hb16
 refine AT_skip ?_
 refine hK4 _ ?_
 refine AT_seq_k fun K5 hK5 => ?_
 refine AT_block ?_
 refine sr fun Z z => ?_
 simp [row_map, hb16]
 refine z _ ?_
 clear z Z
 refine AT_region_q fun Z z => ?_
 have hm := wts_mem (l := ts) (t := ts[k]) (by simp)
 have htl := txts_len (ts.take k)
 have hlt : (ts.take k).length ≤ k := by simp; omega
 simp [row_map, hb16]
 refine RVn_call (ih ts[k] (by simp) (by omega)) ?_
 simp [row_map, hb16]
 repeat refine sg ?_
 refine z _ ?_
 clear z Z
 refine hK5 _ ?_
 refine AT_region_q fun Z z => ?_
 simp [row_map, hb16]
 repeat refine sg ?_
 refine z _ ?_
 clear z Z
 refine hK3 _ (by first | rfl | simp) (ts.length - (k+1)) (by omega) ?_
 have hs := txts_take ts k hb16
 exact ⟨k+1, by omega, by omega, by simp [hs, encS]⟩
 simp [row_map] at hb16
 refine AT_exit ?_
 refine hK2 _ ?_
 refine AT_seq_draw Pt.mixed (by kernel_rfl) fun Z z => ?_
 have hjl := txts_join_len ts
 rw [List.take_of_length_le hb16]
 simp [row_map, hb16]
 repeat refine sg ?_
 refine RVdn_call (c_strings_Join g rnd (txts ts) [44, 32] (by rw [txts_len]; omega) (by omega)) ?_
 simp [row_map, hb16]
 repeat refine sg ?_
 refine z _ ?_
 clear z Z
 refine AT_ret ?_
 simp [row_map, Tryz.f43]
 simp [txt, hb9]

end Go.Proofs.YtepbmjchhcmcoaaGreatDoor
end

section
/- Contracts. -/
set_option linter.all false
set_option maxHeartbeats 1000000
set_option maxRecDepth 10000
namespace Go.Proofs.YtepbmjchhcmcoaaGreatDoor
open Go Go.Pv
variable (g : Nat → Option (List AV)) (rnd : Bool)

end Go.Proofs.YtepbmjchhcmcoaaGreatDoor
end

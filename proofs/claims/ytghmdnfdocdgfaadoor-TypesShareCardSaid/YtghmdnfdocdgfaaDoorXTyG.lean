import Derived.Test.YtghmdnfdocdgfaaDoorPt
import Derived.Test.YtghmdnfdocdgfaaDoorPvPb
import Derived.Test.YtghmdnfdocdgfaaDoorPvY
import Derived.Test.YtghmdnfdocdgfaaDoorXTyD
import Derived.Test.YtghmdnfdocdgfaaDoorXShelf
import Derived.Test.YtghmdnfdocdgfaaDoorXLbJ
section
/- Contracts. -/
set_option linter.all false
set_option maxHeartbeats 1000000
set_option maxRecDepth 10000
namespace Go.Proofs.YtghmdnfdocdgfaaDoor
open Go Go.Pv
variable (g : Nat → Option (List AV)) (rnd : Bool)

end Go.Proofs.YtghmdnfdocdgfaaDoor
end

section
/- Contracts. -/
set_option linter.all false
set_option maxHeartbeats 1000000
set_option maxRecDepth 10000
namespace Go.Proofs.YtghmdnfdocdgfaaDoor
open Go Go.Pv
variable (g : Nat → Option (List AV)) (rnd : Bool)

theorem c_types_Text (t : Ty) : wt t ≤ 1099511627776 → Valid Tryd.prog (G0 g rnd) 14 [.agg (encTy t)] (.str (txt t)) := by
 induction t using Ty.ind with
 | h n ts p ih =>
 intro hw
 have hw2 : n.length + 1 + wts ts ≤ 1099511627776 := by simpa [wt] using hw
 have hln := wts_len ts
 refine valid_of [(3, 9)] Tryd.func14 rfl (by kernel_rfl) ?_
 refine sr fun Z z => ?_
 simp [row_map, Tryd.f14]
 refine z _ ?_
 clear z Z
 refine AT_seq_k fun K1 hK1 => ?_
 refine sr fun Z z => ?_
 simp [row_map]
 refine z _ ?_
 clear z Z
 refine AT_cond (g := none) rfl (fun hb9 => ?_) (fun hb9 => ?_)
 simp [row_map] at hb9
 refine sr fun Z z => ?_
 simp [row_map]
 refine z _ ?_
 clear z Z
 refine AT_ret ?_
 simp [row_map, Tryd.f14]
 simp [txt, hb9]
 simp [row_map] at hb9
 refine AT_skip ?_
 refine hK1 _ ?_
 refine sr fun Z z => ?_
 simp [row_map]
 refine z _ ?_
 clear z Z
 refine AT_seq_k fun K2 hK2 => ?_
 refine sr fun Z z => ?_
 simp [row_map]
 refine z _ ?_
 clear z Z
 refine AT_block ?_
 refine AT_loop_q [1,3,13,14,15] [1] (fun j s => ∃ k, k ≤ ts.length ∧ j = ts.length - k ∧ s = { n := 32, tm := [(1, .lp 1 0), (3, .v (.slice ((txts (ts.take k)).map encS)) (some (3, 9))), (13, .v (.slice (ts.map encTy)) none), (14, .v (.int .i64 ts.length) none), (15, .v (.int .i64 k) none)], bx := [(1, encTy (.mk n ts p))], tb := [], sh := [], hint := [(3, 9)] }) (ts.length) (by first | rfl | simp) ?_ ?_
 exact ⟨0, by simp [txts]⟩
 rintro j s ⟨k, hk, rfl, rfl⟩ K3 hK3
 refine sr fun Z z => ?_
 simp [row_map]
 refine z _ ?_
 clear z Z
 refine AT_seq_k fun K4 hK4 => ?_
 refine AT_cond (g := none) rfl (fun hb16 => ?_) (fun hb16 => ?_)
 simp [row_map] at hb16
 refine AT_skip ?_
 refine hK4 _ ?_
 refine AT_seq_k fun K5 hK5 => ?_
 refine AT_block ?_
 refine sr fun Z z => ?_
 simp [row_map, hb16]
 refine z _ ?_
 clear z Z
 refine AT_region_q fun Z z => ?_
 have hm := wts_mem (l := ts) (t := ts[k]) (by simp)
 have htl := txts_len (ts.take k)
 have hlt : (ts.take k).length ≤ k := by simp; omega
 simp [row_map, hb16]
 refine RVn_call (ih ts[k] (by simp) (by omega)) ?_
 simp [row_map, hb16]
 repeat refine sg ?_
 refine z _ ?_
 clear z Z
 refine hK5 _ ?_
 refine AT_region_q fun Z z => ?_
 simp [row_map, hb16]
 repeat refine sg ?_
 refine z _ ?_
 clear z Z
 refine hK3 _ (by first | rfl | simp) (ts.length - (k+1)) (by omega) ?_
 have hs := txts_take ts k hb16
 exact ⟨k+1, by omega, by omega, by simp [hs, encS]⟩
 simp [row_map] at hb16
 refine AT_exit ?_
 refine hK2 _ ?_
 refine AT_seq_draw Pt.mixed (by kernel_rfl) fun Z z => ?_
 have hjl := txts_join_len ts
 rw [List.take_of_length_le hb16]
 simp [row_map, hb16]
 repeat refine sg ?_
 refine RVdn_call (c_strings_Join g rnd (txts ts) [44, 32] (by rw [txts_len]; omega) (by omega)) ?_
 simp [row_map, hb16]
 repeat refine sg ?_
 refine z _ ?_
 clear z Z
 refine AT_ret ?_
 simp [row_map, Tryd.f14]
 simp [txt, hb9]

end Go.Proofs.YtghmdnfdocdgfaaDoor
end

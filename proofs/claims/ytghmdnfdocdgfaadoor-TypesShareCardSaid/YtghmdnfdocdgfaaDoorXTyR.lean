import Derived.Test.YtghmdnfdocdgfaaDoorPt
import Derived.Test.YtghmdnfdocdgfaaDoorPvPb
import Derived.Test.YtghmdnfdocdgfaaDoorPvY
import Derived.Test.YtghmdnfdocdgfaaDoorXLbJ
import Derived.Test.YtghmdnfdocdgfaaDoorXTyG
import Derived.Test.YtghmdnfdocdgfaaDoorXTyJ
section
/- Contracts. -/
set_option linter.all false
set_option maxHeartbeats 1000000
set_option maxRecDepth 10000
namespace Go.Proofs.YtghmdnfdocdgfaaDoor
open Go Go.Pv
variable (g : Nat → Option (List AV)) (rnd : Bool)

theorem c_types_Depth (t : Ty) : wt t ≤ 1099511627776 → Valid Tryd.prog (G0 g rnd) 16 [.agg (encTy t)] (.int .i64 (dep t)) := by
 induction t using Ty.ind with
 | h n ts p ih =>
 intro hw
 have hw2 : n.length + 1 + wts ts ≤ 1099511627776 := by simpa [wt] using hw
 have hln := wts_len ts
 refine valid_of [] Tryd.func16 rfl (by kernel_rfl) ?_
 refine sr fun Z z => ?_
 simp [row_map, Tryd.f16]
 refine z _ ?_
 clear z Z
 refine sr fun Z z => ?_
 simp [row_map]
 refine z _ ?_
 clear z Z
 refine AT_seq_k fun K1 hK1 => ?_
 refine sr fun Z z => ?_
 simp [row_map]
 refine z _ ?_
 clear z Z
 refine AT_block ?_
 refine AT_loop_q [3,7,8,9,1] [1] (fun j s => ∃ k, k ≤ ts.length ∧ j = ts.length - k ∧ s = { n := 20, tm := [(3, .v (.int .i64 (deps (ts.take k) : Nat)) none), (7, .v (.slice (ts.map encTy)) none), (8, .v (.int .i64 ts.length) none), (9, .v (.int .i64 k) none), (1, .lp 1 0)], bx := [(1, encTy (.mk n ts p))], tb := [], sh := [], hint := [] }) (ts.length) (by first | rfl | simp) ?_ ?_
 exact ⟨0, by simp [deps]⟩
 rintro j s ⟨k, hk, rfl, rfl⟩ K2 hK2
 refine sr fun Z z => ?_
 simp [row_map]
 refine z _ ?_
 clear z Z
 refine AT_seq_k fun K3 hK3 => ?_
 refine AT_cond (g := none) rfl (fun hb10 => ?_) (fun hb10 => ?_)
 simp [row_map] at hb10
 refine AT_skip ?_
 refine hK3 _ ?_
 refine AT_seq_k fun K4 hK4 => ?_
 refine AT_block ?_
 refine sr fun Z z => ?_
 have hm := wts_mem (l := ts) (t := ts[k]) (by simp)
 have hdk := dep_wt ts[k]
 have hdt := deps_wts (ts.take k)
 have hwt := wts_take ts k
 simp [row_map, hb10]
 refine z _ ?_
 clear z Z
 refine AT_region_q fun Z z => ?_
 simp [row_map, hb10]
 refine RVn_call (ih ts[k] (by simp) (by omega)) ?_
 simp [row_map, hb10]
 refine z _ ?_
 clear z Z
 refine hK4 _ ?_
 refine AT_region_q fun Z z => ?_
 simp [row_map, hb10]
 repeat refine sg ?_
 refine z _ ?_
 clear z Z
 refine hK2 _ (by first | rfl | simp) (ts.length - (k+1)) (by omega) ?_
 exact ⟨k+1, by omega, by omega, by simp [deps_take _ _ hb10]; split <;> omega⟩
 simp [row_map] at hb10
 refine AT_exit ?_
 refine hK1 _ ?_
 refine sr fun Z z => ?_
 have hdt := deps_wts (ts.take k)
 have hwt := wts_take ts k
 simp [row_map, hb10]
 repeat refine sg ?_
 refine z _ ?_
 clear z Z
 refine AT_ret ?_
 simp [row_map, Tryd.f16]
 rw [List.take_of_length_le hb10]; simp [dep]

end Go.Proofs.YtghmdnfdocdgfaaDoor
end

section
/- Contracts. -/
set_option linter.all false
set_option maxHeartbeats 1000000
set_option maxRecDepth 10000
namespace Go.Proofs.YtghmdnfdocdgfaaDoor
open Go Go.Pv
variable (g : Nat → Option (List AV)) (rnd : Bool)

theorem c_law04x_awake (hres : g 0 = some reservedA) : Valid Tryd.prog (G0 g rnd) 9 [] (.bool true) := by

 refine valid_of [] Tryd.func9 rfl (by kernel_rfl) ?_
 refine sr fun Z z => ?_
 simp [Tryd.f9]
 refine z _ ?_
 clear z Z
 refine sr fun Z z => ?_
 simp
 refine z _ ?_
 clear z Z
 refine sr fun Z z => ?_
 simp
 refine z _ ?_
 clear z Z
 refine sr fun Z z => ?_
 simp
 refine RVn_call ((by have h := c_types_Subst g rnd [[98]] [awI] (by decide) (by decide) (by decide) awT (by decide); exact h : Valid Tryd.prog (G0 g rnd) 23 [.agg [.str [77, 97, 112], .slice [[.str [97], .slice [], .int .i64 0], [.str [76, 105, 115, 116], .slice [[.str [98], .slice [], .int .i64 0]], .int .i64 0]], .int .i64 0], .slice [[.str [98]]], .slice [[.str [73, 110, 116], .slice [], .int .i64 0]]] (.agg [.str [77, 97, 112], .slice [[.str [97], .slice [], .int .i64 0], [.str [76, 105, 115, 116], .slice [[.str [73, 110, 116], .slice [], .int .i64 0]], .int .i64 0]], .int .i64 0]))) ?_
 simp
 refine z _ ?_
 clear z Z
 refine sr fun Z z => ?_
 simp
 refine RVn_call ((by have h := c_types_Text g rnd awT (by decide); exact h : Valid Tryd.prog (G0 g rnd) 14 [.agg [.str [77, 97, 112], .slice [[.str [97], .slice [], .int .i64 0], [.str [76, 105, 115, 116], .slice [[.str [98], .slice [], .int .i64 0]], .int .i64 0]], .int .i64 0]] (.str [77, 97, 112, 91, 97, 44, 32, 76, 105, 115, 116, 91, 98, 93, 93]))) ?_
 simp
 refine RVn_call ((by have h := c_types_Text g rnd awS (by decide); exact h : Valid Tryd.prog (G0 g rnd) 14 [.agg [.str [77, 97, 112], .slice [[.str [97], .slice [], .int .i64 0], [.str [76, 105, 115, 116], .slice [[.str [73, 110, 116], .slice [], .int .i64 0]], .int .i64 0]], .int .i64 0]] (.str [77, 97, 112, 91, 97, 44, 32, 76, 105, 115, 116, 91, 73, 110, 116, 93, 93]))) ?_
 simp
 refine RVn_call ((by have h := c_types_Depth g rnd awT (by decide); exact h : Valid Tryd.prog (G0 g rnd) 16 [.agg [.str [77, 97, 112], .slice [[.str [97], .slice [], .int .i64 0], [.str [76, 105, 115, 116], .slice [[.str [98], .slice [], .int .i64 0]], .int .i64 0]], .int .i64 0]] (.int .i64 3))) ?_
 simp
 refine RVn_call ((by have h := c_types_Size g rnd awT (by decide); exact h : Valid Tryd.prog (G0 g rnd) 18 [.agg [.str [77, 97, 112], .slice [[.str [97], .slice [], .int .i64 0], [.str [76, 105, 115, 116], .slice [[.str [98], .slice [], .int .i64 0]], .int .i64 0]], .int .i64 0]] (.int .i64 4))) ?_
 simp
 refine RVn_call ((by have h := c_types_Right g rnd awT (by decide) hres; exact h : Valid Tryd.prog (G0 g rnd) 20 [.agg [.str [77, 97, 112], .slice [[.str [97], .slice [], .int .i64 0], [.str [76, 105, 115, 116], .slice [[.str [98], .slice [], .int .i64 0]], .int .i64 0]], .int .i64 0]] (.bool true))) ?_
 simp
 refine RVn_call ((by have h := c_types_Same g rnd awT awT (by decide); exact h : Valid Tryd.prog (G0 g rnd) 13 [.agg [.str [77, 97, 112], .slice [[.str [97], .slice [], .int .i64 0], [.str [76, 105, 115, 116], .slice [[.str [98], .slice [], .int .i64 0]], .int .i64 0]], .int .i64 0], .agg [.str [77, 97, 112], .slice [[.str [97], .slice [], .int .i64 0], [.str [76, 105, 115, 116], .slice [[.str [98], .slice [], .int .i64 0]], .int .i64 0]], .int .i64 0]] (.bool true))) ?_
 simp
 refine RVn_call ((by have h := c_types_Same g rnd awT awS (by decide); exact h : Valid Tryd.prog (G0 g rnd) 13 [.agg [.str [77, 97, 112], .slice [[.str [97], .slice [], .int .i64 0], [.str [76, 105, 115, 116], .slice [[.str [98], .slice [], .int .i64 0]], .int .i64 0]], .int .i64 0], .agg [.str [77, 97, 112], .slice [[.str [97], .slice [], .int .i64 0], [.str [76, 105, 115, 116], .slice [[.str [73, 110, 116], .slice [], .int .i64 0]], .int .i64 0]], .int .i64 0]] (.bool false))) ?_
 simp
 refine RVn_call ((by have h := c_types_Compare g rnd awB awT (by decide); exact h : Valid Tryd.prog (G0 g rnd) 11 [.agg [.str [98], .slice [], .int .i64 0], .agg [.str [77, 97, 112], .slice [[.str [97], .slice [], .int .i64 0], [.str [76, 105, 115, 116], .slice [[.str [98], .slice [], .int .i64 0]], .int .i64 0]], .int .i64 0]] (.int .i64 1))) ?_
 simp
 refine RVn_call ((by have h := c_types_Names g rnd awT; exact h : Valid Tryd.prog (G0 g rnd) 28 [.agg [.str [77, 97, 112], .slice [[.str [97], .slice [], .int .i64 0], [.str [76, 105, 115, 116], .slice [[.str [98], .slice [], .int .i64 0]], .int .i64 0]], .int .i64 0]] (.func 40 [.ro ([.str [77, 97, 112], .slice [[.str [97], .slice [], .int .i64 0], [.str [76, 105, 115, 116], .slice [[.str [98], .slice [], .int .i64 0]], .int .i64 0]], .int .i64 0])]))) ?_
 simp
 refine z _ ?_
 clear z Z
 refine AT_ret ?_
 simp [Tryd.f9]

end Go.Proofs.YtghmdnfdocdgfaaDoor
end

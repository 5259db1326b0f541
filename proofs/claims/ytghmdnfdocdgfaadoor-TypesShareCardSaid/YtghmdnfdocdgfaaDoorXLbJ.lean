import Derived.Test.YtghmdnfdocdgfaaDoorPt
import Derived.Test.YtghmdnfdocdgfaaDoorPvPb
import Derived.Test.YtghmdnfdocdgfaaDoorPvY
import Derived.Test.YtghmdnfdocdgfaaDoorXTyP
import Derived.Test.YtghmdnfdocdgfaaDoorXShelf
section
/- Contracts. -/
set_option linter.all false
set_option maxHeartbeats 1000000
set_option maxRecDepth 10000
namespace Go.Proofs.YtghmdnfdocdgfaaDoor
open Go Go.Pv
variable (g : Nat → Option (List AV)) (rnd : Bool)

theorem c_types_Size_z (t : Ty) (hw : wt t ≤ 1099511627776) : Valid Tryd.prog (G0 g false) 18 [.agg (encTy t)] (.int .i64 (lst t).length) := by

 refine valid_of [] Tryd.func18 rfl (by kernel_rfl) ?_
 refine sr fun Z z => ?_
 have hll := lst_wt t
 simp [Tryd.f18]
 refine z _ ?_
 clear z Z
 refine sr fun Z z => ?_
 simp
 refine z _ ?_
 clear z Z
 refine AT_seq_k fun K1 hK1 => ?_
 refine sr fun Z z => ?_
 simp
 refine RVn_call (c_types_Names g false t) ?_
 simp
 refine z _ ?_
 clear z Z
 refine AT_block ?_
 refine AT_keep [3,5] [3] (by first | rfl | simp) ?_
 refine AT_rangeFunc rfl rfl (by first | rfl | simp) (by first | decide | simp) [3] (by decide) (elP ((lst t).map AV.str)) (fun _ _ => true) (feedG (fun _ _ => true) [] ((lst t).map AV.str)) (fun Y hP hgo hel => ⟨_, by have h := c_types_Names_1 g Y hP t hw [] (elOk_P hel _ _ (by simp)); rw [feed_G, hgo] at h; exact h⟩) (fun s => { n := 10, tm := [(3, .lp 3 0), (5, .v (.func 40 [.ro (encTy t)]) none)], bx := [(3, [.int .i64 s.length])], tb := [], sh := [], hint := [] }) (by first | rfl | simp) ?_ ?_
 intro s x hel
 obtain ⟨rr, hrr⟩ := hel
 have hrl := congrArg List.length hrr
 simp at hrl
 refine AT_skip ?_
 refine AT_block ?_
 refine AT_region_q fun Z z => ?_
 simp
 repeat refine sg ?_
 refine z _ ?_
 clear z Z
 refine ⟨rfl, by first | rfl | simp [tmOk], [3], by first | rfl | simp, ?_⟩
 simp [AS.out]
 intro hfin
 rw [feedG_all]
 simp
 refine hK1 _ ?_
 refine sr fun Z z => ?_
 simp
 refine z _ ?_
 clear z Z
 refine AT_ret ?_
 simp [Tryd.f18]
 skip

theorem c_types_Size (t : Ty) (hw : wt t ≤ 1099511627776) : Valid Tryd.prog (G0 g rnd) 18 [.agg (encTy t)] (.int .i64 (lst t).length) := (c_types_Size_z g t hw).gl rfl

theorem c_types_Right_z (t : Ty) (hw : wt t ≤ 1099511627776) (hres : g 0 = some reservedA) : Valid Tryd.prog (G0 g false) 20 [.agg (encTy t)] (.bool (rightT t)) := by

 refine valid_of [] Tryd.func20 rfl (by kernel_rfl) ?_
 refine sr fun Z z => ?_
 simp [Tryd.f20]
 refine z _ ?_
 clear z Z
 refine AT_seq_k fun K1 hK1 => ?_
 refine sr fun Z z => ?_
 simp
 refine RVn_call (c_types_Names g false t) ?_
 simp
 refine z _ ?_
 clear z Z
 refine AT_block ?_
 refine AT_keep [2,5] [2] (by first | rfl | simp) ?_
 refine AT_rangeFunc rfl rfl (by first | rfl | simp) (by first | decide | simp) [2] (by decide) (elP ((lst t).map AV.str)) (goN) (feedG goN [] ((lst t).map AV.str)) (fun Y hP hgo hel => ⟨_, by have h := c_types_Names_1 g Y hP t hw [] (elOk_P hel _ _ (by simp)); rw [feed_G, hgo] at h; exact h⟩) (fun s => { n := 10, tm := [(2, .lp 2 0), (5, .v (.func 40 [.ro (encTy t)]) none)], bx := [(2, [.bool false])], tb := [], sh := [], hint := [] }) (by first | rfl | simp) ?_ ?_
 intro s x hel
 obtain ⟨n, rfl, hn⟩ := elP_str hel
 refine AT_region_q fun Z z => ?_
 simp
 refine z _ ?_
 clear z Z
 refine AT_block ?_
 refine sr fun Z z => ?_
 simp
 refine RVn_call (c_name_Is g true n (rightT_len hw n hn) hres) ?_
 simp
 refine z _ ?_
 clear z Z
 refine AT_cond (g := none) rfl (fun hb9 => ?_) (fun hb9 => ?_)
 simp at hb9
 refine sr fun Z z => ?_
 simp [hb9]
 refine z _ ?_
 clear z Z
 refine AT_ret ?_
 refine ⟨by simpa [goN] using hb9, by first | rfl | simp [tmOk], [2], by first | rfl | simp, ?_⟩
 refine AT_ret ?_
 simp [Tryd.f20]
 (· have hz : rightT t = false := by rw [rightT, List.all_eq_false]; exact ⟨n, hn, by simp [hb9]⟩
    simp [hz, AS.out])
 simp at hb9
 refine AT_skip ?_
 refine ⟨by simpa [goN] using hb9, by first | rfl | simp [tmOk], [2], by first | rfl | simp, ?_⟩
 simp [AS.out]
 intro hfin
 rw [feedG_goN] at hfin
 refine hK1 _ ?_
 refine sr fun Z z => ?_
 simp
 refine z _ ?_
 clear z Z
 refine AT_ret ?_
 simp [Tryd.f20]
 (· simp [rightT, hfin])

theorem c_types_Right (t : Ty) (hw : wt t ≤ 1099511627776) (hres : g 0 = some reservedA) : Valid Tryd.prog (G0 g rnd) 20 [.agg (encTy t)] (.bool (rightT t)) := (c_types_Right_z g t hw hres).gl rfl

end Go.Proofs.YtghmdnfdocdgfaaDoor
end

section
/- Library contracts. -/
set_option linter.all false
set_option maxHeartbeats 1000000
set_option maxRecDepth 10000
namespace Go.Proofs.YtghmdnfdocdgfaaDoor
open Go Go.Pv
variable (g : Nat → Option (List AV)) (rnd : Bool)

theorem c_strings_Join (l : List Str) (sep : Str) (hn : l.length ≤ 140737488355328) (hlen : (Lib.join l sep).length ≤ 140737488355328) : Valid Tryd.prog (G0 g rnd) 36 [.slice (l.map encS), .str sep] (.str (Lib.join l sep)) :=
  join_valid (by kernel_rfl) (fun a c sep w => Tryd.strings_Join_none a c sep w) (fun bk o c xs sep w h1 h2 h3 h4 h5 => Tryd.strings_Join bk o c xs sep w h1 h2 h3 h4 h5) l sep hn hlen

end Go.Proofs.YtghmdnfdocdgfaaDoor
end

import Derived.Test.YtjkabaejabibnaaDoorPt
import Derived.Test.YtjkabaejabibnaaDoorPvPb
import Derived.Test.YtjkabaejabibnaaDoorPvY
import Derived.Test.YtjkabaejabibnaaDoorXExE
import Derived.Test.YtjkabaejabibnaaDoorXShelf
import Derived.Test.YtjkabaejabibnaaDoorXTyA
section
/- Contracts: values. -/
set_option linter.all false
set_option maxHeartbeats 1000000
set_option maxRecDepth 10000
namespace Go.Proofs.YtjkabaejabibnaaDoor
open Go Go.Pv
variable (g : Nat → Option (List AV)) (rnd : Bool)

theorem c_expr_Value_z (e : Exp) (hw : wtE e ≤ 1000000000) : Valid Tryd.prog (G0 g false) 18 [.agg (encE e)] (.bool (valE e)) := by

 refine valid_of [] Tryd.func18 rfl (by kernel_rfl) ?_
 refine sr fun Z z => ?_
 simp [Tryd.f18]
 refine z _ ?_
 clear z Z
 refine AT_seq_k fun K1 hK1 => ?_
 refine sr fun Z z => ?_
 simp
 refine RVn_call (c_expr_All g false e) ?_
 simp
 refine z _ ?_
 clear z Z
 refine AT_block ?_
 refine AT_keep [2,5] [2] (by first | rfl | simp) ?_
 refine AT_rangeFunc rfl rfl (by first | rfl | simp) (by first | decide | simp) [2] (by decide) (elP ((lstE e).map avE)) (goE (fun x => x.kind == 3)) (feedG (goE (fun x => x.kind == 3)) [] ((lstE e).map avE)) (fun Y hP hgo hel => ⟨_, by have h := c_expr_All_1 g Y hP e hw [] (elOk_P hel _ _ (by simp)); rw [feed_G, hgo] at h; exact h⟩) (fun s => { n := 10, tm := [(2, .lp 2 0), (5, .v (.func 56 [.ro (encE e)]) none)], bx := [(2, [.bool false])], tb := [], sh := [], hint := [] }) (by first | rfl | simp) ?_ ?_
 intro s x hel
 obtain ⟨x, rfl, hn⟩ := elP_exp hel
 refine AT_region_q fun Z z => ?_
 simp
 refine z _ ?_
 clear z Z
 refine AT_block ?_
 refine sr fun Z z => ?_
 simp
 refine z _ ?_
 clear z Z
 refine AT_cond (g := none) rfl (fun hb9 => ?_) (fun hb9 => ?_)
 simp at hb9
 refine sr fun Z z => ?_
 simp [hb9]
 refine z _ ?_
 clear z Z
 refine AT_ret ?_
 refine ⟨by rw [goE_at]; simpa using hb9, by first | rfl | simp [tmOk], [2], by first | rfl | simp, ?_⟩
 refine AT_ret ?_
 simp [Tryd.f18]
 (· have hz : valE e = false := by rw [valE_all, List.all_eq_false]; exact ⟨x, hn, by simpa using hb9⟩
    simp [hz, AS.out])
 simp at hb9
 refine AT_skip ?_
 refine ⟨by rw [goE_at]; simpa using hb9, by first | rfl | simp [tmOk], [2], by first | rfl | simp, ?_⟩
 simp [AS.out]
 intro hfin
 rw [feedG_goE, ← valE_all] at hfin
 refine hK1 _ ?_
 refine sr fun Z z => ?_
 simp
 refine z _ ?_
 clear z Z
 refine AT_ret ?_
 simp [Tryd.f18]
 (· simp [hfin])

theorem c_expr_Value (e : Exp) (hw : wtE e ≤ 1000000000) : Valid Tryd.prog (G0 g rnd) 18 [.agg (encE e)] (.bool (valE e)) := (c_expr_Value_z g e hw).gl rfl

end Go.Proofs.YtjkabaejabibnaaDoor
end

section
/- Library contracts. -/
set_option linter.all false
set_option maxHeartbeats 1000000
set_option maxRecDepth 10000
namespace Go.Proofs.YtjkabaejabibnaaDoor
open Go Go.Pv
variable (g : Nat → Option (List AV)) (rnd : Bool)

theorem c_strings_Join (l : List Str) (sep : Str) (hn : l.length ≤ 140737488355328) (hlen : (Lib.join l sep).length ≤ 140737488355328) : Valid Tryd.prog (G0 g rnd) 68 [.slice (l.map encS), .str sep] (.str (Lib.join l sep)) :=
  join_valid (by kernel_rfl) (fun a c sep w => Tryd.strings_Join_none a c sep w) (fun bk o c xs sep w h1 h2 h3 h4 h5 => Tryd.strings_Join bk o c xs sep w h1 h2 h3 h4 h5) l sep hn hlen

end Go.Proofs.YtjkabaejabibnaaDoor
end

section
/- Contracts. -/
set_option linter.all false
set_option maxHeartbeats 1000000
set_option maxRecDepth 10000
namespace Go.Proofs.YtjkabaejabibnaaDoor
open Go Go.Pv
variable (g : Nat → Option (List AV)) (rnd : Bool)

end Go.Proofs.YtjkabaejabibnaaDoor
end

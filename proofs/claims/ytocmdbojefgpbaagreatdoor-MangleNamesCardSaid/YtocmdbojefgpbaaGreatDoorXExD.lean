/- Contracts: types substituted, variables replaced. -/
import Derived.Test.YtocmdbojefgpbaaGreatDoorPt
import Derived.Test.YtocmdbojefgpbaaGreatDoorPvPb
import Derived.Test.YtocmdbojefgpbaaGreatDoorPvY
import Derived.Test.YtocmdbojefgpbaaGreatDoorXExA
import Derived.Test.YtocmdbojefgpbaaGreatDoorXTyI
import Derived.Test.YtocmdbojefgpbaaGreatDoorXTyI
import Derived.Test.YtocmdbojefgpbaaGreatDoorXTyL
import Derived.Test.YtocmdbojefgpbaaGreatDoorXTyL
import Derived.Test.YtocmdbojefgpbaaGreatDoorXTyL
set_option linter.all false
set_option maxHeartbeats 1000000
set_option maxRecDepth 10000
namespace Go.Proofs.YtocmdbojefgpbaaGreatDoor
open Go Go.Pv
variable (g : Nat → Option (List AV)) (rnd : Bool)

theorem c_expr_mapped (F : Exp → Exp) (fid : Nat) (caps : List AV) (hf : ∀ k n t a l p, wt t ≤ 1000000000 → wts a ≤ 1000000000 → Valid Tryz.prog (G0 g rnd) fid ([.agg (encE (.mk k n t a l p))] ++ caps) (.agg (encE (F (.mk k n t a l p))))) : ∀ e : Exp, wtE e ≤ 1000000000 → Valid Tryz.prog (G0 g rnd) 88 [.agg (encE e), .func fid caps] (.agg (encE (mapE F e))) := by
 intro e
 induction e using Exp.ind with
 | h kd n t ta l p ih =>
 intro hw
 have hw2 : n.length + 1 + wt t + wts ta + wtEs l ≤ 1000000000 := by simpa [wtE_mk] using hw
 have hln := wtEs_len l
 have hla := wts_len ta
 refine valid_of [(5, 49)] Tryz.func88 rfl (by kernel_rfl) ?_
 refine sr fun Z z => ?_
 simp [row_map, encE_take6, encE_drop7, Tryz.f88]
 refine z _ ?_
 clear z Z
 refine sr fun Z z => ?_
 simp [row_map, encE_take6, encE_drop7]
 refine z _ ?_
 clear z Z
 refine AT_seq_k fun K1 hK1 => ?_
 refine sr fun Z z => ?_
 simp [row_map, encE_take6, encE_drop7]
 repeat refine sg ?_
 refine z _ ?_
 clear z Z
 refine AT_block ?_
 refine AT_loop_q [1,2,4,5,9,10,11] [2,4] (fun j s => ∃ k, k ≤ l.length ∧ j = l.length - k ∧ s = { n := 27, tm := [(1, .v (.func fid caps) none), (2, .lp 2 0), (4, .lp 4 0), (5, .v (.slice (((l.take k).map (mapE F)).map encE)) (some (5, 49))), (9, .v (.slice (l.map encE)) none), (10, .v (.int .i64 l.length) none), (11, .v (.int .i64 k) none)], bx := [(2, encE (.mk kd n t ta l p)), (4, [.int .i64 0, .str [], .str [], .slice [], .int .i64 0, .slice [], .slice [], .int .i64 0])], tb := [], sh := [], hint := [(5, 49)] }) (l.length) (by first | rfl | simp) ?_ ?_
 exact ⟨0, by simp⟩
 rintro j s ⟨k, hk, rfl, rfl⟩ K2 hK2
 refine sr fun Z z => ?_
 simp [row_map, encE_take6, encE_drop7]
 repeat refine sg ?_
 refine z _ ?_
 clear z Z
 refine AT_seq_k fun K3 hK3 => ?_
 refine AT_cond (g := none) rfl (fun hb12 => ?_) (fun hb12 => ?_)
 try simp [row_map, encE_take6, encE_drop7] at hb12
 refine AT_skip ?_
 try simp only [nrm, reduceIte, Nat.reduceEqDiff]
 refine hK3 _ ?_
 refine AT_seq_k fun K4 hK4 => ?_
 refine AT_block ?_
 refine sr fun Z z => ?_
 simp [row_map, encE_take6, encE_drop7, hb12]
 repeat refine sg ?_
 refine z _ ?_
 clear z Z
 refine AT_region_q fun Z z => ?_
 simp [row_map, encE_take6, encE_drop7, hb12]
 repeat refine sg ?_
 refine RVn_call (ih l[k] (by simp) (by have := wtEs_mem (l := l) (e := l[k]) (by simp); omega)) ?_
 simp [row_map, encE_take6, encE_drop7, hb12]
 repeat refine sg ?_
 refine z _ ?_
 clear z Z
 try simp only [nrm, reduceIte, Nat.reduceEqDiff]
 refine hK4 _ ?_
 refine AT_region_q fun Z z => ?_
 simp [row_map, encE_take6, encE_drop7, hb12]
 repeat refine sg ?_
 refine z _ ?_
 clear z Z
 try simp only [nrm, reduceIte, Nat.reduceEqDiff]
 refine hK2 _ (by first | rfl | simp) (l.length - (k+1)) (by omega) ?_
 have hs2 := take_map_succ (encE ∘ mapE F) l k hb12
 exact ⟨k+1, by omega, by omega, by simp [hs2]⟩
 try simp [row_map, encE_take6, encE_drop7] at hb12
 refine AT_exit ?_
 try simp only [nrm, reduceIte, Nat.reduceEqDiff]
 refine hK1 _ ?_
 refine sr fun Z z => ?_
 simp [row_map, encE_take6, encE_drop7, hb12]
 repeat refine sg ?_
 refine z _ ?_
 clear z Z
 refine sr fun Z z => ?_
 try rw [List.take_of_length_le (by simpa using hb12)]
 simp [row_map, encE_take6, encE_drop7, hb12]
 repeat refine sg ?_
 refine RVn_call ((by have h := hf kd n t ta (l.map (mapE F)) p (by omega) (by omega); rw [encE_mk, List.map_map] at h; exact h)) ?_
 simp [row_map, encE_take6, encE_drop7, hb12]
 repeat refine sg ?_
 refine z _ ?_
 clear z Z
 refine AT_ret ?_
 simp [row_map, encE_take6, encE_drop7, Tryz.f88]
 rw [mapE_mk]

theorem c_expr_Subst_1 (ns : List Str) (as_ : List Ty) (hns : ns.length ≤ 1099511627776) (has : ∀ a ∈ as_, wt a ≤ 1099511627776) (hal : as_.length ≤ 1099511627776) (kd : Int) (n : Str) (t : Ty) (ta : List Ty) (l : List Exp) (p : Int) (hwt : wt t ≤ 1000000000) (hwa : wts ta ≤ 1000000000) : Valid Tryz.prog (G0 g rnd) 89 [.agg (encE (.mk kd n t ta l p)), .ro [.slice (ns.map encS)], .ro [.slice (as_.map encTy)]] (.agg (encE (subF ns as_ (.mk kd n t ta l p)))) := by
 have hla := wts_len ta
 refine valid_of [] Tryz.func89 rfl (by kernel_rfl) ?_
 refine sr fun Z z => ?_
 simp [encE_mk, encTy_def, Tryz.f89]
 refine z _ ?_
 clear z Z
 refine AT_seq_draw Pt.mixed (by kernel_rfl) fun Z z => ?_
 simp [encE_mk, encTy_def]
 repeat refine sg ?_
 refine RVdn_call ((by have h := c_types_Subst g rnd ns as_ hns has hal t (by omega); simp only [encTy_def] at h; exact h)) ?_
 simp [encE_mk, encTy_def]
 repeat refine sg ?_
 refine RVdn_call (c_types_All g rnd ta (ns.map encS) (as_.map encTy) (sub ns as_) (by omega) (fun x hx => c_types_Subst g rnd ns as_ hns has hal x (Nat.le_trans (wts_mem hx) (by omega)))) ?_
 simp [encE_mk, encTy_def]
 repeat refine sg ?_
 refine z _ ?_
 clear z Z
 refine sr fun Z z => ?_
 simp [encE_mk, encTy_def]
 repeat refine sg ?_
 refine z _ ?_
 clear z Z
 refine AT_ret ?_
 simp [encE_mk, encTy_def, Tryz.f89]
 simp [subF, encE_mk, subs_map, encTy_def]

theorem c_expr_Subst (ns : List Str) (as_ : List Ty) (hns : ns.length ≤ 1099511627776) (has : ∀ a ∈ as_, wt a ≤ 1099511627776) (hal : as_.length ≤ 1099511627776) (e : Exp) (hw : wtE e ≤ 1000000000) : Valid Tryz.prog (G0 g rnd) 66 [.agg (encE e), .slice (ns.map encS), .slice (as_.map encTy)] (.agg (encE (subE ns as_ e))) := by

 refine valid_of [(200004, 0), (200005, 0)] Tryz.func66 rfl (by kernel_rfl) ?_
 refine sr fun Z z => ?_
 simp [Tryz.f66]
 refine z _ ?_
 clear z Z
 refine sr fun Z z => ?_
 simp
 repeat refine sg ?_
 refine RVn_call ((by have h := c_expr_mapped g rnd (subF ns as_) 89 [.ro [.slice (ns.map encS)], .ro [.slice (as_.map encTy)]] (fun k n t a l p h1 h2 => c_expr_Subst_1 g rnd ns as_ hns has hal k n t a l p h1 h2) e hw; rw [mapE_sub] at h; exact h)) ?_
 simp
 repeat refine sg ?_
 refine z _ ?_
 clear z Z
 refine AT_ret ?_
 simp [Tryz.f66]

theorem c_expr_Clone (e : Exp) (hw : wtE e ≤ 1000000000) : Valid Tryz.prog (G0 g rnd) 48 [.agg (encE e)] (.agg (encE e)) := by

 refine valid_of [] Tryz.func48 rfl (by kernel_rfl) ?_
 refine sr fun Z z => ?_
 simp [Tryz.f48]
 refine z _ ?_
 clear z Z
 refine sr fun Z z => ?_
 simp
 repeat refine sg ?_
 refine RVn_call ((by have h := c_expr_Subst g rnd [] [] (by simp) (by simp) (by simp) e hw; rw [subE_nil] at h; exact h : Valid Tryz.prog (G0 g rnd) 66 [.agg (encE e), .slice [], .slice []] (.agg (encE e)))) ?_
 simp
 repeat refine sg ?_
 refine z _ ?_
 clear z Z
 refine AT_ret ?_
 simp [Tryz.f48]

end Go.Proofs.YtocmdbojefgpbaaGreatDoor

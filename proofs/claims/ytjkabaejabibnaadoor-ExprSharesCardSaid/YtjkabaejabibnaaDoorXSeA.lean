import Derived.Test.YtjkabaejabibnaaDoorPt
import Derived.Test.YtjkabaejabibnaaDoorPvPb
import Derived.Test.YtjkabaejabibnaaDoorPvY
import Derived.Test.YtjkabaejabibnaaDoorXExZ
import Derived.Test.YtjkabaejabibnaaDoorPvMf
import Derived.Test.YtjkabaejabibnaaDoorPvMe
import Derived.Test.YtjkabaejabibnaaDoorXNaC
section
/- Contracts: the reference's replacing. -/
set_option linter.all false
set_option maxHeartbeats 1000000
set_option maxRecDepth 10000
namespace Go.Proofs.YtjkabaejabibnaaDoor
open Go Go.Pv
variable (g : Nat → Option (List AV)) (rnd : Bool)

end Go.Proofs.YtjkabaejabibnaaDoor
end

section
/- Contracts: what is made of expressions is new memory. -/
set_option linter.all false
set_option maxHeartbeats 1000000
set_option maxRecDepth 10000
namespace Go.Proofs.YtjkabaejabibnaaDoor
open Go Go.Pv
variable (g : Nat → Option (List AV)) (rnd : Bool)

theorem c_expr_mapped_m (F : Exp → Exp) (fid : Nat) (caps : List AV) (hf : ∀ k n t a l p, wt t ≤ 1000000000 → wts a ≤ 1000000000 → Valid Tryd.prog (G0 g rnd) fid ([.agg [.int .i64 k, .str n, .str t.name, .slice (t.args.map encTy), .int .i64 t.pos, .slice (a.map encTy), .fr 0 27 8 (l.map (encER 24 27 0)), .int .i64 p]] ++ caps) (.agg ((encER 24 27 0) (F (.mk k n t a l p))))) : ∀ e : Exp, wtE e ≤ 1000000000 → Valid Tryd.prog (G0 g rnd) 48 [.agg (encE e), .func fid caps] (.agg ((encER 24 27 0) (mapE F e))) := by
 have hez : esz Tryd.prog 27 = 8 := by kernel_rfl
 intro e
 induction e using Exp.ind with
 | h kd n t ta l p ih =>
 intro hw
 have hw2 : n.length + 1 + wt t + wts ta + wtEs l ≤ 1000000000 := by simpa [wtE_mk] using hw
 have hln := wtEs_len l
 have hla := wts_len ta
 refine valid_of [(5, 27)] Tryd.func48 rfl (by kernel_rfl) ?_
 refine sr fun Z z => ?_
 simp [row_map, encE_take6, encE_drop7, Tryd.f48]
 refine z _ ?_
 clear z Z
 refine sr fun Z z => ?_
 simp [row_map, encE_take6, encE_drop7]
 refine z _ ?_
 clear z Z
 refine AT_seq_k fun K1 hK1 => ?_
 refine sr fun Z z => ?_
 simp [row_map, encE_take6, encE_drop7]
 refine z _ ?_
 clear z Z
 refine AT_block ?_
 refine AT_loop_q [1,2,4,5,9,10,11] [2,4] (fun j s => ∃ k, k ≤ l.length ∧ j = l.length - k ∧ s = { n := 27, tm := [(1, .v (.func fid caps) none), (2, .lp 2 0), (4, .lp 4 0), (5, .v (.slice (((l.take k).map (mapE F)).map (encER 24 27 0))) (some (5, 27))), (9, .v (.slice (l.map encE)) none), (10, .v (.int .i64 l.length) none), (11, .v (.int .i64 k) none)], bx := [(2, encE (.mk kd n t ta l p)), (4, [.int .i64 0, .str [], .str [], .slice [], .int .i64 0, .slice [], .slice [], .int .i64 0])], tb := [], sh := [], hint := [(5, 27)] }) (l.length) (by first | rfl | simp) ?_ ?_
 exact ⟨0, by simp⟩
 rintro j s ⟨k, hk, rfl, rfl⟩ K2 hK2
 refine sr fun Z z => ?_
 simp [row_map, encE_take6, encE_drop7]
 refine z _ ?_
 clear z Z
 refine AT_seq_k fun K3 hK3 => ?_
 refine AT_cond (g := none) rfl (fun hb12 => ?_) (fun hb12 => ?_)
 simp [row_map, encE_take6, encE_drop7] at hb12
 refine AT_skip ?_
 refine hK3 _ ?_
 refine AT_seq_k fun K4 hK4 => ?_
 refine AT_block ?_
 refine sr fun Z z => ?_
 simp [row_map, encE_take6, encE_drop7, hb12]
 refine z _ ?_
 clear z Z
 refine AT_region_q fun Z z => ?_
 simp [row_map, encE_take6, encE_drop7, hb12]
 refine RVn_call (ih l[k] (by simp) (by have := wtEs_mem (l := l) (e := l[k]) (by simp); omega)) ?_
 simp [row_map, encE_take6, encE_drop7, hb12]
 repeat refine sg ?_
 refine z _ ?_
 clear z Z
 refine hK4 _ ?_
 refine AT_region_q fun Z z => ?_
 simp [row_map, encE_take6, encE_drop7, hb12]
 repeat refine sg ?_
 refine z _ ?_
 clear z Z
 refine hK2 _ (by first | rfl | simp) (l.length - (k+1)) (by omega) ?_
 have hs2 := take_map_succ ((encER 24 27 0) ∘ mapE F) l k hb12
 exact ⟨k+1, by omega, by omega, by simp [hs2]⟩
 simp [row_map, encE_take6, encE_drop7] at hb12
 refine AT_exit ?_
 refine hK1 _ ?_
 refine AT_sealT 5 5 27 0 rfl (by rfl) ?_
 simp [AS.purge, hez]
 refine sr fun Z z => ?_
 simp [row_map, encE_take6, encE_drop7, hb12]
 refine z _ ?_
 clear z Z
 refine sr fun Z z => ?_
 try rw [List.take_of_length_le (by simpa using hb12)]
 simp [row_map, encE_take6, encE_drop7, hb12]
 refine RVn_call ((by have h := hf kd n t ta (l.map (mapE F)) p (by omega) (by omega); rw [List.map_map] at h; exact h)) ?_
 simp [row_map, encE_take6, encE_drop7, hb12]
 refine z _ ?_
 clear z Z
 refine AT_ret ?_
 simp [row_map, encE_take6, encE_drop7, Tryd.f48]
 rw [mapE_mk]

theorem c_expr_mapped_k (F : Exp → Exp) (fid : Nat) (caps : List AV) (hf : ∀ k n t a l p, Valid Tryd.prog (G0 g rnd) fid ([.agg ((encER 24 27 0) (.mk k n t a l p))] ++ caps) (.agg ((encER 24 27 0) (F (.mk k n t a l p))))) : ∀ e : Exp, wtE e ≤ 1000000000 → Valid Tryd.prog (G0 g rnd) 48 [.agg ((encER 24 27 0) e), .func fid caps] (.agg ((encER 24 27 0) (mapE F e))) := by
 have hez : esz Tryd.prog 27 = 8 := by kernel_rfl
 intro e
 induction e using Exp.ind with
 | h kd n t ta l p ih =>
 intro hw
 have hw2 : n.length + 1 + wt t + wts ta + wtEs l ≤ 1000000000 := by simpa [wtE_mk] using hw
 have hln := wtEs_len l
 have hla := wts_len ta
 refine valid_of [(5, 27)] Tryd.func48 rfl (by kernel_rfl) ?_
 refine sr fun Z z => ?_
 simp [row_map, encER_mk, Tryd.f48]
 refine z _ ?_
 clear z Z
 refine sr fun Z z => ?_
 simp [row_map, encER_mk]
 refine z _ ?_
 clear z Z
 refine AT_seq_k fun K1 hK1 => ?_
 refine AT_str (Gives.unfr 2 6 rfl rfl) ?_
 simp only [List.set_cons_succ, List.set_cons_zero]
 refine sr fun Z z => ?_
 simp [row_map, encER_mk]
 refine z _ ?_
 clear z Z
 refine AT_block ?_
 refine AT_loop_q [1,2,4,5,9,10,11] [2,4] (fun j s => ∃ k, k ≤ l.length ∧ j = l.length - k ∧ s = { n := 27, tm := [(1, .v (.func fid caps) none), (2, .lp 2 0), (4, .lp 4 0), (5, .v (.slice (((l.take k).map (mapE F)).map (encER 24 27 0))) (some (5, 27))), (9, .v (.slice (l.map (encER 24 27 0))) none), (10, .v (.int .i64 l.length) none), (11, .v (.int .i64 k) none)], bx := [(2, [.int .i64 kd, .str n, .str t.name, .fr 0 24 3 (t.args.map (encR 24 0)), .int .i64 t.pos, .fr 0 24 3 (ta.map (encR 24 0)), .slice (l.map (encER 24 27 0)), .int .i64 p]), (4, [.int .i64 0, .str [], .str [], .slice [], .int .i64 0, .slice [], .slice [], .int .i64 0])], tb := [], sh := [], hint := [(5, 27)] }) (l.length) (by first | rfl | simp) ?_ ?_
 exact ⟨0, by simp⟩
 rintro j s ⟨k, hk, rfl, rfl⟩ K2 hK2
 refine sr fun Z z => ?_
 simp [row_map, encER_mk]
 refine z _ ?_
 clear z Z
 refine AT_seq_k fun K3 hK3 => ?_
 refine AT_cond (g := none) rfl (fun hb12 => ?_) (fun hb12 => ?_)
 simp [row_map, encER_mk] at hb12
 refine AT_skip ?_
 refine hK3 _ ?_
 refine AT_seq_k fun K4 hK4 => ?_
 refine AT_block ?_
 refine sr fun Z z => ?_
 simp [row_map, encER_mk, hb12]
 refine z _ ?_
 clear z Z
 refine AT_region_q fun Z z => ?_
 simp [row_map, encER_mk, hb12]
 refine RVn_call (ih l[k] (by simp) (by have := wtEs_mem (l := l) (e := l[k]) (by simp); omega)) ?_
 simp [row_map, encER_mk, hb12]
 repeat refine sg ?_
 refine z _ ?_
 clear z Z
 refine hK4 _ ?_
 refine AT_region_q fun Z z => ?_
 simp [row_map, encER_mk, hb12]
 repeat refine sg ?_
 refine z _ ?_
 clear z Z
 refine hK2 _ (by first | rfl | simp) (l.length - (k+1)) (by omega) ?_
 have hs2 := take_map_succ ((encER 24 27 0) ∘ mapE F) l k hb12
 exact ⟨k+1, by omega, by omega, by simp [hs2]⟩
 simp [row_map, encER_mk] at hb12
 refine AT_exit ?_
 refine hK1 _ ?_
 refine AT_sealT 5 5 27 0 rfl (by rfl) ?_
 simp [AS.purge, hez]
 refine sr fun Z z => ?_
 simp [row_map, encER_mk, hb12]
 refine z _ ?_
 clear z Z
 refine sr fun Z z => ?_
 try rw [List.take_of_length_le (by simpa using hb12)]
 simp [row_map, encER_mk, hb12]
 refine RVn_call ((by have h := hf kd n t ta (l.map (mapE F)) p; rw [encER_mk, List.map_map] at h; exact h)) ?_
 simp [row_map, encER_mk, hb12]
 refine z _ ?_
 clear z Z
 refine AT_ret ?_
 simp [row_map, encER_mk, Tryd.f48]
 rw [mapE_mk]

theorem c_expr_Subst_1_m (ns : List Str) (as_ : List Ty) (hns : ns.length ≤ 1099511627776) (has : ∀ a ∈ as_, wt a ≤ 1099511627776) (hal : as_.length ≤ 1099511627776) (kd : Int) (n : Str) (t : Ty) (ta : List Ty) (l : List Exp) (p : Int) (hwt : wt t ≤ 1000000000) (hwa : wts ta ≤ 1000000000) : Valid Tryd.prog (G0 g rnd) 49 [.agg [.int .i64 kd, .str n, .str t.name, .slice (t.args.map encTy), .int .i64 t.pos, .slice (ta.map encTy), .fr 0 27 8 (l.map (encER 24 27 0)), .int .i64 p], .ro [.slice (ns.map encS)], .ro [.slice (as_.map encTy)]] (.agg ((encER 24 27 0) (subF ns as_ (.mk kd n t ta l p)))) := by
 have hla := wts_len ta
 refine valid_of [] Tryd.func49 rfl (by kernel_rfl) ?_
 refine sr fun Z z => ?_
 simp [encTy_def, encR_def, Tryd.f49]
 refine z _ ?_
 clear z Z
 refine AT_seq_draw Pt.mixed (by kernel_rfl) fun Z z => ?_
 simp [encTy_def, encR_def]
 refine RVdn_call ((by have h := c_types_Subst_m g rnd ns as_ hns has hal t (by omega); simp only [encTy_def, encR_def] at h; exact h)) ?_
 simp [encTy_def, encR_def]
 refine RVdn_call (c_types_All_m g rnd ta (ns.map encS) (as_.map encTy) (sub ns as_) (by omega) (fun x hx => c_types_Subst_m g rnd ns as_ hns has hal x (Nat.le_trans (wts_mem hx) (by omega)))) ?_
 simp [encTy_def, encR_def]
 refine z _ ?_
 clear z Z
 refine sr fun Z z => ?_
 simp [encTy_def, encR_def]
 refine z _ ?_
 clear z Z
 refine AT_ret ?_
 simp [encTy_def, encR_def, Tryd.f49]
 simp [subF, encER_mk, subs_map]

theorem c_expr_Subst_m (ns : List Str) (as_ : List Ty) (hns : ns.length ≤ 1099511627776) (has : ∀ a ∈ as_, wt a ≤ 1099511627776) (hal : as_.length ≤ 1099511627776) (e : Exp) (hw : wtE e ≤ 1000000000) : Valid Tryd.prog (G0 g rnd) 22 [.agg (encE e), .slice (ns.map encS), .slice (as_.map encTy)] (.agg ((encER 24 27 0) (subE ns as_ e))) := by

 refine valid_of [(200004, 0), (200005, 0)] Tryd.func22 rfl (by kernel_rfl) ?_
 refine sr fun Z z => ?_
 simp [Tryd.f22]
 refine z _ ?_
 clear z Z
 refine sr fun Z z => ?_
 simp
 refine RVn_call ((by have h := c_expr_mapped_m g rnd (subF ns as_) 49 [.ro [.slice (ns.map encS)], .ro [.slice (as_.map encTy)]] (fun k n t a l p h1 h2 => c_expr_Subst_1_m g rnd ns as_ hns has hal k n t a l p h1 h2) e hw; rw [mapE_sub] at h; exact h)) ?_
 simp
 refine z _ ?_
 clear z Z
 refine AT_ret ?_
 simp [Tryd.f22]

theorem c_expr_Clone_m (e : Exp) (hw : wtE e ≤ 1000000000) : Valid Tryd.prog (G0 g rnd) 24 [.agg (encE e)] (.agg ((encER 24 27 0) e)) := by

 refine valid_of [] Tryd.func24 rfl (by kernel_rfl) ?_
 refine sr fun Z z => ?_
 simp [Tryd.f24]
 refine z _ ?_
 clear z Z
 refine sr fun Z z => ?_
 simp
 refine RVn_call ((by have h := c_expr_Subst_m g rnd [] [] (by simp) (by simp) (by simp) e hw; rw [subE_nil] at h; exact h : Valid Tryd.prog (G0 g rnd) 22 [.agg (encE e), .slice [], .slice []] (.agg ((encER 24 27 0) e)))) ?_
 simp
 refine z _ ?_
 clear z Z
 refine AT_ret ?_
 simp [Tryd.f24]

theorem c_expr_Replace_1_m (vs : List Str) (xs : List Exp) (hvs : vs.length ≤ 1000000000) (hxs : ∀ x ∈ xs, wtE x ≤ 1000000000) (hxl : xs.length ≤ 1000000000) (kd : Int) (n : Str) (t : Ty) (ta : List Ty) (l : List Exp) (p : Int) : Valid Tryd.prog (G0 g rnd) 54 [.agg ((encER 24 27 0) (.mk kd n t ta l p)), .ro [.slice (vs.map encS)], .ro [.slice (xs.map encE)]] (.agg ((encER 24 27 0) (repF vs xs (.mk kd n t ta l p)))) := by
 obtain ⟨i, hi⟩ : ∃ i : Int, i = idxF vs n 0 := ⟨_, rfl⟩
 refine valid_of [] Tryd.func54 rfl (by kernel_rfl) ?_
 refine sr fun Z z => ?_
 simp [row_map, Tryd.f54]
 refine z _ ?_
 clear z Z
 refine sr fun Z z => ?_
 simp [row_map]
 refine RVn_call ((hi ▸ c_slices_Index_string_string g rnd vs n (by omega) : Valid Tryd.prog (G0 g rnd) 55 [.slice (vs.map encS), .str n] (.int .i64 i))) ?_
 simp [row_map]
 refine z _ ?_
 clear z Z
 refine AT_seq_k fun K1 hK1 => ?_
 cases h1 : (kd != 1)
 by_cases h2 : i < 0
 refine sr fun Z z => ?_
 simp [row_map, h1, h2]
 refine z _ ?_
 clear z Z
 refine cT (by simp [h1, h2]) ?_
 refine sr fun Z z => ?_
 simp [row_map, h1, h2]
 refine z _ ?_
 clear z Z
 refine AT_ret ?_
 simp [row_map, Tryd.f54]
 (· rw [repF, if_neg (by rintro ⟨-, h, -⟩; omega)])
 by_cases h3 : (xs.length : Int) ≤ i
 refine sr fun Z z => ?_
 simp [row_map, h1, h2, h3]
 refine z _ ?_
 clear z Z
 refine cT (by simp [h1, h2, h3]) ?_
 refine sr fun Z z => ?_
 simp [row_map, h1, h2, h3]
 refine z _ ?_
 clear z Z
 refine AT_ret ?_
 simp [row_map, Tryd.f54]
 (· rw [repF, if_neg (by rintro ⟨-, -, h⟩; omega)])
 have hin : i.toNat < xs.length := by omega
 refine sr fun Z z => ?_
 simp [row_map, h1, h2, h3, hin]
 refine z _ ?_
 clear z Z
 refine cF (by simp [h1, h2, h3, hin]) ?_
 refine AT_skip ?_
 refine hK1 _ ?_
 refine sr fun Z z => ?_
 simp [row_map, h1, h2, h3, hin]
 repeat refine sg ?_
 refine RVn_call (c_expr_Clone_m g rnd xs[i.toNat] (hxs _ (by simp))) ?_
 simp [row_map, h1, h2, h3, hin]
 refine z _ ?_
 clear z Z
 refine AT_ret ?_
 simp [row_map, Tryd.f54]
 (rw [repF, if_pos ⟨by simpa using h1, by omega, by omega⟩, ← hi]; simp [hin])
 refine sr fun Z z => ?_
 simp [row_map, h1]
 refine z _ ?_
 clear z Z
 refine cT (by simp [h1]) ?_
 refine sr fun Z z => ?_
 simp [row_map, h1]
 refine z _ ?_
 clear z Z
 refine AT_ret ?_
 simp [row_map, Tryd.f54]
 (· rw [repF, if_neg (by rintro ⟨h, -⟩; rw [h] at h1; exact absurd h1 (by decide))])

theorem c_expr_Replace_m (vs : List Str) (xs : List Exp) (hvs : vs.length ≤ 1000000000) (hxs : ∀ x ∈ xs, wtE x ≤ 1000000000) (hxl : xs.length ≤ 1000000000) (e : Exp) (hw : wtE e ≤ 1000000000) : Valid Tryd.prog (G0 g rnd) 25 [.agg (encE e), .slice (vs.map encS), .slice (xs.map encE)] (.agg ((encER 24 27 0) (repE vs xs e))) := by

 refine valid_of [(200004, 0), (200005, 0)] Tryd.func25 rfl (by kernel_rfl) ?_
 refine sr fun Z z => ?_
 simp [Tryd.f25]
 refine z _ ?_
 clear z Z
 refine sr fun Z z => ?_
 simp
 refine RVn_call (c_expr_Clone_m g rnd e hw) ?_
 simp
 refine RVn_call ((by have h := c_expr_mapped_k g rnd (repF vs xs) 54 [.ro [.slice (vs.map encS)], .ro [.slice (xs.map encE)]] (fun k n t a l p => c_expr_Replace_1_m g rnd vs xs hvs hxs hxl k n t a l p) e hw; rw [mapE_rep] at h; exact h)) ?_
 simp
 refine z _ ?_
 clear z Z
 refine AT_ret ?_
 simp [Tryd.f25]

theorem c_ref05x_Subst_m (ns : List Str) (as_ : List Ty) (hns : ns.length ≤ 1099511627776) (has : ∀ a ∈ as_, wt a ≤ 1099511627776) (hal : as_.length ≤ 1099511627776) (hnl : ns.length ≤ as_.length) : ∀ e : Exp, wtE e ≤ 1000000000 → Valid Tryd.prog (G0 g rnd) 23 [.agg (encE e), .slice (ns.map encS), .slice (as_.map encTy)] (.agg ((encER 24 27 0) (subE ns as_ e))) := by
 have hez : esz Tryd.prog 27 = 8 := by kernel_rfl
 intro e
 induction e using Exp.ind with
 | h kd n t ta l p ih =>
 intro hw
 have hw2 : n.length + 1 + wt t + wts ta + wtEs l ≤ 1000000000 := by simpa [wtE_mk] using hw
 have hln := wtEs_len l
 have hla := wts_len ta
 refine valid_of [(107006, 27)] Tryd.func23 rfl (by kernel_rfl) ?_
 refine sr fun Z z => ?_
 simp [row_map, encE_mk, encTy_def, encR_def, Tryd.f23]
 refine z _ ?_
 clear z Z
 refine AT_seq_draw_last (by exact List.cons_ne_nil _ _) true [] Pt.mixed (by kernel_rfl) (by kernel_rfl) ⟨by simp [Im, okP, AS.get, look, TV.strip], fun _ => NoC_of (by simp [isCl])⟩ fun Z z => ?_
 simp [row_map, encE_mk, encTy_def, encR_def]
 refine RVdn_call ((by have h := c_ref04x_Subst_m g rnd ns as_ hns has hal hnl t (by omega); simp only [encTy_def, encR_def] at h; exact h)) ?_
 simp [row_map, encE_mk, encTy_def, encR_def]
 refine RVdn_call (c_ref04x_All_m g rnd ta (ns.map encS) (as_.map encTy) (sub ns as_) (by omega) (fun x hx => c_ref04x_Subst_m g rnd ns as_ hns has hal hnl x (Nat.le_trans (wts_mem hx) (by omega)))) ?_
 simp [row_map, encE_mk, encTy_def, encR_def]
 refine z _ _ (Gives.refl) fun Zb zb => ?_
 simp [row_map, encE_mk, encTy_def, encR_def]
 refine zb _ ?_
 clear zb Zb
 clear z Z
 refine AT_seq_k fun K1 hK1 => ?_
 refine sr fun Z z => ?_
 simp [row_map, encE_mk, encTy_def, encR_def]
 refine z _ ?_
 clear z Z
 refine AT_block ?_
 refine AT_loop_q [1,2,3,6,7,8] [3,6,7] (fun j s => ∃ k, k ≤ l.length ∧ j = l.length - k ∧ s = { n := 47, tm := [(1, .v (.slice (ns.map encS)) none), (2, .v (.slice (as_.map encTy)) none), (3, .lp 3 0), (6, .lp 6 0), (7, .lp 7 0), (8, .v (.int .i64 k) none)], bx := [(3, encE (.mk kd n t ta l p)), (6, [.int .i64 0, .str [], .str [], .slice [], .int .i64 0, .slice [], .slice [], .int .i64 0]), (7, [.int .i64 kd, .str n, .str (sub ns as_ t).name, .fr 0 24 3 ((sub ns as_ t).args.map (encR 24 0)), .int .i64 (sub ns as_ t).pos, .fr 0 24 3 ((ta.map (sub ns as_)).map (encR 24 0)), .slice (((l.take k).map (subE ns as_)).map (encER 24 27 0)), .int .i64 p])], tb := [(7, 6, 107006, 27)], sh := [], hint := [(107006, 27)] }) (l.length) (by first | rfl | simp) ?_ ?_
 exact ⟨0, by simp [encE_mk, encTy_def]⟩
 rintro j s ⟨k, hk, rfl, rfl⟩ K2 hK2
 refine AT_seq_k fun K3 hK3 => ?_
 refine sr fun Z z => ?_
 simp [row_map, encE_mk, encTy_def, encR_def]
 refine z _ ?_
 clear z Z
 refine AT_cond (g := none) rfl (fun hb30 => ?_) (fun hb30 => ?_)
 simp [row_map, encE_mk, encTy_def, encR_def] at hb30
 refine AT_skip ?_
 refine hK3 _ ?_
 refine AT_seq_k fun K4 hK4 => ?_
 refine AT_block ?_
 refine AT_draw_q Pt.mixed (by kernel_rfl) fun Z z => ?_
 simp [row_map, encE_mk, encTy_def, encR_def, hb30]
 refine RVdn_call (ih l[k] (by simp) (by have := wtEs_mem (l := l) (e := l[k]) (by simp); omega)) ?_
 simp [row_map, encE_mk, encTy_def, encR_def, hb30]
 repeat refine sg ?_
 refine z _ ?_
 clear z Z
 refine hK4 _ ?_
 refine AT_region_q fun Z z => ?_
 simp [row_map, encE_mk, encTy_def, encR_def, hb30]
 repeat refine sg ?_
 refine z _ ?_
 clear z Z
 refine hK2 _ (by first | rfl | simp) (l.length - (k+1)) (by omega) ?_
 have hs2 := take_map_succ ((encER 24 27 0) ∘ subE ns as_) l k hb30
 exact ⟨k+1, by omega, by omega, by simp [hs2, encE_mk]⟩
 simp [row_map, encE_mk, encTy_def, encR_def] at hb30
 refine AT_exit ?_
 refine hK1 _ ?_
 refine AT_sealB 7 6 107006 27 0 rfl (by rfl) (by rfl) (by simp) ?_
 simp [AS.purge, hez]
 refine sr fun Z z => ?_
 simp [row_map, encE_mk, encTy_def, encR_def, hb30]
 refine z _ ?_
 clear z Z
 refine AT_ret ?_
 simp [row_map, encE_mk, encTy_def, encR_def, Tryd.f23]
 rw [List.take_of_length_le (by simpa using hb30), subE, encER_mk, subs_map, subEs_map]; simp

theorem c_ref05x_Subst_nm (ns : List Str) (as_ : List Ty) (hns : ns.length ≤ 1099511627776) (has : ∀ a ∈ as_, wt a ≤ 1099511627776) (hal : as_.length ≤ 1099511627776) (hnl : ns.length ≤ as_.length) (kd : Int) (n : Str) (t : Ty) (ta : List Ty) (p : Int) (hw : wt t + wts ta ≤ 1000000000) : Valid Tryd.prog (G0 g rnd) 23 [.agg (encE (.mk kd n t ta [] p)), .slice (ns.map encS), .slice (as_.map encTy)] (.agg [.int .i64 kd, .str n, .str (sub ns as_ t).name, .fr 0 24 3 ((sub ns as_ t).args.map (encR 24 0)), .int .i64 (sub ns as_ t).pos, .fr 0 24 3 ((ta.map (sub ns as_)).map (encR 24 0)), .nilS, .int .i64 p]) := by
 have hla := wts_len ta
 refine valid_of [] Tryd.func23 rfl (by kernel_rfl) ?_
 refine sr fun Z z => ?_
 simp [row_map, encE_mk, encTy_def, encR_def, Tryd.f23]
 refine z _ ?_
 clear z Z
 refine AT_seq_draw_last (by exact List.cons_ne_nil _ _) true [] Pt.mixed (by kernel_rfl) (by kernel_rfl) ⟨by simp [Im, okP, AS.get, look, TV.strip], fun _ => NoC_of (by simp [isCl])⟩ fun Z z => ?_
 simp [row_map, encE_mk, encTy_def, encR_def]
 refine RVdn_call ((by have h := c_ref04x_Subst_m g rnd ns as_ hns has hal hnl t (by omega); simp only [encTy_def, encR_def] at h; exact h)) ?_
 simp [row_map, encE_mk, encTy_def, encR_def]
 refine RVdn_call (c_ref04x_All_m g rnd ta (ns.map encS) (as_.map encTy) (sub ns as_) (by omega) (fun x hx => c_ref04x_Subst_m g rnd ns as_ hns has hal hnl x (Nat.le_trans (wts_mem hx) (by omega)))) ?_
 simp [row_map, encE_mk, encTy_def, encR_def]
 refine z _ _ (Gives.nilled 25 rfl) fun Zb zb => ?_
 simp [row_map, encE_mk, encTy_def, encR_def]
 refine zb _ ?_
 clear zb Zb
 clear z Z
 refine AT_seq_k fun K1 hK1 => ?_
 refine sr fun Z z => ?_
 simp [row_map, encE_mk, encTy_def, encR_def]
 refine z _ ?_
 clear z Z
 refine AT_block ?_
 refine AT_loop_q [1,2,3,6,7,8] [3,6,7] (fun j s => ∃ (u : Unit), j = 0 ∧ s = { n := 47, tm := [(1, .v (.slice (ns.map encS)) none), (2, .v (.slice (as_.map encTy)) none), (3, .lp 3 0), (6, .lp 6 0), (7, .lp 7 0), (8, .v (.int .i64 0) none)], bx := [(3, encE (.mk kd n t ta [] p)), (6, [.int .i64 0, .str [], .str [], .slice [], .int .i64 0, .slice [], .slice [], .int .i64 0]), (7, [.int .i64 kd, .str n, .str (sub ns as_ t).name, .fr 0 24 3 ((sub ns as_ t).args.map (encR 24 0)), .int .i64 (sub ns as_ t).pos, .fr 0 24 3 ((ta.map (sub ns as_)).map (encR 24 0)), .nilS, .int .i64 p])], tb := [], sh := [], hint := [] }) (0) (by first | rfl | simp) ?_ ?_
 exact ⟨(), rfl, by simp [encE_mk, encTy_def]⟩
 rintro j s ⟨u, rfl, rfl⟩ K2 hK2
 refine AT_seq_k fun K3 hK3 => ?_
 refine sr fun Z z => ?_
 simp [row_map, encE_mk, encTy_def, encR_def]
 refine z _ ?_
 clear z Z
 refine cF (by simp) ?_
 refine AT_exit ?_
 refine hK1 _ ?_
 refine sr fun Z z => ?_
 simp [row_map, encE_mk, encTy_def, encR_def]
 refine z _ ?_
 clear z Z
 refine AT_ret ?_
 simp [row_map, encE_mk, encTy_def, encR_def, Tryd.f23]

theorem c_ref05x_Replace_m (vs : List Str) (xs : List Exp) (hvs : vs.length ≤ 1000000000) (hxs : ∀ x ∈ xs, wtE x ≤ 1000000000) (hxl : xs.length ≤ 1000000000) : ∀ e : Exp, wtE e ≤ 1000000000 → Valid Tryd.prog (G0 g rnd) 26 [.agg (encE e), .slice (vs.map encS), .slice (xs.map encE)] (.agg ((encER 24 27 0) (repE vs xs e))) := by
 have hez : esz Tryd.prog 27 = 8 := by kernel_rfl
 intro e
 induction e using Exp.ind with
 | h kd n t ta l p ih =>
 intro hw
 have hw2 : n.length + 1 + wt t + wts ta + wtEs l ≤ 1000000000 := by simpa [wtE_mk] using hw
 have hln := wtEs_len l
 have hla := wts_len ta
 refine valid_of [(108006, 27)] Tryd.func26 rfl (by kernel_rfl) ?_
 refine sr fun Z z => ?_
 simp [row_map, encE_mk, encTy_def, encS, Tryd.f26]
 refine z _ ?_
 clear z Z
 refine AT_seq_k fun K1 hK1 => ?_
 refine sr fun Z z => ?_
 simp [row_map, encE_mk, encTy_def, encS]
 refine z _ ?_
 clear z Z
 refine AT_block ?_
 refine AT_loop_q [1,2,3,6,7] [3,6] (fun j s => ∃ k, k ≤ vs.length ∧ idxF vs n 0 = idxF (vs.drop k) n k ∧ j = vs.length - k ∧ s = { n := 79, tm := [(1, .v (.slice (vs.map encS)) none), (2, .v (.slice (xs.map encE)) none), (3, .lp 3 0), (6, .lp 6 0), (7, .v (.int .i64 k) none)], bx := [(3, encE (.mk kd n t ta l p)), (6, [.int .i64 0, .str [], .str [], .slice [], .int .i64 0, .slice [], .slice [], .int .i64 0])], tb := [], sh := [], hint := [(108006, 27)] }) (vs.length) (by first | rfl | simp) ?_ ?_
 exact ⟨0, by simp, by simp, by simp, by simp [encE_mk, encTy_def]⟩
 rintro j s ⟨k, hk, hc, rfl, rfl⟩ K2 hK2
 refine AT_seq_k fun K3 hK3 => ?_
 by_cases hkv : k < vs.length
 by_cases hk1 : kd = 1
 have hk1b : (kd == 1) = true := by simpa using hk1
 by_cases heq : vs[k] = n
 have hid : idxF vs n 0 = k := by rw [hc, List.drop_eq_getElem_cons hkv, idxF, if_pos heq.symm]
 by_cases hkx : k < xs.length
 refine sr fun Z z => ?_
 simp [row_map, encE_mk, encTy_def, encS, hkv, hk1b, heq, hkx]
 refine z _ ?_
 clear z Z
 refine cT (by simp [hkv, hk1b, heq, hkx]) ?_
 refine AT_skip ?_
 refine hK3 _ ?_
 refine AT_seq_k fun K4 hK4 => ?_
 refine AT_block ?_
 refine AT_seq_k fun K5 hK5 => ?_
 refine AT_seq_draw Pt.mixed (by kernel_rfl) fun Z z => ?_
 simp [row_map, encE_mk, encTy_def, encS, hkv, hk1b, heq, hkx]
 refine z _ ?_
 clear z Z
 refine cT (by simp [hkv, hk1b, heq, hkx]) ?_
 refine sr fun Z z => ?_
 simp [row_map, encE_mk, encTy_def, encS, hkv, hk1b, heq, hkx]
 refine RVn_call ((by have h := c_ref05x_Subst_m g rnd [] [] (by simp) (by simp) (by simp) (by simp) xs[k] (hxs _ (by simp)); rw [subE_nil] at h; exact h)) ?_
 simp [row_map, encE_mk, encTy_def, encS, hkv, hk1b, heq, hkx]
 refine z _ ?_
 clear z Z
 refine AT_ret ?_
 simp [row_map, encE_mk, encTy_def, encS, Tryd.f26]
 (· rw [repE, if_pos (by omega), hid]; simp [hkx])
 have hno : ¬ (kd = 1 ∧ 0 ≤ idxF vs n 0 ∧ idxF vs n 0 < xs.length) := by omega
 refine sr fun Z z => ?_
 simp [row_map, encE_mk, encTy_def, encS, hkv, hk1b, heq, hkx]
 refine z _ ?_
 clear z Z
 refine cT (by simp [hkv, hk1b, heq, hkx]) ?_
 refine AT_skip ?_
 refine hK3 _ ?_
 refine AT_seq_k fun K6 hK6 => ?_
 refine AT_block ?_
 refine AT_seq_k fun K7 hK7 => ?_
 refine AT_seq_draw Pt.mixed (by kernel_rfl) fun Z z => ?_
 simp [row_map, encE_mk, encTy_def, encS, hkv, hk1b, heq, hkx]
 refine z _ ?_
 clear z Z
 refine cF (by simp [hkv, hk1b, heq, hkx]) ?_
 refine AT_skip ?_
 refine hK7 _ ?_
 refine AT_seq_draw Pt.mixed (by kernel_rfl) fun Z z => ?_
 simp [row_map, encE_mk, encTy_def, encS, hkv, hk1b, heq, hkx]
 refine z _ ?_
 clear z Z
 refine cT (by simp [hkv, hk1b, heq, hkx]) ?_
 refine AT_exit ?_
 refine hK1 _ ?_
 refine sr fun Z z => ?_
 simp [row_map, encE_mk, encTy_def, encS, hkv, hk1b, heq, hkx]
 refine RVn_call ((by have h := c_ref05x_Subst_nm g rnd [] [] (by simp) (by simp) (by simp) (by simp) kd n t ta p (by omega); simp only [sub_nil, show ta.map (sub [] []) = ta by rw [← subs_map]; exact subs_nil ta, encE_mk, List.map_nil] at h; exact h)) ?_
 simp [row_map, encE_mk, encTy_def, encS, hkv, hk1b, heq, hkx]
 refine z _ ?_
 clear z Z
 refine AT_seq_k fun K8 hK8 => ?_
 refine sr fun Z z => ?_
 simp [row_map, encE_mk, encTy_def, encS, hkv, hk1b, heq, hkx]
 refine z _ ?_
 clear z Z
 refine AT_block ?_
 refine AT_str (Gives.openN 8 6 27 rfl rfl (by simp)) ?_
 simp only [List.set_cons_succ, List.set_cons_zero]
 refine AT_loop_q [1,2,3,6,8,9] [3,6,8] (fun j s => ∃ k, k ≤ l.length ∧ j = l.length - k ∧ s = { n := 79, tm := [(1, .v (.slice (vs.map encS)) none), (2, .v (.slice (xs.map encE)) none), (3, .lp 3 0), (6, .lp 6 0), (8, .lp 8 0), (9, .v (.int .i64 k) none)], bx := [(3, encE (.mk kd n t ta l p)), (6, [.int .i64 0, .str [], .str [], .slice [], .int .i64 0, .slice [], .slice [], .int .i64 0]), (8, [.int .i64 kd, .str n, .str t.name, .fr 0 24 3 (t.args.map (encR 24 0)), .int .i64 t.pos, .fr 0 24 3 (ta.map (encR 24 0)), .slice (((l.take k).map (repE vs xs)).map (encER 24 27 0)), .int .i64 p])], tb := [(8, 6, 108006, 27)], sh := [], hint := [(108006, 27)] }) (l.length) (by first | rfl | simp) ?_ ?_
 exact ⟨0, by simp [encE_mk, encTy_def]⟩
 rintro j s ⟨k, hk, rfl, rfl⟩ K9 hK9
 refine AT_seq_k fun K10 hK10 => ?_
 refine sr fun Z z => ?_
 simp [row_map, encE_mk, encTy_def, encS, hkv, hk1b, heq, hkx]
 refine z _ ?_
 clear z Z
 refine AT_cond (g := none) rfl (fun hb62 => ?_) (fun hb62 => ?_)
 simp [row_map, encE_mk, encTy_def, encS, hkv, hk1b, heq, hkx] at hb62
 refine AT_skip ?_
 refine hK10 _ ?_
 refine AT_seq_k fun K11 hK11 => ?_
 refine AT_block ?_
 refine AT_draw_q Pt.mixed (by kernel_rfl) fun Z z => ?_
 simp [row_map, encE_mk, encTy_def, encS, hkv, hk1b, heq, hkx, hb62]
 refine RVdn_call (ih l[k] (by simp) (by have := wtEs_mem (l := l) (e := l[k]) (by simp); omega)) ?_
 simp [row_map, encE_mk, encTy_def, encS, hkv, hk1b, heq, hkx, hb62]
 repeat refine sg ?_
 refine z _ ?_
 clear z Z
 refine hK11 _ ?_
 refine AT_region_q fun Z z => ?_
 simp [row_map, encE_mk, encTy_def, encS, hkv, hk1b, heq, hkx, hb62]
 repeat refine sg ?_
 refine z _ ?_
 clear z Z
 refine hK9 _ (by first | rfl | simp) (l.length - (k+1)) (by omega) ?_
 have hs2 := take_map_succ ((encER 24 27 0) ∘ repE vs xs) l k hb62
 exact ⟨k+1, by omega, by omega, by simp [hs2, encE_mk]⟩
 simp [row_map, encE_mk, encTy_def, encS, hkv, hk1b, heq, hkx] at hb62
 refine AT_exit ?_
 refine hK8 _ ?_
 refine AT_sealB 8 6 108006 27 0 rfl (by rfl) (by rfl) (by simp) ?_
 simp [AS.purge, hez]
 refine sr fun Z z => ?_
 simp [row_map, encE_mk, encTy_def, encS, hkv, hk1b, heq, hkx, hb62]
 refine z _ ?_
 clear z Z
 refine AT_ret ?_
 simp [row_map, encE_mk, encTy_def, encS, Tryd.f26]
 (· rw [List.take_of_length_le (by simpa using hb62), repE, if_neg hno, encER_mk, repEs_map]; simp)
 have heqb : (vs[k] == n) = false := by simpa using heq
 refine sr fun Z z => ?_
 simp [row_map, encE_mk, encTy_def, encS, hkv, hk1b, heqb]
 refine z _ ?_
 clear z Z
 refine cT (by simp [hkv, hk1b, heqb]) ?_
 refine AT_skip ?_
 refine hK3 _ ?_
 refine AT_seq_k fun K12 hK12 => ?_
 refine AT_block ?_
 refine AT_seq_k fun K13 hK13 => ?_
 refine AT_seq_draw Pt.mixed (by kernel_rfl) fun Z z => ?_
 simp [row_map, encE_mk, encTy_def, encS, hkv, hk1b, heqb]
 refine z _ ?_
 clear z Z
 refine cF (by simp [hkv, hk1b, heqb]) ?_
 refine AT_skip ?_
 refine hK13 _ ?_
 refine AT_seq_draw Pt.mixed (by kernel_rfl) fun Z z => ?_
 simp [row_map, encE_mk, encTy_def, encS, hkv, hk1b, heqb]
 refine z _ ?_
 clear z Z
 refine cF (by simp [hkv, hk1b, heqb]) ?_
 refine AT_skip ?_
 refine hK12 _ ?_
 refine AT_region_q fun Z z => ?_
 simp [row_map, encE_mk, encTy_def, encS, hkv, hk1b, heqb]
 repeat refine sg ?_
 refine z _ ?_
 clear z Z
 refine hK2 _ (by first | rfl | simp) (vs.length - (k+1)) (by omega) ?_
 refine ⟨k+1, by omega, ?_, by omega, by simp [encE_mk, encTy_def]⟩
 rw [hc, List.drop_eq_getElem_cons hkv, idxF, if_neg (fun h => heq h.symm)]
 have hk1b : (kd == 1) = false := by simpa using hk1
 have hno : ¬ (kd = 1 ∧ 0 ≤ idxF vs n 0 ∧ idxF vs n 0 < xs.length) := fun h => hk1 h.1
 refine sr fun Z z => ?_
 simp [row_map, encE_mk, encTy_def, encS, hkv, hk1b]
 refine z _ ?_
 clear z Z
 refine cF (by simp [hkv, hk1b]) ?_
 refine AT_exit ?_
 refine hK1 _ ?_
 refine sr fun Z z => ?_
 simp [row_map, encE_mk, encTy_def, encS, hkv, hk1b]
 refine RVn_call ((by have h := c_ref05x_Subst_nm g rnd [] [] (by simp) (by simp) (by simp) (by simp) kd n t ta p (by omega); simp only [sub_nil, show ta.map (sub [] []) = ta by rw [← subs_map]; exact subs_nil ta, encE_mk, List.map_nil] at h; exact h)) ?_
 simp [row_map, encE_mk, encTy_def, encS, hkv, hk1b]
 refine z _ ?_
 clear z Z
 refine AT_seq_k fun K14 hK14 => ?_
 refine sr fun Z z => ?_
 simp [row_map, encE_mk, encTy_def, encS, hkv, hk1b]
 refine z _ ?_
 clear z Z
 refine AT_block ?_
 refine AT_str (Gives.openN 8 6 27 rfl rfl (by simp)) ?_
 simp only [List.set_cons_succ, List.set_cons_zero]
 refine AT_loop_q [1,2,3,6,8,9] [3,6,8] (fun j s => ∃ k, k ≤ l.length ∧ j = l.length - k ∧ s = { n := 79, tm := [(1, .v (.slice (vs.map encS)) none), (2, .v (.slice (xs.map encE)) none), (3, .lp 3 0), (6, .lp 6 0), (8, .lp 8 0), (9, .v (.int .i64 k) none)], bx := [(3, encE (.mk kd n t ta l p)), (6, [.int .i64 0, .str [], .str [], .slice [], .int .i64 0, .slice [], .slice [], .int .i64 0]), (8, [.int .i64 kd, .str n, .str t.name, .fr 0 24 3 (t.args.map (encR 24 0)), .int .i64 t.pos, .fr 0 24 3 (ta.map (encR 24 0)), .slice (((l.take k).map (repE vs xs)).map (encER 24 27 0)), .int .i64 p])], tb := [(8, 6, 108006, 27)], sh := [], hint := [(108006, 27)] }) (l.length) (by first | rfl | simp) ?_ ?_
 exact ⟨0, by simp [encE_mk, encTy_def]⟩
 rintro j s ⟨k, hk, rfl, rfl⟩ K15 hK15
 refine AT_seq_k fun K16 hK16 => ?_
 refine sr fun Z z => ?_
 simp [row_map, encE_mk, encTy_def, encS, hkv, hk1b]
 refine z _ ?_
 clear z Z
 refine AT_cond (g := none) rfl (fun hb62 => ?_) (fun hb62 => ?_)
 simp [row_map, encE_mk, encTy_def, encS, hkv, hk1b] at hb62
 refine AT_skip ?_
 refine hK16 _ ?_
 refine AT_seq_k fun K17 hK17 => ?_
 refine AT_block ?_
 refine AT_draw_q Pt.mixed (by kernel_rfl) fun Z z => ?_
 simp [row_map, encE_mk, encTy_def, encS, hkv, hk1b, hb62]
 refine RVdn_call (ih l[k] (by simp) (by have := wtEs_mem (l := l) (e := l[k]) (by simp); omega)) ?_
 simp [row_map, encE_mk, encTy_def, encS, hkv, hk1b, hb62]
 repeat refine sg ?_
 refine z _ ?_
 clear z Z
 refine hK17 _ ?_
 refine AT_region_q fun Z z => ?_
 simp [row_map, encE_mk, encTy_def, encS, hkv, hk1b, hb62]
 repeat refine sg ?_
 refine z _ ?_
 clear z Z
 refine hK15 _ (by first | rfl | simp) (l.length - (k+1)) (by omega) ?_
 have hs2 := take_map_succ ((encER 24 27 0) ∘ repE vs xs) l k hb62
 exact ⟨k+1, by omega, by omega, by simp [hs2, encE_mk]⟩
 simp [row_map, encE_mk, encTy_def, encS, hkv, hk1b] at hb62
 refine AT_exit ?_
 refine hK14 _ ?_
 refine AT_sealB 8 6 108006 27 0 rfl (by rfl) (by rfl) (by simp) ?_
 simp [AS.purge, hez]
 refine sr fun Z z => ?_
 simp [row_map, encE_mk, encTy_def, encS, hkv, hk1b, hb62]
 refine z _ ?_
 clear z Z
 refine AT_ret ?_
 simp [row_map, encE_mk, encTy_def, encS, Tryd.f26]
 (· rw [List.take_of_length_le (by simpa using hb62), repE, if_neg hno, encER_mk, repEs_map]; simp)
 have hno : ¬ (kd = 1 ∧ 0 ≤ idxF vs n 0 ∧ idxF vs n 0 < xs.length) := by
   rw [hc, List.drop_eq_nil_of_le (by omega)]; simp [idxF]
 refine sr fun Z z => ?_
 simp [row_map, encE_mk, encTy_def, encS, hkv]
 refine z _ ?_
 clear z Z
 refine cF (by simp [hkv]) ?_
 refine AT_exit ?_
 refine hK1 _ ?_
 refine sr fun Z z => ?_
 simp [row_map, encE_mk, encTy_def, encS, hkv]
 refine RVn_call ((by have h := c_ref05x_Subst_nm g rnd [] [] (by simp) (by simp) (by simp) (by simp) kd n t ta p (by omega); simp only [sub_nil, show ta.map (sub [] []) = ta by rw [← subs_map]; exact subs_nil ta, encE_mk, List.map_nil] at h; exact h)) ?_
 simp [row_map, encE_mk, encTy_def, encS, hkv]
 refine z _ ?_
 clear z Z
 refine AT_seq_k fun K18 hK18 => ?_
 refine sr fun Z z => ?_
 simp [row_map, encE_mk, encTy_def, encS, hkv]
 refine z _ ?_
 clear z Z
 refine AT_block ?_
 refine AT_str (Gives.openN 8 6 27 rfl rfl (by simp)) ?_
 simp only [List.set_cons_succ, List.set_cons_zero]
 refine AT_loop_q [1,2,3,6,8,9] [3,6,8] (fun j s => ∃ k, k ≤ l.length ∧ j = l.length - k ∧ s = { n := 79, tm := [(1, .v (.slice (vs.map encS)) none), (2, .v (.slice (xs.map encE)) none), (3, .lp 3 0), (6, .lp 6 0), (8, .lp 8 0), (9, .v (.int .i64 k) none)], bx := [(3, encE (.mk kd n t ta l p)), (6, [.int .i64 0, .str [], .str [], .slice [], .int .i64 0, .slice [], .slice [], .int .i64 0]), (8, [.int .i64 kd, .str n, .str t.name, .fr 0 24 3 (t.args.map (encR 24 0)), .int .i64 t.pos, .fr 0 24 3 (ta.map (encR 24 0)), .slice (((l.take k).map (repE vs xs)).map (encER 24 27 0)), .int .i64 p])], tb := [(8, 6, 108006, 27)], sh := [], hint := [(108006, 27)] }) (l.length) (by first | rfl | simp) ?_ ?_
 exact ⟨0, by simp [encE_mk, encTy_def]⟩
 rintro j s ⟨k, hk, rfl, rfl⟩ K19 hK19
 refine AT_seq_k fun K20 hK20 => ?_
 refine sr fun Z z => ?_
 simp [row_map, encE_mk, encTy_def, encS, hkv]
 refine z _ ?_
 clear z Z
 refine AT_cond (g := none) rfl (fun hb62 => ?_) (fun hb62 => ?_)
 simp [row_map, encE_mk, encTy_def, encS, hkv] at hb62
 refine AT_skip ?_
 refine hK20 _ ?_
 refine AT_seq_k fun K21 hK21 => ?_
 refine AT_block ?_
 refine AT_draw_q Pt.mixed (by kernel_rfl) fun Z z => ?_
 simp [row_map, encE_mk, encTy_def, encS, hkv, hb62]
 refine RVdn_call (ih l[k] (by simp) (by have := wtEs_mem (l := l) (e := l[k]) (by simp); omega)) ?_
 simp [row_map, encE_mk, encTy_def, encS, hkv, hb62]
 repeat refine sg ?_
 refine z _ ?_
 clear z Z
 refine hK21 _ ?_
 refine AT_region_q fun Z z => ?_
 simp [row_map, encE_mk, encTy_def, encS, hkv, hb62]
 repeat refine sg ?_
 refine z _ ?_
 clear z Z
 refine hK19 _ (by first | rfl | simp) (l.length - (k+1)) (by omega) ?_
 have hs2 := take_map_succ ((encER 24 27 0) ∘ repE vs xs) l k hb62
 exact ⟨k+1, by omega, by omega, by simp [hs2, encE_mk]⟩
 simp [row_map, encE_mk, encTy_def, encS, hkv] at hb62
 refine AT_exit ?_
 refine hK18 _ ?_
 refine AT_sealB 8 6 108006 27 0 rfl (by rfl) (by rfl) (by simp) ?_
 simp [AS.purge, hez]
 refine sr fun Z z => ?_
 simp [row_map, encE_mk, encTy_def, encS, hkv, hb62]
 refine z _ ?_
 clear z Z
 refine AT_ret ?_
 simp [row_map, encE_mk, encTy_def, encS, Tryd.f26]
 (· rw [List.take_of_length_le (by simpa using hb62), repE, if_neg hno, encER_mk, repEs_map]; simp)

end Go.Proofs.YtjkabaejabibnaaDoor
end

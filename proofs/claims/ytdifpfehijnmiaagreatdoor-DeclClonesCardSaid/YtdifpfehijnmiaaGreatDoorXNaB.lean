import Derived.Test.YtdifpfehijnmiaaGreatDoorPt
import Derived.Test.YtdifpfehijnmiaaGreatDoorPvPb
import Derived.Test.YtdifpfehijnmiaaGreatDoorPvY
import Derived.Test.YtdifpfehijnmiaaGreatDoorPvMf
import Derived.Test.YtdifpfehijnmiaaGreatDoorPvMe
import Derived.Test.YtdifpfehijnmiaaGreatDoorXTyE
import Derived.Test.YtdifpfehijnmiaaGreatDoorXExD
import Derived.Test.YtdifpfehijnmiaaGreatDoorXTyI
section
/- Contracts: what is made of expressions is new memory. -/
set_option linter.all false
set_option maxHeartbeats 1000000
set_option maxRecDepth 10000
namespace Go.Proofs.YtdifpfehijnmiaaGreatDoor
open Go Go.Pv
variable (g : Nat → Option (List AV)) (rnd : Bool)

theorem c_expr_mapped_m (F : Exp → Exp) (fid : Nat) (caps : List AV) (hf : ∀ k n t a l p, wt t ≤ 1000000000 → wts a ≤ 1000000000 → Valid Tryz.prog (G0 g rnd) fid ([.agg [.int .i64 k, .str n, .str t.name, .slice (t.args.map encTy), .int .i64 t.pos, .slice (a.map encTy), .fr 0 33 8 (l.map (encER 28 33 0)), .int .i64 p]] ++ caps) (.agg ((encER 28 33 0) (F (.mk k n t a l p))))) : ∀ e : Exp, wtE e ≤ 1000000000 → Valid Tryz.prog (G0 g rnd) 141 [.agg (encE e), .func fid caps] (.agg ((encER 28 33 0) (mapE F e))) := by
 have hez : esz Tryz.prog 33 = 8 := by kernel_rfl
 intro e
 induction e using Exp.ind with
 | h kd n t ta l p ih =>
 intro hw
 have hw2 : n.length + 1 + wt t + wts ta + wtEs l ≤ 1000000000 := by simpa [wtE_mk] using hw
 have hln := wtEs_len l
 have hla := wts_len ta
 refine valid_of [(5, 33)] Tryz.func141 rfl (by kernel_rfl) ?_
 refine sr fun Z z => ?_
 simp [row_map, encE_take6, encE_drop7, Tryz.f141]
 refine z _ ?_
 clear z Z
 refine sr fun Z z => ?_
 simp [row_map, encE_take6, encE_drop7]
 refine z _ ?_
 clear z Z
 refine AT_seq_k fun K1 hK1 => ?_
 refine sr fun Z z => ?_
 simp [row_map, encE_take6, encE_drop7]
 refine z _ ?_
 clear z Z
 refine AT_block ?_
 refine AT_loop_q [1,2,4,5,9,10,11] [2,4] (fun j s => ∃ k, k ≤ l.length ∧ j = l.length - k ∧ s = { n := 27, tm := [(1, .v (.func fid caps) none), (2, .lp 2 0), (4, .lp 4 0), (5, .v (.slice (((l.take k).map (mapE F)).map (encER 28 33 0))) (some (5, 33))), (9, .v (.slice (l.map encE)) none), (10, .v (.int .i64 l.length) none), (11, .v (.int .i64 k) none)], bx := [(2, encE (.mk kd n t ta l p)), (4, [.int .i64 0, .str [], .str [], .slice [], .int .i64 0, .slice [], .slice [], .int .i64 0])], tb := [], sh := [], hint := [(5, 33)] }) (l.length) (by first | rfl | simp) ?_ ?_
 exact ⟨0, by simp⟩
 rintro j s ⟨k, hk, rfl, rfl⟩ K2 hK2
 refine sr fun Z z => ?_
 simp [row_map, encE_take6, encE_drop7]
 refine z _ ?_
 clear z Z
 refine AT_seq_k fun K3 hK3 => ?_
 refine AT_cond (g := none) rfl (fun hb12 => ?_) (fun hb12 => ?_)
 simp [row_map, encE_take6, encE_drop7] at hb12
 refine AT_skip ?_
 refine hK3 _ ?_
 refine AT_seq_k fun K4 hK4 => ?_
 refine AT_block ?_
 refine sr fun Z z => ?_
 simp [row_map, encE_take6, encE_drop7, hb12]
 refine z _ ?_
 clear z Z
 refine AT_region_q fun Z z => ?_
 simp [row_map, encE_take6, encE_drop7, hb12]
 refine RVn_call (ih l[k] (by simp) (by have := wtEs_mem (l := l) (e := l[k]) (by simp); omega)) ?_
 simp [row_map, encE_take6, encE_drop7, hb12]
 repeat refine sg ?_
 refine z _ ?_
 clear z Z
 refine hK4 _ ?_
 refine AT_region_q fun Z z => ?_
 simp [row_map, encE_take6, encE_drop7, hb12]
 repeat refine sg ?_
 refine z _ ?_
 clear z Z
 refine hK2 _ (by first | rfl | simp) (l.length - (k+1)) (by omega) ?_
 have hs2 := take_map_succ ((encER 28 33 0) ∘ mapE F) l k hb12
 exact ⟨k+1, by omega, by omega, by simp [hs2]⟩
 simp [row_map, encE_take6, encE_drop7] at hb12
 refine AT_exit ?_
 refine hK1 _ ?_
 refine AT_sealT 5 5 33 0 rfl (by rfl) ?_
 simp [AS.purge, hez]
 refine sr fun Z z => ?_
 simp [row_map, encE_take6, encE_drop7, hb12]
 refine z _ ?_
 clear z Z
 refine sr fun Z z => ?_
 try rw [List.take_of_length_le (by simpa using hb12)]
 simp [row_map, encE_take6, encE_drop7, hb12]
 refine RVn_call ((by have h := hf kd n t ta (l.map (mapE F)) p (by omega) (by omega); rw [List.map_map] at h; exact h)) ?_
 simp [row_map, encE_take6, encE_drop7, hb12]
 refine z _ ?_
 clear z Z
 refine AT_ret ?_
 simp [row_map, encE_take6, encE_drop7, Tryz.f141]
 rw [mapE_mk]

theorem c_expr_Subst_1_m (ns : List Str) (as_ : List Ty) (hns : ns.length ≤ 1099511627776) (has : ∀ a ∈ as_, wt a ≤ 1099511627776) (hal : as_.length ≤ 1099511627776) (kd : Int) (n : Str) (t : Ty) (ta : List Ty) (l : List Exp) (p : Int) (hwt : wt t ≤ 1000000000) (hwa : wts ta ≤ 1000000000) : Valid Tryz.prog (G0 g rnd) 142 [.agg [.int .i64 kd, .str n, .str t.name, .slice (t.args.map encTy), .int .i64 t.pos, .slice (ta.map encTy), .fr 0 33 8 (l.map (encER 28 33 0)), .int .i64 p], .ro [.slice (ns.map encS)], .ro [.slice (as_.map encTy)]] (.agg ((encER 28 33 0) (subF ns as_ (.mk kd n t ta l p)))) := by
 have hla := wts_len ta
 refine valid_of [] Tryz.func142 rfl (by kernel_rfl) ?_
 refine sr fun Z z => ?_
 simp [encTy_def, encR_def, Tryz.f142]
 refine z _ ?_
 clear z Z
 refine AT_seq_draw Pt.mixed (by kernel_rfl) fun Z z => ?_
 simp [encTy_def, encR_def]
 refine RVdn_call ((by have h := c_types_Subst_m g rnd ns as_ hns has hal t (by omega); simp only [encTy_def, encR_def] at h; exact h)) ?_
 simp [encTy_def, encR_def]
 refine RVdn_call (c_types_All_m g rnd ta (ns.map encS) (as_.map encTy) (sub ns as_) (by omega) (fun x hx => c_types_Subst_m g rnd ns as_ hns has hal x (Nat.le_trans (wts_mem hx) (by omega)))) ?_
 simp [encTy_def, encR_def]
 refine z _ ?_
 clear z Z
 refine sr fun Z z => ?_
 simp [encTy_def, encR_def]
 refine z _ ?_
 clear z Z
 refine AT_ret ?_
 simp [encTy_def, encR_def, Tryz.f142]
 simp [subF, encER_mk, subs_map]

theorem c_expr_Subst_m (ns : List Str) (as_ : List Ty) (hns : ns.length ≤ 1099511627776) (has : ∀ a ∈ as_, wt a ≤ 1099511627776) (hal : as_.length ≤ 1099511627776) (e : Exp) (hw : wtE e ≤ 1000000000) : Valid Tryz.prog (G0 g rnd) 119 [.agg (encE e), .slice (ns.map encS), .slice (as_.map encTy)] (.agg ((encER 28 33 0) (subE ns as_ e))) := by

 refine valid_of [(200004, 0), (200005, 0)] Tryz.func119 rfl (by kernel_rfl) ?_
 refine sr fun Z z => ?_
 simp [Tryz.f119]
 refine z _ ?_
 clear z Z
 refine sr fun Z z => ?_
 simp
 refine RVn_call ((by have h := c_expr_mapped_m g rnd (subF ns as_) 142 [.ro [.slice (ns.map encS)], .ro [.slice (as_.map encTy)]] (fun k n t a l p h1 h2 => c_expr_Subst_1_m g rnd ns as_ hns has hal k n t a l p h1 h2) e hw; rw [mapE_sub] at h; exact h)) ?_
 simp
 refine z _ ?_
 clear z Z
 refine AT_ret ?_
 simp [Tryz.f119]

theorem c_expr_Clone_m (e : Exp) (hw : wtE e ≤ 1000000000) : Valid Tryz.prog (G0 g rnd) 76 [.agg (encE e)] (.agg ((encER 28 33 0) e)) := by

 refine valid_of [] Tryz.func76 rfl (by kernel_rfl) ?_
 refine sr fun Z z => ?_
 simp [Tryz.f76]
 refine z _ ?_
 clear z Z
 refine sr fun Z z => ?_
 simp
 refine RVn_call ((by have h := c_expr_Subst_m g rnd [] [] (by simp) (by simp) (by simp) e hw; rw [subE_nil] at h; exact h : Valid Tryz.prog (G0 g rnd) 119 [.agg (encE e), .slice [], .slice []] (.agg ((encER 28 33 0) e)))) ?_
 simp
 refine z _ ?_
 clear z Z
 refine AT_ret ?_
 simp [Tryz.f76]

end Go.Proofs.YtdifpfehijnmiaaGreatDoor
end

section
/- Contracts. -/
set_option linter.all false
set_option maxHeartbeats 1000000
set_option maxRecDepth 10000
namespace Go.Proofs.YtdifpfehijnmiaaGreatDoor
open Go Go.Pv
variable (g : Nat → Option (List AV)) (rnd : Bool)

theorem c_name_Class (n : Int) : Valid Tryz.prog (G0 g rnd) 83 [.int .u8 n] (.int .i64 (clsI n)) := by

 refine valid_of [] Tryz.func83 rfl (by kernel_rfl) ?_
 rcases cls_cases n with hc | hc | hc | hc | hc | hc | hc | hc | hc | hc | hc | hc
 have f0 : 97 ≤ n := by omega
 have f1 : n ≤ 122 := by omega
 have f2 : 65 ≤ n := by omega
 have f3 : ¬ n ≤ 90 := by omega
 have f4 : 48 ≤ n := by omega
 have f5 : ¬ n ≤ 57 := by omega
 have e0 : (n == 95) = false := by simp; omega
 have e1 : (n == 9) = false := by simp; omega
 have e2 : (n == 10) = false := by simp; omega
 have e3 : (n == 13) = false := by simp; omega
 have e4 : (n == 32) = false := by simp; omega
 refine sr fun Z z => ?_
 simp [Tryz.f83, f0, f1, f2, f3, f4, f5, e0, e1, e2, e3, e4]
 refine z _ ?_
 clear z Z
 refine AT_seq_k fun K1 hK1 => ?_
 refine AT_block ?_
 refine AT_seq_k fun K2 hK2 => ?_
 refine sr fun Z z => ?_
 simp [f0, f1, f2, f3, f4, f5, e0, e1, e2, e3, e4]
 refine z _ ?_
 clear z Z
 refine cT (by simp [f0, f1, f2, f3, f4, f5, e0, e1, e2, e3, e4]) ?_
 refine AT_skip ?_
 refine hK2 _ ?_
 refine cT (by simp [f0, f1, f2, f3, f4, f5, e0, e1, e2, e3, e4]) ?_
 refine sr fun Z z => ?_
 simp [f0, f1, f2, f3, f4, f5, e0, e1, e2, e3, e4]
 refine z _ ?_
 clear z Z
 refine AT_ret ?_
 simp [Tryz.f83]
 first | (· unfold clsI; repeat (first | omega | split)) | decide
 have f0 : ¬ 97 ≤ n := by omega
 have f1 : n ≤ 122 := by omega
 have f2 : 65 ≤ n := by omega
 have f3 : n ≤ 90 := by omega
 have f4 : 48 ≤ n := by omega
 have f5 : ¬ n ≤ 57 := by omega
 have e0 : (n == 95) = false := by simp; omega
 have e1 : (n == 9) = false := by simp; omega
 have e2 : (n == 10) = false := by simp; omega
 have e3 : (n == 13) = false := by simp; omega
 have e4 : (n == 32) = false := by simp; omega
 refine sr fun Z z => ?_
 simp [f0, f1, f2, f3, f4, f5, e0, e1, e2, e3, e4]
 refine z _ ?_
 clear z Z
 refine AT_seq_k fun K3 hK3 => ?_
 refine AT_block ?_
 refine AT_seq_k fun K4 hK4 => ?_
 refine sr fun Z z => ?_
 simp [f0, f1, f2, f3, f4, f5, e0, e1, e2, e3, e4]
 refine z _ ?_
 clear z Z
 refine cF (by simp [f0, f1, f2, f3, f4, f5, e0, e1, e2, e3, e4]) ?_
 refine AT_region_q fun Z z => ?_
 simp [f0, f1, f2, f3, f4, f5, e0, e1, e2, e3, e4]
 refine z _ ?_
 clear z Z
 refine hK4 _ ?_
 refine cT (by simp [f0, f1, f2, f3, f4, f5, e0, e1, e2, e3, e4]) ?_
 refine sr fun Z z => ?_
 simp [f0, f1, f2, f3, f4, f5, e0, e1, e2, e3, e4]
 refine z _ ?_
 clear z Z
 refine AT_ret ?_
 simp [Tryz.f83]
 first | (· unfold clsI; repeat (first | omega | split)) | decide
 have f0 : ¬ 97 ≤ n := by omega
 have f1 : n ≤ 122 := by omega
 have f2 : ¬ 65 ≤ n := by omega
 have f3 : n ≤ 90 := by omega
 have f4 : 48 ≤ n := by omega
 have f5 : n ≤ 57 := by omega
 have e0 : (n == 95) = false := by simp; omega
 have e1 : (n == 9) = false := by simp; omega
 have e2 : (n == 10) = false := by simp; omega
 have e3 : (n == 13) = false := by simp; omega
 have e4 : (n == 32) = false := by simp; omega
 refine sr fun Z z => ?_
 simp [f0, f1, f2, f3, f4, f5, e0, e1, e2, e3, e4]
 refine z _ ?_
 clear z Z
 refine AT_seq_k fun K5 hK5 => ?_
 refine AT_block ?_
 refine AT_seq_k fun K6 hK6 => ?_
 refine sr fun Z z => ?_
 simp [f0, f1, f2, f3, f4, f5, e0, e1, e2, e3, e4]
 refine z _ ?_
 clear z Z
 refine cF (by simp [f0, f1, f2, f3, f4, f5, e0, e1, e2, e3, e4]) ?_
 refine AT_region_q fun Z z => ?_
 simp [f0, f1, f2, f3, f4, f5, e0, e1, e2, e3, e4]
 refine z _ ?_
 clear z Z
 refine hK6 _ ?_
 refine cF (by simp [f0, f1, f2, f3, f4, f5, e0, e1, e2, e3, e4]) ?_
 refine sr fun Z z => ?_
 simp [f0, f1, f2, f3, f4, f5, e0, e1, e2, e3, e4]
 refine z _ ?_
 clear z Z
 refine cT (by simp [f0, f1, f2, f3, f4, f5, e0, e1, e2, e3, e4]) ?_
 refine sr fun Z z => ?_
 simp [f0, f1, f2, f3, f4, f5, e0, e1, e2, e3, e4]
 refine z _ ?_
 clear z Z
 refine AT_ret ?_
 simp [Tryz.f83]
 first | (· unfold clsI; repeat (first | omega | split)) | decide
 subst hc
 refine sr fun Z z => ?_
 simp
 refine z _ ?_
 clear z Z
 refine AT_seq_k fun K7 hK7 => ?_
 refine AT_block ?_
 refine AT_seq_k fun K8 hK8 => ?_
 refine sr fun Z z => ?_
 simp
 refine z _ ?_
 clear z Z
 refine cF (by simp) ?_
 refine AT_region_q fun Z z => ?_
 simp
 refine z _ ?_
 clear z Z
 refine hK8 _ ?_
 refine cF (by simp) ?_
 refine sr fun Z z => ?_
 simp
 refine z _ ?_
 clear z Z
 refine cF (by simp) ?_
 refine sr fun Z z => ?_
 simp
 refine z _ ?_
 clear z Z
 refine cT (by simp) ?_
 refine sr fun Z z => ?_
 simp
 refine z _ ?_
 clear z Z
 refine AT_ret ?_
 simp [Tryz.f83]
 first | (· unfold clsI; repeat (first | omega | split)) | decide
 subst hc
 refine sr fun Z z => ?_
 simp
 refine z _ ?_
 clear z Z
 refine AT_seq_k fun K9 hK9 => ?_
 refine AT_block ?_
 refine AT_seq_k fun K10 hK10 => ?_
 refine sr fun Z z => ?_
 simp
 refine z _ ?_
 clear z Z
 refine cF (by simp) ?_
 refine AT_region_q fun Z z => ?_
 simp
 refine z _ ?_
 clear z Z
 refine hK10 _ ?_
 refine cF (by simp) ?_
 refine sr fun Z z => ?_
 simp
 refine z _ ?_
 clear z Z
 refine cF (by simp) ?_
 refine sr fun Z z => ?_
 simp
 refine z _ ?_
 clear z Z
 refine cF (by simp) ?_
 refine AT_seq_k fun K11 hK11 => ?_
 refine sr fun Z z => ?_
 simp
 refine z _ ?_
 clear z Z
 refine cT (by simp) ?_
 refine AT_skip ?_
 refine hK11 _ ?_
 refine cT (by simp) ?_
 refine sr fun Z z => ?_
 simp
 refine z _ ?_
 clear z Z
 refine AT_ret ?_
 simp [Tryz.f83]
 first | (· unfold clsI; repeat (first | omega | split)) | decide
 subst hc
 refine sr fun Z z => ?_
 simp
 refine z _ ?_
 clear z Z
 refine AT_seq_k fun K12 hK12 => ?_
 refine AT_block ?_
 refine AT_seq_k fun K13 hK13 => ?_
 refine sr fun Z z => ?_
 simp
 refine z _ ?_
 clear z Z
 refine cF (by simp) ?_
 refine AT_region_q fun Z z => ?_
 simp
 refine z _ ?_
 clear z Z
 refine hK13 _ ?_
 refine cF (by simp) ?_
 refine sr fun Z z => ?_
 simp
 refine z _ ?_
 clear z Z
 refine cF (by simp) ?_
 refine sr fun Z z => ?_
 simp
 refine z _ ?_
 clear z Z
 refine cF (by simp) ?_
 refine AT_seq_k fun K14 hK14 => ?_
 refine sr fun Z z => ?_
 simp
 refine z _ ?_
 clear z Z
 refine cF (by simp) ?_
 refine sr fun Z z => ?_
 simp
 refine z _ ?_
 clear z Z
 refine cT (by simp) ?_
 refine AT_skip ?_
 refine hK14 _ ?_
 refine cT (by simp) ?_
 refine sr fun Z z => ?_
 simp
 refine z _ ?_
 clear z Z
 refine AT_ret ?_
 simp [Tryz.f83]
 first | (· unfold clsI; repeat (first | omega | split)) | decide
 subst hc
 refine sr fun Z z => ?_
 simp
 refine z _ ?_
 clear z Z
 refine AT_seq_k fun K15 hK15 => ?_
 refine AT_block ?_
 refine AT_seq_k fun K16 hK16 => ?_
 refine sr fun Z z => ?_
 simp
 refine z _ ?_
 clear z Z
 refine cF (by simp) ?_
 refine AT_region_q fun Z z => ?_
 simp
 refine z _ ?_
 clear z Z
 refine hK16 _ ?_
 refine cF (by simp) ?_
 refine sr fun Z z => ?_
 simp
 refine z _ ?_
 clear z Z
 refine cF (by simp) ?_
 refine sr fun Z z => ?_
 simp
 refine z _ ?_
 clear z Z
 refine cF (by simp) ?_
 refine AT_seq_k fun K17 hK17 => ?_
 refine sr fun Z z => ?_
 simp
 refine z _ ?_
 clear z Z
 refine cF (by simp) ?_
 refine sr fun Z z => ?_
 simp
 refine z _ ?_
 clear z Z
 refine cF (by simp) ?_
 refine sr fun Z z => ?_
 simp
 refine z _ ?_
 clear z Z
 refine cT (by simp) ?_
 refine AT_skip ?_
 refine hK17 _ ?_
 refine cT (by simp) ?_
 refine sr fun Z z => ?_
 simp
 refine z _ ?_
 clear z Z
 refine AT_ret ?_
 simp [Tryz.f83]
 first | (· unfold clsI; repeat (first | omega | split)) | decide
 subst hc
 refine sr fun Z z => ?_
 simp
 refine z _ ?_
 clear z Z
 refine AT_seq_k fun K18 hK18 => ?_
 refine AT_block ?_
 refine AT_seq_k fun K19 hK19 => ?_
 refine sr fun Z z => ?_
 simp
 refine z _ ?_
 clear z Z
 refine cF (by simp) ?_
 refine AT_region_q fun Z z => ?_
 simp
 refine z _ ?_
 clear z Z
 refine hK19 _ ?_
 refine cF (by simp) ?_
 refine sr fun Z z => ?_
 simp
 refine z _ ?_
 clear z Z
 refine cF (by simp) ?_
 refine sr fun Z z => ?_
 simp
 refine z _ ?_
 clear z Z
 refine cF (by simp) ?_
 refine AT_seq_k fun K20 hK20 => ?_
 refine sr fun Z z => ?_
 simp
 refine z _ ?_
 clear z Z
 refine cF (by simp) ?_
 refine sr fun Z z => ?_
 simp
 refine z _ ?_
 clear z Z
 refine cF (by simp) ?_
 refine sr fun Z z => ?_
 simp
 refine z _ ?_
 clear z Z
 refine cF (by simp) ?_
 refine AT_region_q fun Z z => ?_
 simp
 refine z _ ?_
 clear z Z
 refine hK20 _ ?_
 refine cT (by simp) ?_
 refine sr fun Z z => ?_
 simp
 refine z _ ?_
 clear z Z
 refine AT_ret ?_
 simp [Tryz.f83]
 first | (· unfold clsI; repeat (first | omega | split)) | decide
 have f0 : 97 ≤ n := by omega
 have f1 : ¬ n ≤ 122 := by omega
 have f2 : 65 ≤ n := by omega
 have f3 : ¬ n ≤ 90 := by omega
 have f4 : 48 ≤ n := by omega
 have f5 : ¬ n ≤ 57 := by omega
 have e0 : (n == 95) = false := by simp; omega
 have e1 : (n == 9) = false := by simp; omega
 have e2 : (n == 10) = false := by simp; omega
 have e3 : (n == 13) = false := by simp; omega
 have e4 : (n == 32) = false := by simp; omega
 refine sr fun Z z => ?_
 simp [f0, f1, f2, f3, f4, f5, e0, e1, e2, e3, e4]
 refine z _ ?_
 clear z Z
 refine AT_seq_k fun K21 hK21 => ?_
 refine AT_block ?_
 refine AT_seq_k fun K22 hK22 => ?_
 refine sr fun Z z => ?_
 simp [f0, f1, f2, f3, f4, f5, e0, e1, e2, e3, e4]
 refine z _ ?_
 clear z Z
 refine cF (by simp [f0, f1, f2, f3, f4, f5, e0, e1, e2, e3, e4]) ?_
 refine AT_region_q fun Z z => ?_
 simp [f0, f1, f2, f3, f4, f5, e0, e1, e2, e3, e4]
 refine z _ ?_
 clear z Z
 refine hK22 _ ?_
 refine cF (by simp [f0, f1, f2, f3, f4, f5, e0, e1, e2, e3, e4]) ?_
 refine sr fun Z z => ?_
 simp [f0, f1, f2, f3, f4, f5, e0, e1, e2, e3, e4]
 refine z _ ?_
 clear z Z
 refine cF (by simp [f0, f1, f2, f3, f4, f5, e0, e1, e2, e3, e4]) ?_
 refine sr fun Z z => ?_
 simp [f0, f1, f2, f3, f4, f5, e0, e1, e2, e3, e4]
 refine z _ ?_
 clear z Z
 refine cF (by simp [f0, f1, f2, f3, f4, f5, e0, e1, e2, e3, e4]) ?_
 refine AT_seq_k fun K23 hK23 => ?_
 refine sr fun Z z => ?_
 simp [f0, f1, f2, f3, f4, f5, e0, e1, e2, e3, e4]
 refine z _ ?_
 clear z Z
 refine cF (by simp [f0, f1, f2, f3, f4, f5, e0, e1, e2, e3, e4]) ?_
 refine sr fun Z z => ?_
 simp [f0, f1, f2, f3, f4, f5, e0, e1, e2, e3, e4]
 refine z _ ?_
 clear z Z
 refine cF (by simp [f0, f1, f2, f3, f4, f5, e0, e1, e2, e3, e4]) ?_
 refine sr fun Z z => ?_
 simp [f0, f1, f2, f3, f4, f5, e0, e1, e2, e3, e4]
 refine z _ ?_
 clear z Z
 refine cF (by simp [f0, f1, f2, f3, f4, f5, e0, e1, e2, e3, e4]) ?_
 refine AT_region_q fun Z z => ?_
 simp [f0, f1, f2, f3, f4, f5, e0, e1, e2, e3, e4]
 refine z _ ?_
 clear z Z
 refine hK23 _ ?_
 refine cF (by simp [f0, f1, f2, f3, f4, f5, e0, e1, e2, e3, e4]) ?_
 refine AT_skip ?_
 refine hK21 _ ?_
 refine sr fun Z z => ?_
 simp [f0, f1, f2, f3, f4, f5, e0, e1, e2, e3, e4]
 refine z _ ?_
 clear z Z
 refine AT_ret ?_
 simp [Tryz.f83]
 first | (· unfold clsI; repeat (first | omega | split)) | decide
 have f0 : ¬ 97 ≤ n := by omega
 have f1 : n ≤ 122 := by omega
 have f2 : 65 ≤ n := by omega
 have f3 : ¬ n ≤ 90 := by omega
 have f4 : 48 ≤ n := by omega
 have f5 : ¬ n ≤ 57 := by omega
 have e0 : (n == 95) = false := by simp; omega
 have e1 : (n == 9) = false := by simp; omega
 have e2 : (n == 10) = false := by simp; omega
 have e3 : (n == 13) = false := by simp; omega
 have e4 : (n == 32) = false := by simp; omega
 refine sr fun Z z => ?_
 simp [f0, f1, f2, f3, f4, f5, e0, e1, e2, e3, e4]
 refine z _ ?_
 clear z Z
 refine AT_seq_k fun K24 hK24 => ?_
 refine AT_block ?_
 refine AT_seq_k fun K25 hK25 => ?_
 refine sr fun Z z => ?_
 simp [f0, f1, f2, f3, f4, f5, e0, e1, e2, e3, e4]
 refine z _ ?_
 clear z Z
 refine cF (by simp [f0, f1, f2, f3, f4, f5, e0, e1, e2, e3, e4]) ?_
 refine AT_region_q fun Z z => ?_
 simp [f0, f1, f2, f3, f4, f5, e0, e1, e2, e3, e4]
 refine z _ ?_
 clear z Z
 refine hK25 _ ?_
 refine cF (by simp [f0, f1, f2, f3, f4, f5, e0, e1, e2, e3, e4]) ?_
 refine sr fun Z z => ?_
 simp [f0, f1, f2, f3, f4, f5, e0, e1, e2, e3, e4]
 refine z _ ?_
 clear z Z
 refine cF (by simp [f0, f1, f2, f3, f4, f5, e0, e1, e2, e3, e4]) ?_
 refine sr fun Z z => ?_
 simp [f0, f1, f2, f3, f4, f5, e0, e1, e2, e3, e4]
 refine z _ ?_
 clear z Z
 refine cF (by simp [f0, f1, f2, f3, f4, f5, e0, e1, e2, e3, e4]) ?_
 refine AT_seq_k fun K26 hK26 => ?_
 refine sr fun Z z => ?_
 simp [f0, f1, f2, f3, f4, f5, e0, e1, e2, e3, e4]
 refine z _ ?_
 clear z Z
 refine cF (by simp [f0, f1, f2, f3, f4, f5, e0, e1, e2, e3, e4]) ?_
 refine sr fun Z z => ?_
 simp [f0, f1, f2, f3, f4, f5, e0, e1, e2, e3, e4]
 refine z _ ?_
 clear z Z
 refine cF (by simp [f0, f1, f2, f3, f4, f5, e0, e1, e2, e3, e4]) ?_
 refine sr fun Z z => ?_
 simp [f0, f1, f2, f3, f4, f5, e0, e1, e2, e3, e4]
 refine z _ ?_
 clear z Z
 refine cF (by simp [f0, f1, f2, f3, f4, f5, e0, e1, e2, e3, e4]) ?_
 refine AT_region_q fun Z z => ?_
 simp [f0, f1, f2, f3, f4, f5, e0, e1, e2, e3, e4]
 refine z _ ?_
 clear z Z
 refine hK26 _ ?_
 refine cF (by simp [f0, f1, f2, f3, f4, f5, e0, e1, e2, e3, e4]) ?_
 refine AT_skip ?_
 refine hK24 _ ?_
 refine sr fun Z z => ?_
 simp [f0, f1, f2, f3, f4, f5, e0, e1, e2, e3, e4]
 refine z _ ?_
 clear z Z
 refine AT_ret ?_
 simp [Tryz.f83]
 first | (· unfold clsI; repeat (first | omega | split)) | decide
 have f0 : ¬ 97 ≤ n := by omega
 have f1 : n ≤ 122 := by omega
 have f2 : ¬ 65 ≤ n := by omega
 have f3 : n ≤ 90 := by omega
 have f4 : 48 ≤ n := by omega
 have f5 : ¬ n ≤ 57 := by omega
 have e0 : (n == 95) = false := by simp; omega
 have e1 : (n == 9) = false := by simp; omega
 have e2 : (n == 10) = false := by simp; omega
 have e3 : (n == 13) = false := by simp; omega
 have e4 : (n == 32) = false := by simp; omega
 refine sr fun Z z => ?_
 simp [f0, f1, f2, f3, f4, f5, e0, e1, e2, e3, e4]
 refine z _ ?_
 clear z Z
 refine AT_seq_k fun K27 hK27 => ?_
 refine AT_block ?_
 refine AT_seq_k fun K28 hK28 => ?_
 refine sr fun Z z => ?_
 simp [f0, f1, f2, f3, f4, f5, e0, e1, e2, e3, e4]
 refine z _ ?_
 clear z Z
 refine cF (by simp [f0, f1, f2, f3, f4, f5, e0, e1, e2, e3, e4]) ?_
 refine AT_region_q fun Z z => ?_
 simp [f0, f1, f2, f3, f4, f5, e0, e1, e2, e3, e4]
 refine z _ ?_
 clear z Z
 refine hK28 _ ?_
 refine cF (by simp [f0, f1, f2, f3, f4, f5, e0, e1, e2, e3, e4]) ?_
 refine sr fun Z z => ?_
 simp [f0, f1, f2, f3, f4, f5, e0, e1, e2, e3, e4]
 refine z _ ?_
 clear z Z
 refine cF (by simp [f0, f1, f2, f3, f4, f5, e0, e1, e2, e3, e4]) ?_
 refine sr fun Z z => ?_
 simp [f0, f1, f2, f3, f4, f5, e0, e1, e2, e3, e4]
 refine z _ ?_
 clear z Z
 refine cF (by simp [f0, f1, f2, f3, f4, f5, e0, e1, e2, e3, e4]) ?_
 refine AT_seq_k fun K29 hK29 => ?_
 refine sr fun Z z => ?_
 simp [f0, f1, f2, f3, f4, f5, e0, e1, e2, e3, e4]
 refine z _ ?_
 clear z Z
 refine cF (by simp [f0, f1, f2, f3, f4, f5, e0, e1, e2, e3, e4]) ?_
 refine sr fun Z z => ?_
 simp [f0, f1, f2, f3, f4, f5, e0, e1, e2, e3, e4]
 refine z _ ?_
 clear z Z
 refine cF (by simp [f0, f1, f2, f3, f4, f5, e0, e1, e2, e3, e4]) ?_
 refine sr fun Z z => ?_
 simp [f0, f1, f2, f3, f4, f5, e0, e1, e2, e3, e4]
 refine z _ ?_
 clear z Z
 refine cF (by simp [f0, f1, f2, f3, f4, f5, e0, e1, e2, e3, e4]) ?_
 refine AT_region_q fun Z z => ?_
 simp [f0, f1, f2, f3, f4, f5, e0, e1, e2, e3, e4]
 refine z _ ?_
 clear z Z
 refine hK29 _ ?_
 refine cF (by simp [f0, f1, f2, f3, f4, f5, e0, e1, e2, e3, e4]) ?_
 refine AT_skip ?_
 refine hK27 _ ?_
 refine sr fun Z z => ?_
 simp [f0, f1, f2, f3, f4, f5, e0, e1, e2, e3, e4]
 refine z _ ?_
 clear z Z
 refine AT_ret ?_
 simp [Tryz.f83]
 first | (· unfold clsI; repeat (first | omega | split)) | decide
 have f0 : ¬ 97 ≤ n := by omega
 have f1 : n ≤ 122 := by omega
 have f2 : ¬ 65 ≤ n := by omega
 have f3 : n ≤ 90 := by omega
 have f4 : ¬ 48 ≤ n := by omega
 have f5 : n ≤ 57 := by omega
 have e0 : (n == 95) = false := by simp; omega
 have e1 : (n == 9) = false := by simp; omega
 have e2 : (n == 10) = false := by simp; omega
 have e3 : (n == 13) = false := by simp; omega
 have e4 : (n == 32) = false := by simp; omega
 refine sr fun Z z => ?_
 simp [f0, f1, f2, f3, f4, f5, e0, e1, e2, e3, e4]
 refine z _ ?_
 clear z Z
 refine AT_seq_k fun K30 hK30 => ?_
 refine AT_block ?_
 refine AT_seq_k fun K31 hK31 => ?_
 refine sr fun Z z => ?_
 simp [f0, f1, f2, f3, f4, f5, e0, e1, e2, e3, e4]
 refine z _ ?_
 clear z Z
 refine cF (by simp [f0, f1, f2, f3, f4, f5, e0, e1, e2, e3, e4]) ?_
 refine AT_region_q fun Z z => ?_
 simp [f0, f1, f2, f3, f4, f5, e0, e1, e2, e3, e4]
 refine z _ ?_
 clear z Z
 refine hK31 _ ?_
 refine cF (by simp [f0, f1, f2, f3, f4, f5, e0, e1, e2, e3, e4]) ?_
 refine sr fun Z z => ?_
 simp [f0, f1, f2, f3, f4, f5, e0, e1, e2, e3, e4]
 refine z _ ?_
 clear z Z
 refine cF (by simp [f0, f1, f2, f3, f4, f5, e0, e1, e2, e3, e4]) ?_
 refine sr fun Z z => ?_
 simp [f0, f1, f2, f3, f4, f5, e0, e1, e2, e3, e4]
 refine z _ ?_
 clear z Z
 refine cF (by simp [f0, f1, f2, f3, f4, f5, e0, e1, e2, e3, e4]) ?_
 refine AT_seq_k fun K32 hK32 => ?_
 refine sr fun Z z => ?_
 simp [f0, f1, f2, f3, f4, f5, e0, e1, e2, e3, e4]
 refine z _ ?_
 clear z Z
 refine cF (by simp [f0, f1, f2, f3, f4, f5, e0, e1, e2, e3, e4]) ?_
 refine sr fun Z z => ?_
 simp [f0, f1, f2, f3, f4, f5, e0, e1, e2, e3, e4]
 refine z _ ?_
 clear z Z
 refine cF (by simp [f0, f1, f2, f3, f4, f5, e0, e1, e2, e3, e4]) ?_
 refine sr fun Z z => ?_
 simp [f0, f1, f2, f3, f4, f5, e0, e1, e2, e3, e4]
 refine z _ ?_
 clear z Z
 refine cF (by simp [f0, f1, f2, f3, f4, f5, e0, e1, e2, e3, e4]) ?_
 refine AT_region_q fun Z z => ?_
 simp [f0, f1, f2, f3, f4, f5, e0, e1, e2, e3, e4]
 refine z _ ?_
 clear z Z
 refine hK32 _ ?_
 refine cF (by simp [f0, f1, f2, f3, f4, f5, e0, e1, e2, e3, e4]) ?_
 refine AT_skip ?_
 refine hK30 _ ?_
 refine sr fun Z z => ?_
 simp [f0, f1, f2, f3, f4, f5, e0, e1, e2, e3, e4]
 refine z _ ?_
 clear z Z
 refine AT_ret ?_
 simp [Tryz.f83]
 first | (· unfold clsI; repeat (first | omega | split)) | decide

end Go.Proofs.YtdifpfehijnmiaaGreatDoor
end

section
/- Contracts. -/
set_option linter.all false
set_option maxHeartbeats 1000000
set_option maxRecDepth 10000
namespace Go.Proofs.YtdifpfehijnmiaaGreatDoor
open Go Go.Pv
variable (g : Nat → Option (List AV)) (rnd : Bool)

theorem c_name_Is_1 (n : Int) (h0 : 0 ≤ n) : Valid Tryz.prog (G0 g rnd) 82 [.int .i32 n] (.bool (wrR n)) := by

 refine valid_of [] Tryz.func82 rfl (by kernel_rfl) ?_
 by_cases h127 : 127 < n
 refine sr fun Z z => ?_
 simp [Tryz.f82, h127]
 refine z _ ?_
 clear z Z
 refine sr fun Z z => ?_
 simp [h127]
 refine z _ ?_
 clear z Z
 refine AT_ret ?_
 simp [Tryz.f82]
 simp [wrR, *]
 have hw : IntKind.u8.wrap n = n := by rw [IntKind.wrap_u8]; omega
 by_cases h1 : clsI n < 1
 refine sr fun Z z => ?_
 simp [h127, hw, h1]
 refine z _ ?_
 clear z Z
 refine sr fun Z z => ?_
 simp [h127, hw, h1]
 refine RVn_call (c_name_Class g rnd n) ?_
 simp [h127, hw, h1]
 repeat refine sg ?_
 refine z _ ?_
 clear z Z
 refine AT_ret ?_
 simp [Tryz.f82]
 simp [wrR, *]
 refine sr fun Z z => ?_
 simp [h127, hw, h1]
 refine z _ ?_
 clear z Z
 refine sr fun Z z => ?_
 simp [h127, hw, h1]
 refine RVn_call (c_name_Class g rnd n) ?_
 simp [h127, hw, h1]
 repeat refine sg ?_
 refine RVn_call (c_name_Class g rnd n) ?_
 simp [h127, hw, h1]
 repeat refine sg ?_
 refine z _ ?_
 clear z Z
 refine AT_ret ?_
 simp [Tryz.f82]
 simp [wrR, *]

theorem c_strings_indexFunc (s : Str) (hs : s.length ≤ 1099511627776) : Valid Tryz.prog (G0 g rnd) 143 [.str s, .func 82 [], .bool true] (.int .i64 (badI s 0)) := by

 refine valid_of [] Tryz.func143 rfl (by kernel_rfl) ?_
 refine sr fun Z z => ?_
 simp [Tryz.f143]
 refine z _ ?_
 clear z Z
 refine AT_seq_k fun K1 hK1 => ?_
 refine sr fun Z z => ?_
 simp
 refine z _ ?_
 clear z Z
 refine AT_block ?_
 refine AT_loop_q [1,2,10] [] (fun j st => ∃ k, k ≤ s.length ∧ badI s 0 = badI (s.drop k) k ∧ j = s.length - k ∧ st = { n := 21, tm := [(1, .v (.func 82 []) none), (2, .v (.bool true) none), (10, .it (.str s k))], bx := [], tb := [], sh := [], hint := [] }) (s.length) (by first | rfl | simp) ?_ ?_
 exact ⟨0, by simp⟩
 rintro j st ⟨k, hk, hc, rfl, rfl⟩ K2 hK2
 by_cases hk2 : k < s.length
 have hbd := badI_drop s k k hk2
 by_cases hgb : goodB s[k] = true
 have hda := dec_ascii s k hk2 (good_ascii hgb)
 have hwr := good_wr hgb
 refine sr fun Z z => ?_
 simp [hk2, hda, hwr]
 refine z _ ?_
 clear z Z
 refine AT_seq_k fun K3 hK3 => ?_
 refine cT (by simp [hk2, hda, hwr]) ?_
 refine AT_skip ?_
 refine hK3 _ ?_
 refine AT_block ?_
 refine sr fun Z z => ?_
 simp [hk2, hda, hwr]
 refine z _ ?_
 clear z Z
 refine sr fun Z z => ?_
 simp [hk2, hda, hwr]
 refine RVn_call (c_name_Is_1 g rnd _ (by omega)) ?_
 simp [hk2, hda, hwr]
 refine z _ ?_
 clear z Z
 refine cF (by simp [hk2, hda, hwr]) ?_
 refine AT_skip ?_
 refine hK2 _ (by first | rfl | simp) (s.length - (k+1)) (by omega) ?_
 refine ⟨k+1, by omega, ?_, by omega, by simp⟩
 rw [hc, hbd, if_pos hgb]
 obtain ⟨rr, qq, hda, hwr⟩ := dec_bad s k hk2 (by simpa using hgb)
 refine sr fun Z z => ?_
 simp [hk2, hda, hwr]
 refine z _ ?_
 clear z Z
 refine AT_seq_k fun K4 hK4 => ?_
 refine cT (by simp [hk2, hda, hwr]) ?_
 refine AT_skip ?_
 refine hK4 _ ?_
 refine AT_block ?_
 refine sr fun Z z => ?_
 simp [hk2, hda, hwr]
 refine z _ ?_
 clear z Z
 refine sr fun Z z => ?_
 simp [hk2, hda, hwr]
 refine RVn_call (c_name_Is_1 g rnd _ (by omega)) ?_
 simp [hk2, hda, hwr]
 refine z _ ?_
 clear z Z
 refine cT (by simp [hk2, hda, hwr]) ?_
 refine sr fun Z z => ?_
 simp [hk2, hda, hwr]
 refine z _ ?_
 clear z Z
 refine AT_ret ?_
 simp [Tryz.f143]
 first | (rw [hc, hbd, if_neg hgb]) | (rw [hc, List.drop_eq_nil_of_le (by omega)]; rfl)
 refine sr fun Z z => ?_
 simp [hk2]
 refine z _ ?_
 clear z Z
 refine AT_seq_k fun K5 hK5 => ?_
 refine cF (by simp [hk2]) ?_
 refine AT_exit ?_
 refine hK1 _ ?_
 refine sr fun Z z => ?_
 simp [hk2]
 refine z _ ?_
 clear z Z
 refine AT_ret ?_
 simp [Tryz.f143]
 first | (rw [hc, hbd, if_neg hgb]) | (rw [hc, List.drop_eq_nil_of_le (by omega)]; rfl)

theorem c_strings_IndexFunc (s : Str) (hs : s.length ≤ 1099511627776) : Valid Tryz.prog (G0 g rnd) 121 [.str s, .func 82 []] (.int .i64 (badI s 0)) := by

 refine valid_of [] Tryz.func121 rfl (by kernel_rfl) ?_
 refine sr fun Z z => ?_
 simp [Tryz.f121]
 refine z _ ?_
 clear z Z
 refine sr fun Z z => ?_
 simp
 refine RVn_call (c_strings_indexFunc g rnd s hs) ?_
 simp
 refine z _ ?_
 clear z Z
 refine AT_ret ?_
 simp [Tryz.f121]

theorem c_strings_ContainsFunc (s : Str) (hs : s.length ≤ 1099511627776) : Valid Tryz.prog (G0 g rnd) 84 [.str s, .func 82 []] (.bool (!s.all goodB)) := by

 refine valid_of [] Tryz.func84 rfl (by kernel_rfl) ?_
 refine sr fun Z z => ?_
 simp [Tryz.f84]
 refine z _ ?_
 clear z Z
 refine sr fun Z z => ?_
 simp
 refine RVn_call (c_strings_IndexFunc g rnd s hs) ?_
 simp
 refine z _ ?_
 clear z Z
 refine AT_ret ?_
 simp [Tryz.f84]
 exact badI_neg s 0

theorem c_slices_Contains_string_string (l : List Str) (x : Str) (hl : l.length ≤ 140737488355328) : Valid Tryz.prog (G0 g rnd) 122 [.slice (l.map encS), .str x] (.bool (l.contains x)) := by

 refine valid_of [] Tryz.func122 rfl (by kernel_rfl) ?_
 refine sr fun Z z => ?_
 simp [Tryz.f122]
 refine z _ ?_
 clear z Z
 refine sr fun Z z => ?_
 simp
 refine RVn_call (c_slices_Index_string_string g rnd l x hl) ?_
 simp
 refine z _ ?_
 clear z Z
 refine AT_ret ?_
 simp [Tryz.f122]
 exact idxF_mem l x 0

theorem c_name_Reserved (s : Str) (hres : g 0 = some reservedA) : Valid Tryz.prog (G0 g rnd) 85 [.str s] (.bool (isRes s)) := by

 refine valid_of [] Tryz.func85 rfl (by kernel_rfl) ?_
 refine sr fun Z z => ?_
 simp [hres, Tryz.f85]
 refine z _ ?_
 clear z Z
 refine sr fun Z z => ?_
 simp [hres]
 refine RVn_call (c_slices_Contains_string_string g rnd reservedL s (by decide)) ?_
 simp [hres]
 refine z _ ?_
 clear z Z
 refine AT_ret ?_
 simp [hres, Tryz.f85]
 simp [isRes]

theorem c_name_Is (s : Str) (hs : s.length ≤ 1099511627776) (hres : g 0 = some reservedA) : Valid Tryz.prog (G0 g rnd) 28 [.str s] (.bool (isName s)) := by

 refine valid_of [] Tryz.func28 rfl (by kernel_rfl) ?_
 refine sr fun Z z => ?_
 simp [Tryz.f28]
 refine z _ ?_
 clear z Z
 refine sr fun Z z => ?_
 simp
 refine z _ ?_
 clear z Z
 rcases s with _ | ⟨b, r⟩
 refine sr fun Z z => ?_
 simp
 refine z _ ?_
 clear z Z
 refine AT_ret ?_
 simp [Tryz.f28]
 first | rfl | (· simp [isName, hc, hga]) | (· simp only [isName, List.all_cons, hga]; simp [hc]) | (· simp [isName, hcb])
 by_cases hc : clsI (b.toNat : Int) = 1
 cases hga : (goodB b && r.all goodB)
 refine sr fun Z z => ?_
 simp [hc, hga]
 refine RVn_call (c_name_Class g rnd _) ?_
 simp [hc, hga]
 repeat refine sg ?_
 refine RVn_call (c_strings_ContainsFunc g rnd _ hs) ?_
 simp [hc, hga]
 repeat refine sg ?_
 refine z _ ?_
 clear z Z
 refine AT_ret ?_
 simp [Tryz.f28]
 first | rfl | (· simp [isName, hc, hga]) | (· simp only [isName, List.all_cons, hga]; simp [hc]) | (· simp [isName, hcb])
 refine sr fun Z z => ?_
 simp [hc, hga]
 refine RVn_call (c_name_Class g rnd _) ?_
 simp [hc, hga]
 repeat refine sg ?_
 refine RVn_call (c_strings_ContainsFunc g rnd _ hs) ?_
 simp [hc, hga]
 repeat refine sg ?_
 refine RVn_call (c_name_Reserved g rnd _ hres) ?_
 simp [hc, hga]
 repeat refine sg ?_
 refine z _ ?_
 clear z Z
 refine AT_ret ?_
 simp [Tryz.f28]
 first | rfl | (· simp [isName, hc, hga]) | (· simp only [isName, List.all_cons, hga]; simp [hc]) | (· simp [isName, hcb])
 have hcb : (clsI (b.toNat : Int) == 1) = false := by simpa using hc
 refine sr fun Z z => ?_
 simp [hcb]
 refine RVn_call (c_name_Class g rnd _) ?_
 simp [hcb]
 repeat refine sg ?_
 refine z _ ?_
 clear z Z
 refine AT_ret ?_
 simp [Tryz.f28]
 first | rfl | (· simp [isName, hc, hga]) | (· simp only [isName, List.all_cons, hga]; simp [hc]) | (· simp [isName, hcb])

end Go.Proofs.YtdifpfehijnmiaaGreatDoor
end

/- Contracts: types substituted, variables replaced. -/
import Derived.Test.YtjkabaejabibnaaDoorPt
import Derived.Test.YtjkabaejabibnaaDoorPvPa
import Derived.Test.YtjkabaejabibnaaDoorPvZ
import Derived.Test.YtjkabaejabibnaaDoorXExA
import Derived.Test.YtjkabaejabibnaaDoorXTyI
import Derived.Test.YtjkabaejabibnaaDoorXTyI
import Derived.Test.YtjkabaejabibnaaDoorXTyL
import Derived.Test.YtjkabaejabibnaaDoorXTyL
import Derived.Test.YtjkabaejabibnaaDoorXTyL
set_option linter.all false
set_option maxHeartbeats 1000000
set_option maxRecDepth 10000
namespace Go.Proofs.YtjkabaejabibnaaDoor
open Go Go.Pv
variable (g : Nat → Option (List AV)) (rnd : Bool)

theorem c_expr_mapped (F : Exp → Exp) (fid : Nat) (caps : List AV) (hf : ∀ k n t a l p, wt t ≤ 1000000000 → wts a ≤ 1000000000 → Valid Tryd.prog (G0 g rnd) fid ([.agg (encE (.mk k n t a l p))] ++ caps) (.agg (encE (F (.mk k n t a l p))))) : ∀ e : Exp, wtE e ≤ 1000000000 → Valid Tryd.prog (G0 g rnd) 48 [.agg (encE e), .func fid caps] (.agg (encE (mapE F e))) := by
 intro e
 induction e using Exp.ind with
 | h kd n t ta l p ih =>
 intro hw
 have hw2 : n.length + 1 + wt t + wts ta + wtEs l ≤ 1000000000 := by simpa [wtE_mk] using hw
 have hln := wtEs_len l
 have hla := wts_len ta
 refine valid_of [(5, 27)] Tryd.func48 rfl (by kernel_rfl) ?_
 refine AT_seq_region fun K1 hK1 => ?_
 simp [row_map, encE_take6, encE_drop7, Tryd.f48]
 repeat refine sg ?_
 refine hK1 _ ?_
 clear hK1 K1
 refine AT_seq_region fun K2 hK2 => ?_
 simp [row_map, encE_take6, encE_drop7]
 repeat refine sg ?_
 refine hK2 _ ?_
 clear hK2 K2
 refine AT_seq_k fun K3 hK3 => ?_
 refine AT_seq_region fun K4 hK4 => ?_
 simp [row_map, encE_take6, encE_drop7]
 repeat refine sg ?_
 refine hK4 _ ?_
 clear hK4 K4
 refine AT_block ?_
 refine AT_loop_q [1,2,4,5,9,10,11] [2,4] (fun j s => ∃ k, k ≤ l.length ∧ j = l.length - k ∧ s = { n := 27, tm := [(1, .v (.func fid caps) none), (2, .lp 2 0), (4, .lp 4 0), (5, .v (.slice (((l.take k).map (mapE F)).map encE)) (some (5, 27))), (9, .v (.slice (l.map encE)) none), (10, .v (.int .i64 l.length) none), (11, .v (.int .i64 k) none)], bx := [(2, encE (.mk kd n t ta l p)), (4, [.int .i64 0, .str [], .str [], .slice [], .int .i64 0, .slice [], .slice [], .int .i64 0])], tb := [], sh := [], hint := [(5, 27)] }) (l.length) (by first | rfl | simp) ?_ ?_
 ·
  exact ⟨0, by simp⟩
 ·
  rintro j s ⟨k, hk, rfl, rfl⟩ K5 hK5
  refine AT_seq_region fun K6 hK6 => ?_
  simp [row_map, encE_take6, encE_drop7]
  repeat refine sg ?_
  refine hK6 _ ?_
  clear hK6 K6
  refine AT_seq_k fun K7 hK7 => ?_
  refine AT_cond (g := none) rfl (fun hb12 => ?_) (fun hb12 => ?_)
  ·
   try simp [row_map, encE_take6, encE_drop7] at hb12
   refine AT_skip ?_
   try simp only [nrm, reduceIte, Nat.reduceEqDiff]
   refine hK7 _ ?_
   refine AT_seq_k fun K8 hK8 => ?_
   refine AT_block ?_
   refine AT_seq_region fun K9 hK9 => ?_
   simp [row_map, encE_take6, encE_drop7, hb12]
   repeat refine sg ?_
   refine hK9 _ ?_
   clear hK9 K9
   refine AT_region_q fun K10 hK10 => ?_
   simp [row_map, encE_take6, encE_drop7, hb12]
   repeat refine sg ?_
   refine RVn_call (ih l[k] (by simp) (by have := wtEs_mem (l := l) (e := l[k]) (by simp); omega)) ?_
   simp [row_map, encE_take6, encE_drop7, hb12]
   repeat refine sg ?_
   refine hK10 _ ?_
   clear hK10 K10
   try simp only [nrm, reduceIte, Nat.reduceEqDiff]
   refine hK8 _ ?_
   refine AT_region_q fun K11 hK11 => ?_
   simp [row_map, encE_take6, encE_drop7, hb12]
   repeat refine sg ?_
   refine hK11 _ ?_
   clear hK11 K11
   try simp only [nrm, reduceIte, Nat.reduceEqDiff]
   refine hK5 _ (by first | rfl | simp) (l.length - (k+1)) (by omega) ?_
   have hs2 := take_map_succ (encE ∘ mapE F) l k hb12
   exact ⟨k+1, by omega, by omega, by simp [hs2]⟩
  ·
   try simp [row_map, encE_take6, encE_drop7] at hb12
   refine AT_exit ?_
   try simp only [nrm, reduceIte, Nat.reduceEqDiff]
   refine hK3 _ ?_
   refine AT_seq_region fun K12 hK12 => ?_
   simp [row_map, encE_take6, encE_drop7, hb12]
   repeat refine sg ?_
   refine hK12 _ ?_
   clear hK12 K12
   refine AT_seq_region fun K13 hK13 => ?_
   try rw [List.take_of_length_le (by simpa using hb12)]
   simp [row_map, encE_take6, encE_drop7, hb12]
   repeat refine sg ?_
   refine RVn_call ((by have h := hf kd n t ta (l.map (mapE F)) p (by omega) (by omega); rw [encE_mk, List.map_map] at h; exact h)) ?_
   simp [row_map, encE_take6, encE_drop7, hb12]
   repeat refine sg ?_
   refine hK13 _ ?_
   clear hK13 K13
   refine AT_ret ?_
   simp [row_map, encE_take6, encE_drop7, Tryd.f48]
   rw [mapE_mk]

theorem c_expr_Subst_1 (ns : List Str) (as_ : List Ty) (hns : ns.length ≤ 1099511627776) (has : ∀ a ∈ as_, wt a ≤ 1099511627776) (hal : as_.length ≤ 1099511627776) (kd : Int) (n : Str) (t : Ty) (ta : List Ty) (l : List Exp) (p : Int) (hwt : wt t ≤ 1000000000) (hwa : wts ta ≤ 1000000000) : Valid Tryd.prog (G0 g rnd) 49 [.agg (encE (.mk kd n t ta l p)), .ro [.slice (ns.map encS)], .ro [.slice (as_.map encTy)]] (.agg (encE (subF ns as_ (.mk kd n t ta l p)))) := by
 have hla := wts_len ta
 refine valid_of [] Tryd.func49 rfl (by kernel_rfl) ?_
 refine AT_seq_region fun K1 hK1 => ?_
 simp [encE_mk, encTy_def, Tryd.f49]
 repeat refine sg ?_
 refine hK1 _ ?_
 clear hK1 K1
 refine AT_seq_draw Pt.mixed (by kernel_rfl) fun K2 hK2 => ?_
 simp [encE_mk, encTy_def]
 repeat refine sg ?_
 refine RVdn_call ((by have h := c_types_Subst g rnd ns as_ hns has hal t (by omega); simp only [encTy_def] at h; exact h)) ?_
 simp [encE_mk, encTy_def]
 repeat refine sg ?_
 refine RVdn_call (c_types_All g rnd ta (ns.map encS) (as_.map encTy) (sub ns as_) (by omega) (fun x hx => c_types_Subst g rnd ns as_ hns has hal x (Nat.le_trans (wts_mem hx) (by omega)))) ?_
 simp [encE_mk, encTy_def]
 repeat refine sg ?_
 refine hK2 _ ?_
 clear hK2 K2
 refine AT_seq_region fun K3 hK3 => ?_
 simp [encE_mk, encTy_def]
 repeat refine sg ?_
 refine hK3 _ ?_
 clear hK3 K3
 refine AT_ret ?_
 simp [encE_mk, encTy_def, Tryd.f49]
 simp [subF, encE_mk, subs_map, encTy_def]

theorem c_expr_Subst (ns : List Str) (as_ : List Ty) (hns : ns.length ≤ 1099511627776) (has : ∀ a ∈ as_, wt a ≤ 1099511627776) (hal : as_.length ≤ 1099511627776) (e : Exp) (hw : wtE e ≤ 1000000000) : Valid Tryd.prog (G0 g rnd) 22 [.agg (encE e), .slice (ns.map encS), .slice (as_.map encTy)] (.agg (encE (subE ns as_ e))) := by

 refine valid_of [(200004, 0), (200005, 0)] Tryd.func22 rfl (by kernel_rfl) ?_
 refine AT_seq_region fun K1 hK1 => ?_
 simp [Tryd.f22]
 repeat refine sg ?_
 refine hK1 _ ?_
 clear hK1 K1
 refine AT_seq_region fun K2 hK2 => ?_
 simp
 repeat refine sg ?_
 refine RVn_call ((by have h := c_expr_mapped g rnd (subF ns as_) 49 [.ro [.slice (ns.map encS)], .ro [.slice (as_.map encTy)]] (fun k n t a l p h1 h2 => c_expr_Subst_1 g rnd ns as_ hns has hal k n t a l p h1 h2) e hw; rw [mapE_sub] at h; exact h)) ?_
 simp
 repeat refine sg ?_
 refine hK2 _ ?_
 clear hK2 K2
 refine AT_ret ?_
 simp [Tryd.f22]

theorem c_expr_Clone (e : Exp) (hw : wtE e ≤ 1000000000) : Valid Tryd.prog (G0 g rnd) 24 [.agg (encE e)] (.agg (encE e)) := by

 refine valid_of [] Tryd.func24 rfl (by kernel_rfl) ?_
 refine AT_seq_region fun K1 hK1 => ?_
 simp [Tryd.f24]
 repeat refine sg ?_
 refine hK1 _ ?_
 clear hK1 K1
 refine AT_seq_region fun K2 hK2 => ?_
 simp
 repeat refine sg ?_
 refine RVn_call ((by have h := c_expr_Subst g rnd [] [] (by simp) (by simp) (by simp) e hw; rw [subE_nil] at h; exact h : Valid Tryd.prog (G0 g rnd) 22 [.agg (encE e), .slice [], .slice []] (.agg (encE e)))) ?_
 simp
 repeat refine sg ?_
 refine hK2 _ ?_
 clear hK2 K2
 refine AT_ret ?_
 simp [Tryd.f24]

theorem c_expr_Replace_1 (vs : List Str) (xs : List Exp) (hvs : vs.length ≤ 1000000000) (hxs : ∀ x ∈ xs, wtE x ≤ 1000000000) (hxl : xs.length ≤ 1000000000) (kd : Int) (n : Str) (t : Ty) (ta : List Ty) (l : List Exp) (p : Int) : Valid Tryd.prog (G0 g rnd) 54 [.agg (encE (.mk kd n t ta l p)), .ro [.slice (vs.map encS)], .ro [.slice (xs.map encE)]] (.agg (encE (repF vs xs (.mk kd n t ta l p)))) := by
 obtain ⟨i, hi⟩ : ∃ i : Int, i = idxF vs n 0 := ⟨_, rfl⟩
 refine valid_of [] Tryd.func54 rfl (by kernel_rfl) ?_
 refine AT_seq_region fun K1 hK1 => ?_
 simp [row_map, Tryd.f54]
 repeat refine sg ?_
 refine hK1 _ ?_
 clear hK1 K1
 refine AT_seq_region fun K2 hK2 => ?_
 simp [row_map]
 repeat refine sg ?_
 refine RVn_call ((hi ▸ c_slices_Index_string_string g rnd vs n (by omega) : Valid Tryd.prog (G0 g rnd) 55 [.slice (vs.map encS), .str n] (.int .i64 i))) ?_
 simp [row_map]
 repeat refine sg ?_
 refine hK2 _ ?_
 clear hK2 K2
 refine AT_seq_k fun K3 hK3 => ?_
 cases h1 : (kd != 1)
 ·
  by_cases h2 : i < 0
  ·
   refine AT_seq_region fun K4 hK4 => ?_
   simp [row_map, h1, h2]
   repeat refine sg ?_
   refine hK4 _ ?_
   clear hK4 K4
   refine AT_cond (b := true) (g := none) (by simp [h1, h2]) (fun hb => ?_) (fun hb => ?_)
   ·
    clear hb
    refine AT_seq_region fun K5 hK5 => ?_
    simp [row_map, h1, h2]
    repeat refine sg ?_
    refine hK5 _ ?_
    clear hK5 K5
    refine AT_ret ?_
    simp [row_map, Tryd.f54]
    first
    | (rw [repF, if_neg (by rintro ⟨h, -⟩; rw [h] at h1; exact absurd h1 (by decide))]; done)
    | (rw [repF, if_neg (by rintro ⟨-, h, -⟩; omega)]; done)
    | (rw [repF, if_neg (by rintro ⟨-, -, h⟩; omega)]; done)
    | (rw [repF, if_pos ⟨by simpa using h1, by omega, by omega⟩, ← hi]; simp [hin])
   ·
    cases hb
  ·
   by_cases h3 : (xs.length : Int) ≤ i
   ·
    refine AT_seq_region fun K6 hK6 => ?_
    simp [row_map, h1, h2, h3]
    repeat refine sg ?_
    refine hK6 _ ?_
    clear hK6 K6
    refine AT_cond (b := true) (g := none) (by simp [h1, h2, h3]) (fun hb => ?_) (fun hb => ?_)
    ·
     clear hb
     refine AT_seq_region fun K7 hK7 => ?_
     simp [row_map, h1, h2, h3]
     repeat refine sg ?_
     refine hK7 _ ?_
     clear hK7 K7
     refine AT_ret ?_
     simp [row_map, Tryd.f54]
     first
     | (rw [repF, if_neg (by rintro ⟨h, -⟩; rw [h] at h1; exact absurd h1 (by decide))]; done)
     | (rw [repF, if_neg (by rintro ⟨-, h, -⟩; omega)]; done)
     | (rw [repF, if_neg (by rintro ⟨-, -, h⟩; omega)]; done)
     | (rw [repF, if_pos ⟨by simpa using h1, by omega, by omega⟩, ← hi]; simp [hin])
    ·
     cases hb
   ·
    have hin : i.toNat < xs.length := by omega
    refine AT_seq_region fun K8 hK8 => ?_
    simp [row_map, h1, h2, h3, hin]
    repeat refine sg ?_
    refine hK8 _ ?_
    clear hK8 K8
    refine AT_cond (b := false) (g := none) (by simp [h1, h2, h3, hin]) (fun hb => ?_) (fun hb => ?_)
    ·
     cases hb
    ·
     clear hb
     refine AT_skip ?_
     try simp only [nrm, reduceIte, Nat.reduceEqDiff]
     refine hK3 _ ?_
     refine AT_seq_region fun K9 hK9 => ?_
     simp [row_map, h1, h2, h3, hin]
     repeat refine sg ?_
     refine RVn_call (c_expr_Clone g rnd xs[i.toNat] (hxs _ (by simp))) ?_
     simp [row_map, h1, h2, h3, hin]
     repeat refine sg ?_
     refine hK9 _ ?_
     clear hK9 K9
     refine AT_ret ?_
     simp [row_map, Tryd.f54]
     first
     | (rw [repF, if_neg (by rintro ⟨h, -⟩; rw [h] at h1; exact absurd h1 (by decide))]; done)
     | (rw [repF, if_neg (by rintro ⟨-, h, -⟩; omega)]; done)
     | (rw [repF, if_neg (by rintro ⟨-, -, h⟩; omega)]; done)
     | (rw [repF, if_pos ⟨by simpa using h1, by omega, by omega⟩, ← hi]; simp [hin])
 ·
  refine AT_seq_region fun K10 hK10 => ?_
  simp [row_map, h1]
  repeat refine sg ?_
  refine hK10 _ ?_
  clear hK10 K10
  refine AT_cond (b := true) (g := none) (by simp [h1]) (fun hb => ?_) (fun hb => ?_)
  ·
   clear hb
   refine AT_seq_region fun K11 hK11 => ?_
   simp [row_map, h1]
   repeat refine sg ?_
   refine hK11 _ ?_
   clear hK11 K11
   refine AT_ret ?_
   simp [row_map, Tryd.f54]
   first
   | (rw [repF, if_neg (by rintro ⟨h, -⟩; rw [h] at h1; exact absurd h1 (by decide))]; done)
   | (rw [repF, if_neg (by rintro ⟨-, h, -⟩; omega)]; done)
   | (rw [repF, if_neg (by rintro ⟨-, -, h⟩; omega)]; done)
   | (rw [repF, if_pos ⟨by simpa using h1, by omega, by omega⟩, ← hi]; simp [hin])
  ·
   cases hb

theorem c_expr_Replace (vs : List Str) (xs : List Exp) (hvs : vs.length ≤ 1000000000) (hxs : ∀ x ∈ xs, wtE x ≤ 1000000000) (hxl : xs.length ≤ 1000000000) (e : Exp) (hw : wtE e ≤ 1000000000) : Valid Tryd.prog (G0 g rnd) 25 [.agg (encE e), .slice (vs.map encS), .slice (xs.map encE)] (.agg (encE (repE vs xs e))) := by

 refine valid_of [(200004, 0), (200005, 0)] Tryd.func25 rfl (by kernel_rfl) ?_
 refine AT_seq_region fun K1 hK1 => ?_
 simp [Tryd.f25]
 repeat refine sg ?_
 refine hK1 _ ?_
 clear hK1 K1
 refine AT_seq_region fun K2 hK2 => ?_
 simp
 repeat refine sg ?_
 refine RVn_call (c_expr_Clone g rnd e hw) ?_
 simp
 repeat refine sg ?_
 refine RVn_call ((by have h := c_expr_mapped g rnd (repF vs xs) 54 [.ro [.slice (vs.map encS)], .ro [.slice (xs.map encE)]] (fun k n t a l p _ _ => c_expr_Replace_1 g rnd vs xs hvs hxs hxl k n t a l p) e hw; rw [mapE_rep] at h; exact h)) ?_
 simp
 repeat refine sg ?_
 refine hK2 _ ?_
 clear hK2 K2
 refine AT_ret ?_
 simp [Tryd.f25]

end Go.Proofs.YtjkabaejabibnaaDoor

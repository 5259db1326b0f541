import Derived.Test.YtepbmjchhcmcoaaGreatDoorPt
import Derived.Test.YtepbmjchhcmcoaaGreatDoorPvPb
import Derived.Test.YtepbmjchhcmcoaaGreatDoorPvY
import Derived.Test.YtepbmjchhcmcoaaGreatDoorPvFa
import Derived.Test.YtepbmjchhcmcoaaGreatDoorXTyE
import Derived.Test.YtepbmjchhcmcoaaGreatDoorXLbJ
import Derived.Test.YtepbmjchhcmcoaaGreatDoorXExC
import Derived.Test.YtepbmjchhcmcoaaGreatDoorXNaC
section
/- Contracts: texts of declarations. -/
set_option linter.all false
set_option maxHeartbeats 1000000
set_option maxRecDepth 10000
namespace Go.Proofs.YtepbmjchhcmcoaaGreatDoor
open Go Go.Pv
variable (g : Nat → Option (List AV)) (rnd : Bool)

theorem c_print_param (a : Fm) (hw : wtF a ≤ 1000000000) : Valid Tryz.prog (G0 g rnd) 25 [.agg (encF a)] (.str (txF a)) := by
 have hw2 : a.name.length + 1 + wt a.ty ≤ 1000000000 := hw
 have hxt := txt_wt a.ty
 refine valid_of [] Tryz.func25 rfl (by kernel_rfl) ?_
 refine sr fun Z z => ?_
 simp [encF, Tryz.f25]
 refine z _ ?_
 clear z Z
 refine AT_seq_draw Pt.mixed (by kernel_rfl) fun Z z => ?_
 simp [encF]
 repeat refine sg ?_
 refine RVdn_call ((by have h := c_types_Text g rnd a.ty (by omega); simp only [encTy_def] at h; exact h)) ?_
 simp [encF]
 repeat refine sg ?_
 refine z _ ?_
 clear z Z
 refine AT_ret ?_
 simp [encF, Tryz.f25]
 simp [txF]

theorem c_print_formal (a : Fm) (hw : wtF a ≤ 1000000000) : Valid Tryz.prog (G0 g rnd) 27 [.agg (encF a)] (.str (txF a)) := by
 have hw2 : a.name.length + 1 + wt a.ty ≤ 1000000000 := hw
 have hxt := txt_wt a.ty
 refine valid_of [] Tryz.func27 rfl (by kernel_rfl) ?_
 refine sr fun Z z => ?_
 simp [encF, Tryz.f27]
 refine z _ ?_
 clear z Z
 refine AT_seq_draw Pt.mixed (by kernel_rfl) fun Z z => ?_
 simp [encF]
 repeat refine sg ?_
 refine RVdn_call ((by have h := c_types_Text g rnd a.ty (by omega); simp only [encTy_def] at h; exact h)) ?_
 simp [encF]
 repeat refine sg ?_
 refine z _ ?_
 clear z Z
 refine AT_ret ?_
 simp [encF, Tryz.f27]
 simp [txF]

theorem c_print_same (s : Str) : Valid Tryz.prog (G0 g rnd) 29 [.str s] (.str s) := by

 refine valid_of [] Tryz.func29 rfl (by kernel_rfl) ?_
 refine sr fun Z z => ?_
 simp [Tryz.f29]
 refine z _ ?_
 clear z Z
 refine sr fun Z z => ?_
 simp
 refine z _ ?_
 clear z Z
 refine AT_ret ?_
 simp [Tryz.f29]

theorem c_print_join_api_Formal (cid : Nat) (tx : Fm → Str) (l : List Fm) (sep : Str) (hl : l.length ≤ 1000000000) (hj : (Lib.join (l.map tx) sep).length ≤ 100000000000000) (hc : ∀ x ∈ l, Valid Tryz.prog (G0 g rnd) cid [.agg (encF x)] (.str (tx x))) : Valid Tryz.prog (G0 g rnd) 60 [.slice (l.map encF), .str sep, .func cid []] (.str (Lib.join (l.map tx) sep)) := by

 refine valid_of [(7, 9)] Tryz.func60 rfl (by kernel_rfl) ?_
 refine sr fun Z z => ?_
 simp [row_map, encS, Tryz.f60]
 refine z _ ?_
 clear z Z
 refine sr fun Z z => ?_
 simp [row_map, encS]
 refine z _ ?_
 clear z Z
 refine AT_seq_k fun K1 hK1 => ?_
 refine sr fun Z z => ?_
 simp [row_map, encS]
 refine z _ ?_
 clear z Z
 refine AT_block ?_
 refine AT_loop_q [1,2,7,10,11,12] [] (fun j s => ∃ k, k ≤ l.length ∧ j = l.length - k ∧ s = { n := 26, tm := [(1, .v (.str sep) none), (2, .v (.func cid []) none), (7, .v (.slice (((l.take k).map tx).map encS)) (some (7, 9))), (10, .v (.slice (l.map encF)) none), (11, .v (.int .i64 l.length) none), (12, .v (.int .i64 k) none)], bx := [], tb := [], sh := [], hint := [(7, 9)] }) (l.length) (by first | rfl | simp) ?_ ?_
 exact ⟨0, by simp⟩
 rintro j s ⟨k, hk, rfl, rfl⟩ K2 hK2
 refine sr fun Z z => ?_
 simp [row_map, encS]
 refine z _ ?_
 clear z Z
 refine AT_seq_k fun K3 hK3 => ?_
 refine AT_cond (g := none) rfl (fun hb13 => ?_) (fun hb13 => ?_)
 simp [row_map, encS] at hb13
 refine AT_skip ?_
 refine hK3 _ ?_
 refine AT_seq_k fun K4 hK4 => ?_
 refine AT_block ?_
 refine sr fun Z z => ?_
 simp [row_map, encS, hb13]
 refine z _ ?_
 clear z Z
 refine AT_region_q fun Z z => ?_
 simp [row_map, encS, rows_take, hb13]
 refine RVn_call (hc l[k] (by simp)) ?_
 simp [row_map, encS, rows_take, hb13]
 repeat refine sg ?_
 refine z _ ?_
 clear z Z
 refine hK4 _ ?_
 refine AT_region_q fun Z z => ?_
 simp [row_map, encS, hb13]
 repeat refine sg ?_
 refine z _ ?_
 clear z Z
 refine hK2 _ (by first | rfl | simp) (l.length - (k+1)) (by omega) ?_
 refine ⟨k+1, by omega, by omega, ?_⟩
 have hk9 : k < l.length := by omega
 simp [List.take_succ_eq_append_getElem hk9, -List.take_append_getElem, encS]
 simp [row_map, encS] at hb13
 refine AT_exit ?_
 refine hK1 _ ?_
 refine sr fun Z z => ?_
 have hk9 : k = l.length := by omega
 subst hk9
 rw [List.take_of_length_le (by simp)]
 simp [row_map, encS, hb13]
 refine RVn_call ((by have h := c_strings_Join g rnd (l.map tx) sep (by simp; omega) (by omega); simpa using h)) ?_
 simp [row_map, encS, hb13]
 refine z _ ?_
 clear z Z
 refine AT_ret ?_
 simp [row_map, encS, Tryz.f60]

theorem c_print_join_api_Param (cid : Nat) (tx : Fm → Str) (l : List Fm) (sep : Str) (hl : l.length ≤ 1000000000) (hj : (Lib.join (l.map tx) sep).length ≤ 100000000000000) (hc : ∀ x ∈ l, Valid Tryz.prog (G0 g rnd) cid [.agg (encF x)] (.str (tx x))) : Valid Tryz.prog (G0 g rnd) 42 [.slice (l.map encF), .str sep, .func cid []] (.str (Lib.join (l.map tx) sep)) := by

 refine valid_of [(7, 9)] Tryz.func42 rfl (by kernel_rfl) ?_
 refine sr fun Z z => ?_
 simp [row_map, encS, Tryz.f42]
 refine z _ ?_
 clear z Z
 refine sr fun Z z => ?_
 simp [row_map, encS]
 refine z _ ?_
 clear z Z
 refine AT_seq_k fun K1 hK1 => ?_
 refine sr fun Z z => ?_
 simp [row_map, encS]
 refine z _ ?_
 clear z Z
 refine AT_block ?_
 refine AT_loop_q [1,2,7,10,11,12] [] (fun j s => ∃ k, k ≤ l.length ∧ j = l.length - k ∧ s = { n := 26, tm := [(1, .v (.str sep) none), (2, .v (.func cid []) none), (7, .v (.slice (((l.take k).map tx).map encS)) (some (7, 9))), (10, .v (.slice (l.map encF)) none), (11, .v (.int .i64 l.length) none), (12, .v (.int .i64 k) none)], bx := [], tb := [], sh := [], hint := [(7, 9)] }) (l.length) (by first | rfl | simp) ?_ ?_
 exact ⟨0, by simp⟩
 rintro j s ⟨k, hk, rfl, rfl⟩ K2 hK2
 refine sr fun Z z => ?_
 simp [row_map, encS]
 refine z _ ?_
 clear z Z
 refine AT_seq_k fun K3 hK3 => ?_
 refine AT_cond (g := none) rfl (fun hb13 => ?_) (fun hb13 => ?_)
 simp [row_map, encS] at hb13
 refine AT_skip ?_
 refine hK3 _ ?_
 refine AT_seq_k fun K4 hK4 => ?_
 refine AT_block ?_
 refine sr fun Z z => ?_
 simp [row_map, encS, hb13]
 refine z _ ?_
 clear z Z
 refine AT_region_q fun Z z => ?_
 simp [row_map, encS, rows_take, hb13]
 refine RVn_call (hc l[k] (by simp)) ?_
 simp [row_map, encS, rows_take, hb13]
 repeat refine sg ?_
 refine z _ ?_
 clear z Z
 refine hK4 _ ?_
 refine AT_region_q fun Z z => ?_
 simp [row_map, encS, hb13]
 repeat refine sg ?_
 refine z _ ?_
 clear z Z
 refine hK2 _ (by first | rfl | simp) (l.length - (k+1)) (by omega) ?_
 refine ⟨k+1, by omega, by omega, ?_⟩
 have hk9 : k < l.length := by omega
 simp [List.take_succ_eq_append_getElem hk9, -List.take_append_getElem, encS]
 simp [row_map, encS] at hb13
 refine AT_exit ?_
 refine hK1 _ ?_
 refine sr fun Z z => ?_
 have hk9 : k = l.length := by omega
 subst hk9
 rw [List.take_of_length_le (by simp)]
 simp [row_map, encS, hb13]
 refine RVn_call ((by have h := c_strings_Join g rnd (l.map tx) sep (by simp; omega) (by omega); simpa using h)) ?_
 simp [row_map, encS, hb13]
 refine z _ ?_
 clear z Z
 refine AT_ret ?_
 simp [row_map, encS, Tryz.f42]

theorem c_print_join_api_Decl (cid : Nat) (tx : Dc → Str) (l : List Dc) (sep : Str) (hl : l.length ≤ 1000000000) (hj : (Lib.join (l.map tx) sep).length ≤ 100000000000000) (hc : ∀ x ∈ l, Valid Tryz.prog (G0 g rnd) cid [.agg (encD x)] (.str (tx x))) : Valid Tryz.prog (G0 g rnd) 21 [.slice (l.map encD), .str sep, .func cid []] (.str (Lib.join (l.map tx) sep)) := by

 refine valid_of [(7, 9)] Tryz.func21 rfl (by kernel_rfl) ?_
 refine sr fun Z z => ?_
 simp [row_map, encS, Tryz.f21]
 refine z _ ?_
 clear z Z
 refine sr fun Z z => ?_
 simp [row_map, encS]
 refine z _ ?_
 clear z Z
 refine AT_seq_k fun K1 hK1 => ?_
 refine sr fun Z z => ?_
 simp [row_map, encS]
 refine z _ ?_
 clear z Z
 refine AT_block ?_
 refine AT_loop_q [1,2,7,10,11,12] [] (fun j s => ∃ k, k ≤ l.length ∧ j = l.length - k ∧ s = { n := 26, tm := [(1, .v (.str sep) none), (2, .v (.func cid []) none), (7, .v (.slice (((l.take k).map tx).map encS)) (some (7, 9))), (10, .v (.slice (l.map encD)) none), (11, .v (.int .i64 l.length) none), (12, .v (.int .i64 k) none)], bx := [], tb := [], sh := [], hint := [(7, 9)] }) (l.length) (by first | rfl | simp) ?_ ?_
 exact ⟨0, by simp⟩
 rintro j s ⟨k, hk, rfl, rfl⟩ K2 hK2
 refine sr fun Z z => ?_
 simp [row_map, encS]
 refine z _ ?_
 clear z Z
 refine AT_seq_k fun K3 hK3 => ?_
 refine AT_cond (g := none) rfl (fun hb13 => ?_) (fun hb13 => ?_)
 simp [row_map, encS] at hb13
 refine AT_skip ?_
 refine hK3 _ ?_
 refine AT_seq_k fun K4 hK4 => ?_
 refine AT_block ?_
 refine sr fun Z z => ?_
 simp [row_map, encS, hb13]
 refine z _ ?_
 clear z Z
 refine AT_region_q fun Z z => ?_
 simp [row_map, encS, rows_take, hb13]
 refine RVn_call (hc l[k] (by simp)) ?_
 simp [row_map, encS, rows_take, hb13]
 repeat refine sg ?_
 refine z _ ?_
 clear z Z
 refine hK4 _ ?_
 refine AT_region_q fun Z z => ?_
 simp [row_map, encS, hb13]
 repeat refine sg ?_
 refine z _ ?_
 clear z Z
 refine hK2 _ (by first | rfl | simp) (l.length - (k+1)) (by omega) ?_
 refine ⟨k+1, by omega, by omega, ?_⟩
 have hk9 : k < l.length := by omega
 simp [List.take_succ_eq_append_getElem hk9, -List.take_append_getElem, encS]
 simp [row_map, encS] at hb13
 refine AT_exit ?_
 refine hK1 _ ?_
 refine sr fun Z z => ?_
 have hk9 : k = l.length := by omega
 subst hk9
 rw [List.take_of_length_le (by simp)]
 simp [row_map, encS, hb13]
 refine RVn_call ((by have h := c_strings_Join g rnd (l.map tx) sep (by simp; omega) (by omega); simpa using h)) ?_
 simp [row_map, encS, hb13]
 refine z _ ?_
 clear z Z
 refine AT_ret ?_
 simp [row_map, encS, Tryz.f21]

theorem c_print_join_string (cid : Nat) (tx : Str → Str) (l : List Str) (sep : Str) (hl : l.length ≤ 1000000000) (hj : (Lib.join (l.map tx) sep).length ≤ 100000000000000) (hc : ∀ x ∈ l, Valid Tryz.prog (G0 g rnd) cid [.str x] (.str (tx x))) : Valid Tryz.prog (G0 g rnd) 61 [.slice (l.map encS), .str sep, .func cid []] (.str (Lib.join (l.map tx) sep)) := by

 refine valid_of [(7, 9)] Tryz.func61 rfl (by kernel_rfl) ?_
 refine sr fun Z z => ?_
 simp [row_map, encS, Tryz.f61]
 refine z _ ?_
 clear z Z
 refine sr fun Z z => ?_
 simp [row_map, encS]
 refine z _ ?_
 clear z Z
 refine AT_seq_k fun K1 hK1 => ?_
 refine sr fun Z z => ?_
 simp [row_map, encS]
 refine z _ ?_
 clear z Z
 refine AT_block ?_
 refine AT_loop_q [1,2,7,10,11,12] [] (fun j s => ∃ k, k ≤ l.length ∧ j = l.length - k ∧ s = { n := 26, tm := [(1, .v (.str sep) none), (2, .v (.func cid []) none), (7, .v (.slice (((l.take k).map tx).map encS)) (some (7, 9))), (10, .v (.slice (l.map encS)) none), (11, .v (.int .i64 l.length) none), (12, .v (.int .i64 k) none)], bx := [], tb := [], sh := [], hint := [(7, 9)] }) (l.length) (by first | rfl | simp) ?_ ?_
 exact ⟨0, by simp⟩
 rintro j s ⟨k, hk, rfl, rfl⟩ K2 hK2
 refine sr fun Z z => ?_
 simp [row_map, encS]
 refine z _ ?_
 clear z Z
 refine AT_seq_k fun K3 hK3 => ?_
 refine AT_cond (g := none) rfl (fun hb13 => ?_) (fun hb13 => ?_)
 simp [row_map, encS] at hb13
 refine AT_skip ?_
 refine hK3 _ ?_
 refine AT_seq_k fun K4 hK4 => ?_
 refine AT_block ?_
 refine sr fun Z z => ?_
 simp [row_map, encS, hb13]
 refine z _ ?_
 clear z Z
 refine AT_region_q fun Z z => ?_
 simp [row_map, encS, rows_take, hb13]
 refine RVn_call (hc l[k] (by simp)) ?_
 simp [row_map, encS, rows_take, hb13]
 repeat refine sg ?_
 refine z _ ?_
 clear z Z
 refine hK4 _ ?_
 refine AT_region_q fun Z z => ?_
 simp [row_map, encS, hb13]
 repeat refine sg ?_
 refine z _ ?_
 clear z Z
 refine hK2 _ (by first | rfl | simp) (l.length - (k+1)) (by omega) ?_
 refine ⟨k+1, by omega, by omega, ?_⟩
 have hk9 : k < l.length := by omega
 simp [List.take_succ_eq_append_getElem hk9, -List.take_append_getElem, encS]
 simp [row_map, encS] at hb13
 refine AT_exit ?_
 refine hK1 _ ?_
 refine sr fun Z z => ?_
 have hk9 : k = l.length := by omega
 subst hk9
 rw [List.take_of_length_le (by simp)]
 simp [row_map, encS, hb13]
 refine RVn_call ((by have h := c_strings_Join g rnd (l.map tx) sep (by simp; omega) (by omega); simpa using h)) ?_
 simp [row_map, encS, hb13]
 refine z _ ?_
 clear z Z
 refine AT_ret ?_
 simp [row_map, encS, Tryz.f61]

theorem c_print_list_api_Formal (cid : Nat) (tx : Fm → Str) (l : List Fm) (hl : l.length ≤ 1000000000) (hj : (Lib.join (l.map tx) [44, 32]).length ≤ 100000000000000) (hc : ∀ x ∈ l, Valid Tryz.prog (G0 g rnd) cid [.agg (encF x)] (.str (tx x))) : Valid Tryz.prog (G0 g rnd) 26 [.slice (l.map encF), .func cid []] (.str (if l.isEmpty then [] else [91] ++ Lib.join (l.map tx) [44, 32] ++ [93])) := by

 refine valid_of [] Tryz.func26 rfl (by kernel_rfl) ?_
 refine sr fun Z z => ?_
 simp [len_is0, Tryz.f26]
 refine z _ ?_
 clear z Z
 refine AT_seq_k fun K1 hK1 => ?_
 cases he : l.isEmpty
 refine sr fun Z z => ?_
 simp [len_is0, he]
 refine z _ ?_
 clear z Z
 refine cF (by simp [he]) ?_
 refine AT_skip ?_
 refine hK1 _ ?_
 refine sr fun Z z => ?_
 simp [len_is0, he]
 refine RVn_call (c_print_join_api_Formal g rnd cid tx l [44, 32] hl hj hc) ?_
 simp [len_is0, he]
 repeat refine sg ?_
 refine z _ ?_
 clear z Z
 refine AT_ret ?_
 simp [len_is0, Tryz.f26]
 first | (· have he2 := List.isEmpty_iff.1 he; simp [he2]) | (· have he2 : l ≠ [] := ne_of_isEmpty he; simp [he2]) | skip
 refine sr fun Z z => ?_
 simp [len_is0, he]
 refine z _ ?_
 clear z Z
 refine cT (by simp [he]) ?_
 refine sr fun Z z => ?_
 simp [len_is0, he]
 refine z _ ?_
 clear z Z
 refine AT_ret ?_
 simp [len_is0, Tryz.f26]
 first | (· have he2 := List.isEmpty_iff.1 he; simp [he2]) | (· have he2 : l ≠ [] := ne_of_isEmpty he; simp [he2]) | skip

theorem c_print_list_string (cid : Nat) (tx : Str → Str) (l : List Str) (hl : l.length ≤ 1000000000) (hj : (Lib.join (l.map tx) [44, 32]).length ≤ 100000000000000) (hc : ∀ x ∈ l, Valid Tryz.prog (G0 g rnd) cid [.str x] (.str (tx x))) : Valid Tryz.prog (G0 g rnd) 28 [.slice (l.map encS), .func cid []] (.str (if l.isEmpty then [] else [91] ++ Lib.join (l.map tx) [44, 32] ++ [93])) := by

 refine valid_of [] Tryz.func28 rfl (by kernel_rfl) ?_
 refine sr fun Z z => ?_
 simp [len_is0, Tryz.f28]
 refine z _ ?_
 clear z Z
 refine AT_seq_k fun K1 hK1 => ?_
 cases he : l.isEmpty
 refine sr fun Z z => ?_
 simp [len_is0, he]
 refine z _ ?_
 clear z Z
 refine cF (by simp [he]) ?_
 refine AT_skip ?_
 refine hK1 _ ?_
 refine sr fun Z z => ?_
 simp [len_is0, he]
 refine RVn_call (c_print_join_string g rnd cid tx l [44, 32] hl hj hc) ?_
 simp [len_is0, he]
 repeat refine sg ?_
 refine z _ ?_
 clear z Z
 refine AT_ret ?_
 simp [len_is0, Tryz.f28]
 first | (· have he2 := List.isEmpty_iff.1 he; simp [he2]) | (· have he2 : l ≠ [] := ne_of_isEmpty he; simp [he2]) | skip
 refine sr fun Z z => ?_
 simp [len_is0, he]
 refine z _ ?_
 clear z Z
 refine cT (by simp [he]) ?_
 refine sr fun Z z => ?_
 simp [len_is0, he]
 refine z _ ?_
 clear z Z
 refine AT_ret ?_
 simp [len_is0, Tryz.f28]
 first | (· have he2 := List.isEmpty_iff.1 he; simp [he2]) | (· have he2 : l ≠ [] := ne_of_isEmpty he; simp [he2]) | skip

theorem c_print_Sig (s : Sg) (hw : wtG s ≤ 400000000) : Valid Tryz.prog (G0 g rnd) 17 [.agg (encG s)] (.str (sigT s)) := by
 have hw2 : s.name.length + 1 + wtFs s.fms + wtFs s.pms + wt s.res ≤ 400000000 := hw
 have hxt := txt_wt s.res
 have hjf := joinF_wt s.pms
 have hff : (if s.fms.isEmpty then [] else [91] ++ Lib.join (s.fms.map txF) [44, 32] ++ [93] : Str) = fmsT s.fms := rfl
 have hfl := fmsT_wt s.fms
 refine valid_of [] Tryz.func17 rfl (by kernel_rfl) ?_
 refine sr fun Z z => ?_
 simp [encG, Tryz.f17]
 refine z _ ?_
 clear z Z
 refine AT_seq_draw Pt.mixed (by kernel_rfl) fun Z z => ?_
 simp [encG]
 refine RVdn_call ((by have h := c_print_list_api_Formal g rnd 27 txF s.fms (by have := wtFs_len s.fms; omega) (by have := joinF_wt s.fms; omega) (fun x hx => c_print_formal g rnd x (by have := wtFs_mem hx; omega)); rw [hff] at h; exact h)) ?_
 simp [encG]
 repeat refine sg ?_
 refine RVdn_call (c_print_join_api_Param g rnd 25 txF s.pms [44, 32] (by have := wtFs_len s.pms; omega) (by omega) (fun x hx => c_print_param g rnd x (by have := wtFs_mem hx; omega))) ?_
 simp [encG]
 repeat refine sg ?_
 refine RVdn_call ((by have h := c_types_Text g rnd s.res (by omega); simp only [encTy_def] at h; exact h)) ?_
 simp [encG]
 repeat refine sg ?_
 refine z _ ?_
 clear z Z
 refine AT_ret ?_
 simp [encG, Tryz.f17]
 simp [sigT]

theorem c_print_block (f : Str) (ls : List Str) (hl : ls.length ≤ 1000000000) (hf : f.length ≤ 100000000000000) (hb : (ls.map lineT).flatten.length ≤ 100000000000000) : Valid Tryz.prog (G0 g rnd) 22 [.str f, .slice (ls.map encS)] (.str (blockT f ls)) := by
 have h09 := flN_all (ls.map lineT)
 refine valid_of [] Tryz.func22 rfl (by kernel_rfl) ?_
 refine sr fun Z z => ?_
 simp [row_map, encS, Tryz.f22]
 refine z _ ?_
 clear z Z
 refine sr fun Z z => ?_
 simp [row_map, encS]
 repeat refine sg ?_
 refine z _ ?_
 clear z Z
 refine AT_seq_k fun K1 hK1 => ?_
 refine sr fun Z z => ?_
 simp [row_map, encS]
 refine z _ ?_
 clear z Z
 refine AT_block ?_
 refine AT_loop_q [5,10,11,12] [] (fun j s => ∃ k, k ≤ ls.length ∧ j = ls.length - k ∧ s = { n := 24, tm := [(5, .v (.str (f ++ [32, 123, 10] ++ flT (ls.map lineT) k)) none), (10, .v (.slice (ls.map encS)) none), (11, .v (.int .i64 ls.length) none), (12, .v (.int .i64 k) none)], bx := [], tb := [], sh := [], hint := [] }) (ls.length) (by first | rfl | simp) ?_ ?_
 exact ⟨0, by simp [flT_nil]⟩
 rintro j s ⟨k, hk, rfl, rfl⟩ K2 hK2
 refine sr fun Z z => ?_
 simp [row_map, encS]
 refine z _ ?_
 clear z Z
 refine AT_seq_k fun K3 hK3 => ?_
 refine AT_cond (g := none) rfl (fun hb13 => ?_) (fun hb13 => ?_)
 simp [row_map, encS] at hb13
 refine AT_skip ?_
 refine hK3 _ ?_
 refine AT_seq_k fun K4 hK4 => ?_
 refine AT_block ?_
 refine sr fun Z z => ?_
 have hk9 : k < ls.length := by omega
 have hu9 := flT_succ (ls.map lineT) k (by simpa using hk9)
 have hn9 := flN_succ (ls.map lineT) k (by simpa using hk9)
 have hn8 := flN_le (ls.map lineT) (k + 1)
 have hg9 := flT_len (ls.map lineT) k
 simp only [List.getElem_map] at hu9 hn9
 have hll : (lineT ls[k]).length = ls[k].length + 2 := by simp [lineT]
 simp [row_map, encS, hb13]
 refine z _ ?_
 clear z Z
 refine AT_region_q fun Z z => ?_
 simp [row_map, encS, hb13]
 repeat refine sg ?_
 refine z _ ?_
 clear z Z
 refine hK4 _ ?_
 refine AT_region_q fun Z z => ?_
 simp [row_map, encS, hb13]
 repeat refine sg ?_
 refine z _ ?_
 clear z Z
 refine hK2 _ (by first | rfl | simp) (ls.length - (k+1)) (by omega) ?_
 refine ⟨k+1, by omega, by omega, ?_⟩
 simp [hu9, lineT]
 simp [row_map, encS] at hb13
 refine AT_exit ?_
 refine hK1 _ ?_
 refine sr fun Z z => ?_
 have hk9 : k = ls.length := by omega
 subst hk9
 have hfa := flT_all (ls.map lineT)
 rw [List.length_map] at hfa
 rw [hfa]
 simp [row_map, encS, hb13]
 repeat refine sg ?_
 refine z _ ?_
 clear z Z
 refine AT_ret ?_
 simp [row_map, encS, Tryz.f22]
 simp [blockT]

end Go.Proofs.YtepbmjchhcmcoaaGreatDoor
end

section
/- Contracts: texts of declarations and programs. -/
set_option linter.all false
set_option maxHeartbeats 1000000
set_option maxRecDepth 10000
namespace Go.Proofs.YtepbmjchhcmcoaaGreatDoor
open Go Go.Pv
variable (g : Nat → Option (List AV)) (rnd : Bool)

theorem c_print_Decl (a : Dc) (hw : wtD a ≤ 400000000) (hr : a.kind = 1 ∨ a.kind = 2 ∨ rightE a.body = true) : Valid Tryz.prog (G0 g rnd) 11 [.agg (encD a)] (.str (declT a)) := by
 have hw2 : a.name.length + 1 + wtFs a.fms + wtFs a.flds + wtGs a.sigs + a.recv.length + wtSs a.vars + wtG a.sig + wtE a.body ≤ 400000000 := hw
 have hl1 := wtFs_len a.fms
 have hl2 := wtFs_len a.flds
 have hl3 := wtGs_len a.sigs
 have hl4 := wtSs_len a.vars
 have hfl := fmsT_wt a.fms
 have hvl := varsT_wt a.vars
 have hsl := sigT_wt a.sig
 have hbl := txtE_wt a.body
 have hn1 := linesF_wt a.flds
 have hn2 := linesG_wt a.sigs
 have hff : (if a.fms.isEmpty then [] else [91] ++ Lib.join (a.fms.map txF) [44, 32] ++ [93] : Str) = fmsT a.fms := rfl
 have hvv : (if a.vars.isEmpty then [] else [91] ++ Lib.join (a.vars.map id) [44, 32] ++ [93] : Str) = varsT a.vars := by rw [List.map_id]; rfl
 have hvt : (varsT a.vars).length ≤ 2 * wtSs a.vars + 2 := by
   unfold varsT
   split
   · simp
   · simp; omega
 have hb1 := bodyLen_d a.flds a.sigs
 have hb2 := bodyLen_one (114 :: 101 :: 116 :: 117 :: 114 :: 110 :: 32 :: txtE a.body)
 simp only [List.length_cons] at hb2
 refine valid_of [(3, 9)] Tryz.func11 rfl (by kernel_rfl) ?_
 refine sr fun Z z => ?_
 simp [row_map, encD, encS, Tryz.f11]
 refine z _ ?_
 clear z Z
 refine sr fun Z z => ?_
 simp [row_map, encD, encS]
 refine z _ ?_
 clear z Z
 refine AT_seq_k fun K1 hK1 => ?_
 refine sr fun Z z => ?_
 simp [row_map, encD, encS]
 refine z _ ?_
 clear z Z
 refine AT_block ?_
 refine AT_loop_q [1,3,10,11,12] [1] (fun j s => ∃ k, k ≤ a.flds.length ∧ j = a.flds.length - k ∧ s = { n := 79, tm := [(1, .lp 1 0), (3, .v (.slice (((a.flds.take k).map lnF).map encS)) (some (3, 9))), (10, .v (.slice (a.flds.map encF)) none), (11, .v (.int .i64 a.flds.length) none), (12, .v (.int .i64 k) none)], bx := [(1, encD a)], tb := [], sh := [], hint := [(3, 9)] }) (a.flds.length) (by first | rfl | simp) ?_ ?_
 ·
  exact ⟨0, by simp [encD]⟩
 ·
  rintro j s ⟨k, hk, rfl, rfl⟩ K2 hK2
  refine sr fun Z z => ?_
  simp [row_map, encD, encS]
  refine z _ ?_
  clear z Z
  refine AT_seq_k fun K3 hK3 => ?_
  refine AT_cond (g := none) rfl (fun hb13 => ?_) (fun hb13 => ?_)
  ·
   simp [row_map, encD, encS] at hb13
   refine AT_skip ?_
   refine hK3 _ ?_
   refine AT_seq_k fun K4 hK4 => ?_
   refine AT_block ?_
   refine sr fun Z z => ?_
   have hk9 : k < a.flds.length := by omega
   have hm9 := wtFs_mem (l := a.flds) (f := a.flds[k]) (by simp)
   have hx9 := txF_wt a.flds[k]
   simp [row_map, encD, encS, encF, hb13]
   refine z _ ?_
   clear z Z
   refine AT_region_q fun Z z => ?_
   simp [row_map, encD, encS, encF, hb13]
   refine RVn_call ((by have h := c_print_param g rnd a.flds[k] (by omega); simp only [encF] at h; exact h)) ?_
   simp [row_map, encD, encS, encF, hb13]
   repeat refine sg ?_
   refine z _ ?_
   clear z Z
   refine hK4 _ ?_
   refine AT_region_q fun Z z => ?_
   simp [row_map, encD, encS, hb13]
   repeat refine sg ?_
   refine z _ ?_
   clear z Z
   refine hK2 _ (by first | rfl | simp) (a.flds.length - (k+1)) (by omega) ?_
   refine ⟨k+1, by omega, by omega, ?_⟩
   simp [List.take_succ_eq_append_getElem hk9, -List.take_append_getElem, encS, lnF, encD]
  ·
   simp [row_map, encD, encS] at hb13
   refine AT_exit ?_
   refine hK1 _ ?_
   refine AT_seq_k fun K5 hK5 => ?_
   refine sr fun Z z => ?_
   have hk9 : k = a.flds.length := by omega
   subst hk9
   rw [List.take_of_length_le (by simp)]
   simp [row_map, encD, encS, hb13]
   refine z _ ?_
   clear z Z
   refine AT_block ?_
   refine AT_loop_q [1,3,24,25,26] [1] (fun j s => ∃ m, m ≤ a.sigs.length ∧ j = a.sigs.length - m ∧ s = { n := 79, tm := [(1, .lp 1 0), (3, .v (.slice ((a.flds.map lnF ++ (a.sigs.take m).map lnG).map encS)) (some (3, 9))), (24, .v (.slice (a.sigs.map encG)) none), (25, .v (.int .i64 a.sigs.length) none), (26, .v (.int .i64 m) none)], bx := [(1, encD a)], tb := [], sh := [], hint := [(3, 9)] }) (a.sigs.length) (by first | rfl | simp) ?_ ?_
   ·
    exact ⟨0, by simp [encD]⟩
   ·
    rintro j s ⟨m, hm, rfl, rfl⟩ K6 hK6
    refine sr fun Z z => ?_
    simp [row_map, encD, encS, hb13]
    refine z _ ?_
    clear z Z
    refine AT_seq_k fun K7 hK7 => ?_
    refine AT_cond (g := none) rfl (fun hb27 => ?_) (fun hb27 => ?_)
    ·
     simp [row_map, encD, encS, hb13] at hb27
     refine AT_skip ?_
     refine hK7 _ ?_
     refine AT_seq_k fun K8 hK8 => ?_
     refine AT_block ?_
     refine sr fun Z z => ?_
     have hm9 : m < a.sigs.length := by omega
     have hg9 := wtGs_mem (l := a.sigs) (f := a.sigs[m]) (by simp)
     have hx9 := sigT_wt a.sigs[m]
     simp [row_map, encD, encS, encG, hb13, hb27]
     refine z _ ?_
     clear z Z
     refine AT_region_q fun Z z => ?_
     simp [row_map, encD, encS, encG, hb13, hb27]
     refine RVn_call ((by have h := c_print_Sig g rnd a.sigs[m] (by omega); simp only [encG] at h; exact h)) ?_
     simp [row_map, encD, encS, encG, hb13, hb27]
     repeat refine sg ?_
     refine z _ ?_
     clear z Z
     refine hK8 _ ?_
     refine AT_region_q fun Z z => ?_
     simp [row_map, encD, encS, hb13, hb27]
     repeat refine sg ?_
     refine z _ ?_
     clear z Z
     refine hK6 _ (by first | rfl | simp) (a.sigs.length - (m+1)) (by omega) ?_
     refine ⟨m+1, by omega, by omega, ?_⟩
     simp [List.take_succ_eq_append_getElem hm9, -List.take_append_getElem, encS, lnG, encD]
    ·
     simp [row_map, encD, encS, hb13] at hb27
     refine AT_exit ?_
     refine hK5 _ ?_
     refine AT_seq_draw Pt.mixed (by kernel_rfl) fun Z z => ?_
     have hm9 : m = a.sigs.length := by omega
     subst hm9
     rw [List.take_of_length_le (by simp)]
     simp [row_map, encD, encS, hb13, hb27]
     repeat refine sg ?_
     refine RVdn_call ((by have h := c_print_list_api_Formal g rnd 27 txF a.fms (by omega) (by have := joinF_wt a.fms; omega) (fun x hx => c_print_formal g rnd x (by have := wtFs_mem hx; omega)); rw [hff] at h; exact h)) ?_
     simp [row_map, encD, encS, hb13, hb27]
     repeat refine sg ?_
     refine z _ ?_
     clear z Z
     refine AT_seq_k fun K9 hK9 => ?_
     refine sr fun Z z => ?_
     simp [row_map, encD, encS, hb13, hb27]
     refine z _ ?_
     clear z Z
     refine AT_block ?_
     cases hk1 : (a.kind == 1)
     ·
      cases hk2 : (a.kind == 2)
      ·
       have hz1 : ¬ a.kind = 1 := by simpa using hk1
       have hz2 : ¬ a.kind = 2 := by simpa using hk2
       have hrb : rightE a.body = true := hr.elim (fun h => absurd h hz1) (fun h => h.elim (fun h => absurd h hz2) id)
       have hfr : frontT a = wFn ++ a.recv ++ [32] ++ a.name ++ varsT a.vars ++ [41, 32] ++ sigT a.sig := by rw [frontT, if_neg hz1, if_neg hz2]
       have hli : linesT a = [wRet ++ txtE a.body] := by rw [linesT, if_neg (by omega)]
       refine sr fun Z z => ?_
       simp [row_map, encD, encS, hb13, hb27, hk1, hk2]
       refine z _ ?_
       clear z Z
       refine cF (by simp [hb13, hb27, hk1, hk2]) ?_
       refine sr fun Z z => ?_
       simp [row_map, encD, encS, hb13, hb27, hk1, hk2]
       refine z _ ?_
       clear z Z
       refine cF (by simp [hb13, hb27, hk1, hk2]) ?_
       refine AT_seq_draw Pt.mixed (by kernel_rfl) fun Z z => ?_
       simp [row_map, encD, encS, hb13, hb27, hk1, hk2]
       repeat refine sg ?_
       refine RVdn_call ((by have h := c_print_list_string g rnd 29 id a.vars (by omega) (by rw [List.map_id]; omega) (fun x hx => c_print_same g rnd x); rw [hvv] at h; exact h)) ?_
       simp [row_map, encD, encS, hb13, hb27, hk1, hk2]
       repeat refine sg ?_
       refine RVdn_call ((by have h := c_print_Sig g rnd a.sig (by omega); simp only [encG] at h; exact h)) ?_
       simp [row_map, encD, encS, hb13, hb27, hk1, hk2]
       repeat refine sg ?_
       refine z _ ?_
       clear z Z
       refine AT_region_q fun Z z => ?_
       simp [row_map, encD, encS, hb13, hb27, hk1, hk2]
       refine RVn_call ((by have h := c_expr_Text g rnd a.body hrb (by omega); simp only [encE_def] at h; exact h)) ?_
       simp [row_map, encD, encS, hb13, hb27, hk1, hk2]
       repeat refine sg ?_
       refine z _ ?_
       clear z Z
       refine hK9 _ ?_
       refine sr fun Z z => ?_
       simp [row_map, encD, encS, hb13, hb27, hk1, hk2]
       refine RVn_call ((by have h := c_print_block g rnd (frontT a) (linesT a) (by rw [hli]; simp <;> omega) (by rw [hfr]; simp [wFn, wTy]; omega) (by rw [hli]; first | (rw [List.map_append, List.flatten_append, List.length_append]; omega) | (simp [lineT, wRet]; omega)); rw [hfr, hli] at h; simpa [wFn, wTy, wRet, encS] using h)) ?_
       simp [row_map, encD, encS, hb13, hb27, hk1, hk2]
       repeat refine sg ?_
       refine z _ ?_
       clear z Z
       refine AT_ret ?_
       simp [row_map, encD, encS, Tryz.f11]
       all_goals first | (· simp [declT, hfr, hli, wFn, wTy, wRet]) | skip
      ·
       have hz1 : ¬ a.kind = 1 := by simpa using hk1
       have hz2 : a.kind = 2 := by simpa using hk2
       have hfr : frontT a = wTy ++ a.name ++ fmsT a.fms ++ [32, 105, 110, 116, 101, 114, 102, 97, 99, 101] := by rw [frontT, if_neg hz1, if_pos hz2]
       have hli : linesT a = (a.flds.map lnF ++ a.sigs.map lnG) := by rw [linesT, if_pos (.inr hz2)]
       refine sr fun Z z => ?_
       simp [row_map, encD, encS, hb13, hb27, hk1, hk2]
       refine z _ ?_
       clear z Z
       refine cF (by simp [hb13, hb27, hk1, hk2]) ?_
       refine sr fun Z z => ?_
       simp [row_map, encD, encS, hb13, hb27, hk1, hk2]
       refine z _ ?_
       clear z Z
       refine cT (by simp [hb13, hb27, hk1, hk2]) ?_
       refine AT_region_q fun Z z => ?_
       simp [row_map, encD, encS, hb13, hb27, hk1, hk2]
       repeat refine sg ?_
       refine z _ ?_
       clear z Z
       refine hK9 _ ?_
       refine sr fun Z z => ?_
       simp [row_map, encD, encS, hb13, hb27, hk1, hk2]
       refine RVn_call ((by have h := c_print_block g rnd (frontT a) (linesT a) (by rw [hli]; simp <;> omega) (by rw [hfr]; simp [wFn, wTy]; omega) (by rw [hli]; first | (rw [List.map_append, List.flatten_append, List.length_append]; omega) | (simp [lineT, wRet]; omega)); rw [hfr, hli] at h; simpa [wFn, wTy, wRet, encS] using h)) ?_
       simp [row_map, encD, encS, hb13, hb27, hk1, hk2]
       repeat refine sg ?_
       refine z _ ?_
       clear z Z
       refine AT_ret ?_
       simp [row_map, encD, encS, Tryz.f11]
       all_goals first | (· simp [declT, hfr, hli, wFn, wTy, wRet]) | skip
     ·
      have hz1 : a.kind = 1 := by simpa using hk1
      have hfr : frontT a = wTy ++ a.name ++ fmsT a.fms ++ [32, 115, 116, 114, 117, 99, 116] := by rw [frontT, if_pos hz1]
      have hli : linesT a = (a.flds.map lnF ++ a.sigs.map lnG) := by rw [linesT, if_pos (.inl hz1)]
      refine sr fun Z z => ?_
      simp [row_map, encD, encS, hb13, hb27, hk1]
      refine z _ ?_
      clear z Z
      refine cT (by simp [hb13, hb27, hk1]) ?_
      refine AT_region_q fun Z z => ?_
      simp [row_map, encD, encS, hb13, hb27, hk1]
      repeat refine sg ?_
      refine z _ ?_
      clear z Z
      refine hK9 _ ?_
      refine sr fun Z z => ?_
      simp [row_map, encD, encS, hb13, hb27, hk1]
      refine RVn_call ((by have h := c_print_block g rnd (frontT a) (linesT a) (by rw [hli]; simp <;> omega) (by rw [hfr]; simp [wFn, wTy]; omega) (by rw [hli]; first | (rw [List.map_append, List.flatten_append, List.length_append]; omega) | (simp [lineT, wRet]; omega)); rw [hfr, hli] at h; simpa [wFn, wTy, wRet, encS] using h)) ?_
      simp [row_map, encD, encS, hb13, hb27, hk1]
      repeat refine sg ?_
      refine z _ ?_
      clear z Z
      refine AT_ret ?_
      simp [row_map, encD, encS, Tryz.f11]
      all_goals first | (· simp [declT, hfr, hli, wFn, wTy, wRet]) | skip

theorem c_print_Program (p : Pg) (hw : wtPg p ≤ 400000000) (hrm : rightE p.main = true) (hrd : ∀ d ∈ p.decls, d.kind = 1 ∨ d.kind = 2 ∨ rightE d.body = true) : Valid Tryz.prog (G0 g rnd) 9 [.agg (encPg p)] (.str (progT p)) := by
 have hw2 : wtDs p.decls + wtE p.main ≤ 400000000 := hw
 have hlD := wtDs_len p.decls
 have hjd := joinD_wt p.decls
 have hel := txtE_wt p.main
 have hb2 := bodyLen_one (95 :: 32 :: 61 :: 32 :: txtE p.main)
 simp only [List.length_cons] at hb2
 refine valid_of [] Tryz.func9 rfl (by kernel_rfl) ?_
 refine sr fun Z z => ?_
 simp [encPg, Tryz.f9]
 refine z _ ?_
 clear z Z
 refine AT_seq_draw Pt.mixed (by kernel_rfl) fun Z z => ?_
 simp [encPg]
 refine RVdn_call (c_print_join_api_Decl g rnd 11 declT p.decls [] (by omega) (by omega) (fun x hx => c_print_Decl g rnd x (by have := wtDs_mem hx; omega) (hrd x hx))) ?_
 simp [encPg]
 repeat refine sg ?_
 refine RVdn_call ((by have h := c_expr_Text g rnd p.main hrm (by omega); simp only [encE_def] at h; exact h)) ?_
 simp [encPg]
 repeat refine sg ?_
 refine RVdn_call ((by have h := c_print_block g rnd wFm [[95, 32, 61, 32] ++ txtE p.main] (by simp) (by decide) (by simp [lineT]; omega); simpa [encS, wFm] using h)) ?_
 simp [encPg]
 repeat refine sg ?_
 refine z _ ?_
 clear z Z
 refine AT_ret ?_
 simp [encPg, Tryz.f9]
 simp [progT, wHead, wFm]

end Go.Proofs.YtepbmjchhcmcoaaGreatDoor
end

section
/- Contracts: texts, formatted; what every law of this package asks first. -/
set_option linter.all false
set_option maxHeartbeats 1000000
set_option maxRecDepth 10000
namespace Go.Proofs.YtepbmjchhcmcoaaGreatDoor
open Go Go.Pv
variable (g : Nat → Option (List AV)) (rnd : Bool)

def wOk1 : Exp := .mk 3 [] (.mk [84] [] 27) [] [] 27
theorem pw1 : wholeC 92 pg0 rdP [112, 97, 99, 107, 97, 103, 101, 32, 109, 97, 105, 110, 59, 102, 117, 110, 99, 32, 109, 97, 105, 110, 40, 41, 123, 95, 61, 84, 123, 125, 125] = (⟨[], wOk1⟩, .nilIface) := by kernel_rfl
theorem pw2 : wholeC 92 pg0 rdP [120] = (pg0, .iface 92 (.agg [.int .i64 2, .int .i64 0])) := by kernel_rfl
theorem pw3 : progT ⟨[], wOk1⟩ = [112, 97, 99, 107, 97, 103, 101, 32, 109, 97, 105, 110, 59, 10, 102, 117, 110, 99, 32, 109, 97, 105, 110, 40, 41, 32, 123, 10, 9, 95, 32, 61, 32, 84, 123, 125, 10, 125, 10] := by kernel_rfl
theorem pw4 : sigT ⟨[109], [], [], .mk [84] [] 0, 0⟩ = [109, 40, 41, 32, 84] := by kernel_rfl
theorem pw5 : declT ⟨1, [84], [], [], [], [], [], sg0, ex0, 0⟩ = [116, 121, 112, 101, 32, 84, 32, 115, 116, 114, 117, 99, 116, 32, 123, 10, 125, 59, 10] := by kernel_rfl

theorem c_print_Format (s : Str) (hs : s.length ≤ 1000000) (hres : g 2 = some reservedA) (R : AV) (hW : (∃ p, wholeC 92 pg0 rdP s = (p, .nilIface) ∧ wtPg p ≤ 400000000 ∧ rightE p.main = true ∧ (∀ d ∈ p.decls, d.kind = 1 ∨ d.kind = 2 ∨ rightE d.body = true) ∧ R = .tup [.str (progT p), .nilIface]) ∨ (∃ p v, wholeC 92 pg0 rdP s = (p, .iface 92 v) ∧ R = .tup [.str [], .iface 92 v])) : Valid Tryz.prog (G0 g false) 13 [.str s] R := by

 refine valid_of [] Tryz.func13 rfl (by kernel_rfl) ?_
 refine sr fun Z z => ?_
 simp [encPg, Tryz.f13]
 refine z _ ?_
 clear z Z
 rcases hW with ⟨p, hp, hw, hm, hd, rfl⟩ | ⟨p, v, hp, rfl⟩
 refine sr fun Z z => ?_
 simp [encPg]
 refine RVn_call ((by have h := c_parse_Program g s hs hres; rw [hp] at h; simp only [encPg] at h; exact h)) ?_
 simp [encPg]
 refine z _ ?_
 clear z Z
 refine AT_seq_k fun K1 hK1 => ?_
 refine sr fun Z z => ?_
 simp [encPg]
 refine z _ ?_
 clear z Z
 refine cF (by simp) ?_
 refine AT_skip ?_
 refine hK1 _ ?_
 refine sr fun Z z => ?_
 simp [encPg]
 refine RVn_call ((by have h := c_print_Program g false p hw hm hd; simp only [encPg] at h; exact h)) ?_
 simp [encPg]
 refine z _ ?_
 clear z Z
 refine AT_ret ?_
 simp [encPg, Tryz.f13]
 skip
 refine sr fun Z z => ?_
 simp [encPg]
 refine RVn_call ((by have h := c_parse_Program g s hs hres; rw [hp] at h; simp only [encPg] at h; exact h)) ?_
 simp [encPg]
 refine z _ ?_
 clear z Z
 refine AT_seq_k fun K2 hK2 => ?_
 refine sr fun Z z => ?_
 simp [encPg]
 refine z _ ?_
 clear z Z
 refine cT (by simp) ?_
 refine sr fun Z z => ?_
 simp [encPg]
 refine z _ ?_
 clear z Z
 refine AT_ret ?_
 simp [encPg, Tryz.f13]
 skip

theorem c_law09x_awake (hres : g 2 = some reservedA) : Valid Tryz.prog (G0 g false) 6 [] (.bool true) := by

 refine valid_of [] Tryz.func6 rfl (by kernel_rfl) ?_
 refine sr fun Z z => ?_
 simp [pw3, Tryz.f6]
 refine z _ ?_
 clear z Z
 refine sr fun Z z => ?_
 simp [pw3]
 refine RVn_call ((by have h := c_print_Format g [112, 97, 99, 107, 97, 103, 101, 32, 109, 97, 105, 110, 59, 102, 117, 110, 99, 32, 109, 97, 105, 110, 40, 41, 123, 95, 61, 84, 123, 125, 125] (by decide) hres _ (.inl ⟨_, pw1, by decide, by decide, (fun d hd => nomatch hd), rfl⟩); exact h)) ?_
 simp [pw3]
 refine z _ ?_
 clear z Z
 refine sr fun Z z => ?_
 simp [pw3]
 refine RVn_call ((by have h := c_print_Format g [120] (by decide) hres _ (.inr ⟨_, _, pw2, rfl⟩); exact h)) ?_
 simp [pw3]
 refine z _ ?_
 clear z Z
 refine sr fun Z z => ?_
 simp [pw3]
 refine RVn_call ((by have h := c_print_Sig g false ⟨[109], [], [], .mk [84] [] 0, 0⟩ (by decide); rw [pw4] at h; exact h : Valid Tryz.prog (G0 g false) 17 [.agg [.str [109], .slice [], .slice [], .str [84], .slice [], .int .i64 0, .int .i64 0]] (.str [109, 40, 41, 32, 84]))) ?_
 simp [pw3]
 refine RVn_call ((by have h := c_print_Decl g false ⟨1, [84], [], [], [], [], [], sg0, ex0, 0⟩ (by decide) (.inl rfl); rw [pw5] at h; exact h : Valid Tryz.prog (G0 g false) 11 [.agg (encD ⟨1, [84], [], [], [], [], [], sg0, ex0, 0⟩)] (.str [116, 121, 112, 101, 32, 84, 32, 115, 116, 114, 117, 99, 116, 32, 123, 10, 125, 59, 10]))) ?_
 simp [pw3]
 refine z _ ?_
 clear z Z
 refine AT_ret ?_
 simp [pw3, Tryz.f6]

end Go.Proofs.YtepbmjchhcmcoaaGreatDoor
end

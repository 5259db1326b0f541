import Derived.Test.YtjkabaejabibnaaDoorPt
import Derived.Test.YtjkabaejabibnaaDoorPvPb
import Derived.Test.YtjkabaejabibnaaDoorPvY
import Derived.Test.YtjkabaejabibnaaDoorXNaC
section
/- Contracts. -/
set_option linter.all false
set_option maxHeartbeats 1000000
set_option maxRecDepth 10000
namespace Go.Proofs.YtjkabaejabibnaaDoor
open Go Go.Pv
variable (g : Nat → Option (List AV)) (rnd : Bool)

theorem c_cmp_Or_int (l : List Int) (hl : l.length ≤ 1099511627776) : Valid Tryd.prog (G0 g rnd) 80 [.slice (l.map encI)] (.int .i64 (orI l)) := by

 refine valid_of [] Tryd.func80 rfl (by kernel_rfl) ?_
 refine sr fun Z z => ?_
 simp [row_map, Tryd.f80]
 refine z _ ?_
 clear z Z
 refine sr fun Z z => ?_
 simp [row_map]
 refine z _ ?_
 clear z Z
 refine AT_seq_k fun K1 hK1 => ?_
 refine sr fun Z z => ?_
 simp [row_map]
 refine z _ ?_
 clear z Z
 refine AT_block ?_
 refine AT_loop_q [3,6,7,8] [] (fun j s => ∃ k, k ≤ l.length ∧ orI l = orI (l.drop k) ∧ j = l.length - k ∧ s = { n := 18, tm := [(3, .v (.int .i64 0) none), (6, .v (.slice (l.map encI)) none), (7, .v (.int .i64 l.length) none), (8, .v (.int .i64 k) none)], bx := [], tb := [], sh := [], hint := [] }) (l.length) (by first | rfl | simp) ?_ ?_
 exact ⟨0, by simp⟩
 rintro j s ⟨k, hk, hc, rfl, rfl⟩ K2 hK2
 refine sr fun Z z => ?_
 simp [row_map]
 refine z _ ?_
 clear z Z
 refine AT_seq_k fun K3 hK3 => ?_
 refine AT_cond (g := none) rfl (fun hb9 => ?_) (fun hb9 => ?_)
 simp [row_map] at hb9
 refine AT_skip ?_
 refine hK3 _ ?_
 refine AT_seq_k fun K4 hK4 => ?_
 refine AT_block ?_
 refine sr fun Z z => ?_
 have hd := List.drop_eq_getElem_cons hb9
 simp [row_map, hb9]
 refine z _ ?_
 clear z Z
 refine sr fun Z z => ?_
 simp [row_map, hb9]
 refine z _ ?_
 clear z Z
 refine AT_cond (g := none) rfl (fun hb14 => ?_) (fun hb14 => ?_)
 simp [row_map, hb9] at hb14
 refine sr fun Z z => ?_
 simp [row_map, hb9, hb14]
 refine z _ ?_
 clear z Z
 refine AT_ret ?_
 simp [row_map, Tryd.f80]
 first | (rw [hc, hd, orI, if_neg hb14]) | (rw [hc, List.drop_eq_nil_of_le hb9]; rfl)
 simp [row_map, hb9] at hb14
 refine AT_skip ?_
 refine hK4 _ ?_
 refine AT_region_q fun Z z => ?_
 simp [row_map, hb9, hb14]
 repeat refine sg ?_
 refine z _ ?_
 clear z Z
 refine hK2 _ (by first | rfl | simp) (l.length - (k+1)) (by omega) ?_
 refine ⟨k+1, by omega, ?_, by omega, by simp⟩
 rw [hc, hd, orI, if_pos hb14]
 simp [row_map] at hb9
 refine AT_exit ?_
 refine hK1 _ ?_
 refine sr fun Z z => ?_
 simp [row_map, hb9]
 refine z _ ?_
 clear z Z
 refine AT_ret ?_
 simp [row_map, Tryd.f80]
 first | (rw [hc, hd, orI, if_neg hb14]) | (rw [hc, List.drop_eq_nil_of_le hb9]; rfl)

theorem c_cmp_Or_int_p (a b : Int) : Valid Tryd.prog (G0 g rnd) 80 [.slice [[.int .i64 a], [.int .i64 b]]] (.int .i64 (if a = 0 then b else a)) := by
  have h := c_cmp_Or_int g rnd [a, b] (by simp)
  have e : orI [a, b] = if a = 0 then b else a := by simp only [orI]; split <;> (try split) <;> simp_all
  rw [e] at h
  exact h

theorem c_slices_CompareFunc_api_Type_api_Type_api_Type_api_Type (ts us : List Ty) (hl : ts.length ≤ 1099511627776) (hcmp : ∀ t ∈ ts, ∀ u ∈ us, Valid Tryd.prog (G0 g rnd) 66 [.agg (encTy t), .agg (encTy u)] (.int .i64 (cmpT t u))) : Valid Tryd.prog (G0 g rnd) 82 [.slice (ts.map encTy), .slice (us.map encTy), .func 66 []] (.int .i64 (cmpTs ts us)) := by

 refine valid_of [] Tryd.func82 rfl (by kernel_rfl) ?_
 refine sr fun Z z => ?_
 simp [row_map, Tryd.f82]
 refine z _ ?_
 clear z Z
 refine AT_seq_k fun K1 hK1 => ?_
 refine sr fun Z z => ?_
 simp [row_map]
 refine z _ ?_
 clear z Z
 refine AT_block ?_
 refine AT_loop_q [0,1,2,11,12,13] [] (fun j s => ∃ k, (k ≤ ts.length ∧ k ≤ us.length) ∧ cmpTs ts us = cmpTs (ts.drop k) (us.drop k) ∧ j = ts.length - k ∧ s = { n := 39, tm := [(0, .v (.slice (ts.map encTy)) none), (1, .v (.slice (us.map encTy)) none), (2, .v (.func 66 []) none), (11, .v (.slice (ts.map encTy)) none), (12, .v (.int .i64 ts.length) none), (13, .v (.int .i64 k) none)], bx := [], tb := [], sh := [], hint := [] }) (ts.length) (by first | rfl | simp) ?_ ?_
 exact ⟨0, by simp⟩
 rintro j s ⟨k, ⟨hk1, hk2⟩, hc, rfl, rfl⟩ K2 hK2
 refine sr fun Z z => ?_
 simp [row_map]
 refine z _ ?_
 clear z Z
 refine AT_seq_k fun K3 hK3 => ?_
 refine AT_cond (g := none) rfl (fun hb14 => ?_) (fun hb14 => ?_)
 simp [row_map] at hb14
 refine AT_skip ?_
 refine hK3 _ ?_
 refine AT_seq_k fun K4 hK4 => ?_
 refine AT_block ?_
 refine sr fun Z z => ?_
 simp [row_map, hb14]
 refine z _ ?_
 clear z Z
 refine AT_seq_k fun K5 hK5 => ?_
 refine sr fun Z z => ?_
 simp [row_map, hb14]
 refine z _ ?_
 clear z Z
 refine AT_cond (g := none) rfl (fun hb21 => ?_) (fun hb21 => ?_)
 simp [row_map, hb14] at hb21
 refine sr fun Z z => ?_
 simp [row_map, hb14, hb21]
 refine z _ ?_
 clear z Z
 refine AT_ret ?_
 simp [row_map, Tryd.f82]
 (rw [hc, cmpTs_end ts us k (by omega) hk1 hk2]; repeat (first | omega | split))
 simp [row_map, hb14] at hb21
 refine AT_skip ?_
 refine hK5 _ ?_
 refine sr fun Z z => ?_
 have hda := List.drop_eq_getElem_cons hb14
 have hdb := List.drop_eq_getElem_cons hb21
 simp [row_map, hb14, hb21]
 refine z _ ?_
 clear z Z
 refine sr fun Z z => ?_
 simp [row_map, hb14, hb21]
 refine RVn_call (hcmp ts[k] (by simp) us[k] (by simp)) ?_
 simp [row_map, hb14, hb21]
 refine z _ ?_
 clear z Z
 refine sr fun Z z => ?_
 simp [row_map, hb14, hb21]
 refine z _ ?_
 clear z Z
 refine AT_cond (g := none) rfl (fun hb31 => ?_) (fun hb31 => ?_)
 simp [row_map, hb14, hb21] at hb31
 refine sr fun Z z => ?_
 simp [row_map, hb14, hb21, hb31]
 refine z _ ?_
 clear z Z
 refine AT_ret ?_
 simp [row_map, Tryd.f82]
 (rw [hc, hda, hdb, cmpTs_cons, if_neg hb31])
 simp [row_map, hb14, hb21] at hb31
 refine AT_skip ?_
 refine hK4 _ ?_
 refine AT_region_q fun Z z => ?_
 simp [row_map, hb14, hb21, hb31]
 repeat refine sg ?_
 refine z _ ?_
 clear z Z
 refine hK2 _ (by first | rfl | simp) (ts.length - (k+1)) (by omega) ?_
 refine ⟨k+1, by omega, ?_, by omega, by simp⟩
 rw [hc, hda, hdb, cmpTs_cons, if_pos hb31]
 simp [row_map] at hb14
 refine AT_exit ?_
 refine hK1 _ ?_
 refine AT_seq_k fun K6 hK6 => ?_
 refine sr fun Z z => ?_
 simp [row_map, hb14]
 refine z _ ?_
 clear z Z
 refine AT_cond (g := none) rfl (fun hb38 => ?_) (fun hb38 => ?_)
 simp [row_map, hb14] at hb38
 refine sr fun Z z => ?_
 simp [row_map, hb14, hb38]
 refine z _ ?_
 clear z Z
 refine AT_ret ?_
 simp [row_map, Tryd.f82]
 (rw [hc, cmpTs_end ts us k (by omega) hk1 hk2]; repeat (first | omega | split))
 simp [row_map, hb14] at hb38
 refine AT_skip ?_
 refine hK6 _ ?_
 refine sr fun Z z => ?_
 simp [row_map, hb14, hb38]
 refine z _ ?_
 clear z Z
 refine AT_ret ?_
 simp [row_map, Tryd.f82]
 (rw [hc, cmpTs_end ts us k (by omega) hk1 hk2]; repeat (first | omega | split))

theorem c_types_Compare : ∀ t u : Ty, wt t ≤ 1099511627776 → Valid Tryd.prog (G0 g rnd) 66 [.agg (encTy t), .agg (encTy u)] (.int .i64 (cmpT t u)) := by
 intro t
 induction t using Ty.ind with
 | h n ts p ih =>
 intro u hw
 obtain ⟨m, us, q⟩ := u
 have hw2 : n.length + 1 + wts ts ≤ 1099511627776 := by simpa [wt] using hw
 have hln := wts_len ts
 refine valid_of [] Tryd.func66 rfl (by kernel_rfl) ?_
 refine sr fun Z z => ?_
 simp [row_map, Tryd.f66]
 refine z _ ?_
 clear z Z
 refine AT_seq_draw Pt.mixed (by kernel_rfl) fun Z z => ?_
 simp [row_map]
 refine RVdn_call (c_name_Compare g rnd n m) ?_
 simp [row_map]
 refine RVdn_call (c_slices_CompareFunc_api_Type_api_Type_api_Type_api_Type g rnd ts us (by omega) (fun t ht u _ => ih t ht u (Nat.le_trans (wts_mem ht) (by omega)))) ?_
 simp [row_map]
 refine RVdn_call (c_cmp_Or_int_p g rnd _ _) ?_
 simp [row_map]
 refine z _ ?_
 clear z Z
 refine AT_ret ?_
 simp [row_map, Tryd.f66]
 simp only [cmpT, Ty.name, Ty.args]; first | rfl | (split <;> rfl)

theorem c_types_Same (t u : Ty) (hw : wt t ≤ 1099511627776) : Valid Tryd.prog (G0 g rnd) 35 [.agg (encTy t), .agg (encTy u)] (.bool (cmpT t u == 0)) := by

 refine valid_of [] Tryd.func35 rfl (by kernel_rfl) ?_
 refine sr fun Z z => ?_
 simp [Tryd.f35]
 refine z _ ?_
 clear z Z
 refine sr fun Z z => ?_
 simp
 refine RVn_call (c_types_Compare g rnd t u hw) ?_
 simp
 refine z _ ?_
 clear z Z
 refine AT_ret ?_
 simp [Tryd.f35]

end Go.Proofs.YtjkabaejabibnaaDoor
end

section
/- Contracts. -/
set_option linter.all false
set_option maxHeartbeats 1000000
set_option maxRecDepth 10000
namespace Go.Proofs.YtjkabaejabibnaaDoor
open Go Go.Pv
variable (g : Nat → Option (List AV)) (rnd : Bool)

theorem c_ref04x_Equal : ∀ t u : Ty, wt t ≤ 1099511627776 → Valid Tryd.prog (G0 g rnd) 47 [.agg (encTy t), .agg (encTy u)] (.bool (eqT t u)) := by
 intro t
 induction t using Ty.ind with
 | h n ts p ih =>
 intro u hw
 obtain ⟨m, us, q⟩ := u
 have hw2 : n.length + 1 + wts ts ≤ 1099511627776 := by simpa [wt] using hw
 have hln := wts_len ts
 refine valid_of [] Tryd.func47 rfl (by kernel_rfl) ?_
 refine sr fun Z z => ?_
 simp [row_map, Tryd.f47]
 refine z _ ?_
 clear z Z
 refine AT_seq_k fun K1 hK1 => ?_
 by_cases h1 : n = m
 subst h1
 by_cases h2 : p = q
 subst h2
 refine sr fun Z z => ?_
 simp [row_map]
 refine z _ ?_
 clear z Z
 refine AT_cond (g := none) rfl (fun hb26 => ?_) (fun hb26 => ?_)
 simp [row_map] at hb26
 refine sr fun Z z => ?_
 simp [row_map]
 refine z _ ?_
 clear z Z
 refine AT_ret ?_
 simp [row_map, Tryd.f47]
 (· simp [eqT, eqTs_len (show ts.length ≠ us.length by omega)])
 simp [row_map] at hb26
 refine AT_skip ?_
 refine hK1 _ ?_
 refine AT_seq_k fun K2 hK2 => ?_
 refine sr fun Z z => ?_
 simp [row_map]
 refine z _ ?_
 clear z Z
 refine AT_block ?_
 refine AT_loop_q [2,3,5] [2,3] (fun j s => ∃ k, k ≤ ts.length ∧ eqTs ts us = eqTs (ts.drop k) (us.drop k) ∧ j = ts.length - k ∧ s = { n := 46, tm := [(2, .lp 2 0), (3, .lp 3 0), (5, .v (.int .i64 k) none)], bx := [(2, encTy (.mk n ts p)), (3, encTy (.mk n us p))], tb := [], sh := [], hint := [] }) (ts.length) (by first | rfl | simp) ?_ ?_
 exact ⟨0, by simp⟩
 rintro j s ⟨k, hk, hc, rfl, rfl⟩ K3 hK3
 refine AT_seq_k fun K4 hK4 => ?_
 refine sr fun Z z => ?_
 simp [row_map]
 refine z _ ?_
 clear z Z
 refine AT_cond (g := none) rfl (fun hb31 => ?_) (fun hb31 => ?_)
 simp [row_map] at hb31
 refine AT_skip ?_
 refine hK4 _ ?_
 refine AT_seq_k fun K5 hK5 => ?_
 refine AT_block ?_
 refine AT_seq_draw Pt.mixed (by kernel_rfl) fun Z z => ?_
 have hku : k < us.length := by omega
 have hm := wts_mem (l := ts) (t := ts[k]) (by simp)
 have hda := List.drop_eq_getElem_cons hb31
 have hdb := List.drop_eq_getElem_cons hku
 simp [row_map, hku, hb31]
 refine RVdn_call (ih ts[k] (by simp) us[k] (by omega)) ?_
 simp [row_map, hku, hb31]
 refine z _ ?_
 clear z Z
 refine AT_cond (g := none) rfl (fun hb45 => ?_) (fun hb45 => ?_)
 simp [row_map, hb31] at hb45
 refine sr fun Z z => ?_
 simp [row_map, hb31, hb45]
 refine z _ ?_
 clear z Z
 refine AT_ret ?_
 simp [row_map, Tryd.f47]
 (rw [show eqT (.mk n ts p) (.mk n us p) = eqTs ts us by simp [eqT], hc, hda, hdb, eqTs_cons, hb45]; rfl)
 simp [row_map, hb31] at hb45
 refine AT_skip ?_
 refine hK5 _ ?_
 refine AT_region_q fun Z z => ?_
 simp [row_map, hb31, hb45]
 repeat refine sg ?_
 refine z _ ?_
 clear z Z
 refine hK3 _ (by first | rfl | simp) (ts.length - (k+1)) (by omega) ?_
 refine ⟨k+1, by omega, ?_, by omega, by simp⟩
 rw [hc, hda, hdb, eqTs_cons, hb45, Bool.true_and]
 simp [row_map] at hb31
 refine AT_exit ?_
 refine hK2 _ ?_
 refine sr fun Z z => ?_
 simp [row_map, hb31]
 refine z _ ?_
 clear z Z
 refine AT_ret ?_
 simp [row_map, Tryd.f47]
 (rw [show eqT (.mk n ts p) (.mk n us p) = eqTs ts us by simp [eqT], hc, List.drop_eq_nil_of_le hb31, List.drop_eq_nil_of_le (show us.length ≤ k by omega)]; rfl)
 have h2b : (p != q) = true := by simpa using h2
 refine sr fun Z z => ?_
 simp [row_map, h2b]
 refine z _ ?_
 clear z Z
 refine cT (by simp [h2b]) ?_
 refine sr fun Z z => ?_
 simp [row_map, h2b]
 refine z _ ?_
 clear z Z
 refine AT_ret ?_
 simp [row_map, Tryd.f47]
 (· simp [eqT, h2])
 have h1b : (n == m) = false := by simpa using h1
 refine sr fun Z z => ?_
 simp [row_map, h1b]
 refine z _ ?_
 clear z Z
 refine cT (by simp [h1b]) ?_
 refine sr fun Z z => ?_
 simp [row_map, h1b]
 refine z _ ?_
 clear z Z
 refine AT_ret ?_
 simp [row_map, Tryd.f47]
 (· simp [eqT, h1])

end Go.Proofs.YtjkabaejabibnaaDoor
end

section
/- Contracts. -/
set_option linter.all false
set_option maxHeartbeats 1000000
set_option maxRecDepth 10000
namespace Go.Proofs.YtjkabaejabibnaaDoor
open Go Go.Pv
variable (g : Nat → Option (List AV)) (rnd : Bool)

theorem c_types_Depth (t : Ty) : wt t ≤ 1099511627776 → Valid Tryd.prog (G0 g rnd) 44 [.agg (encTy t)] (.int .i64 (dep t)) := by
 induction t using Ty.ind with
 | h n ts p ih =>
 intro hw
 have hw2 : n.length + 1 + wts ts ≤ 1099511627776 := by simpa [wt] using hw
 have hln := wts_len ts
 refine valid_of [] Tryd.func44 rfl (by kernel_rfl) ?_
 refine sr fun Z z => ?_
 simp [row_map, Tryd.f44]
 refine z _ ?_
 clear z Z
 refine sr fun Z z => ?_
 simp [row_map]
 refine z _ ?_
 clear z Z
 refine AT_seq_k fun K1 hK1 => ?_
 refine sr fun Z z => ?_
 simp [row_map]
 refine z _ ?_
 clear z Z
 refine AT_block ?_
 refine AT_loop_q [3,7,8,9,1] [1] (fun j s => ∃ k, k ≤ ts.length ∧ j = ts.length - k ∧ s = { n := 20, tm := [(3, .v (.int .i64 (deps (ts.take k) : Nat)) none), (7, .v (.slice (ts.map encTy)) none), (8, .v (.int .i64 ts.length) none), (9, .v (.int .i64 k) none), (1, .lp 1 0)], bx := [(1, encTy (.mk n ts p))], tb := [], sh := [], hint := [] }) (ts.length) (by first | rfl | simp) ?_ ?_
 exact ⟨0, by simp [deps]⟩
 rintro j s ⟨k, hk, rfl, rfl⟩ K2 hK2
 refine sr fun Z z => ?_
 simp [row_map]
 refine z _ ?_
 clear z Z
 refine AT_seq_k fun K3 hK3 => ?_
 refine AT_cond (g := none) rfl (fun hb10 => ?_) (fun hb10 => ?_)
 simp [row_map] at hb10
 refine AT_skip ?_
 refine hK3 _ ?_
 refine AT_seq_k fun K4 hK4 => ?_
 refine AT_block ?_
 refine sr fun Z z => ?_
 have hm := wts_mem (l := ts) (t := ts[k]) (by simp)
 have hdk := dep_wt ts[k]
 have hdt := deps_wts (ts.take k)
 have hwt := wts_take ts k
 simp [row_map, hb10]
 refine z _ ?_
 clear z Z
 refine AT_region_q fun Z z => ?_
 simp [row_map, hb10]
 refine RVn_call (ih ts[k] (by simp) (by omega)) ?_
 simp [row_map, hb10]
 refine z _ ?_
 clear z Z
 refine hK4 _ ?_
 refine AT_region_q fun Z z => ?_
 simp [row_map, hb10]
 repeat refine sg ?_
 refine z _ ?_
 clear z Z
 refine hK2 _ (by first | rfl | simp) (ts.length - (k+1)) (by omega) ?_
 exact ⟨k+1, by omega, by omega, by simp [deps_take _ _ hb10]; split <;> omega⟩
 simp [row_map] at hb10
 refine AT_exit ?_
 refine hK1 _ ?_
 refine sr fun Z z => ?_
 have hdt := deps_wts (ts.take k)
 have hwt := wts_take ts k
 simp [row_map, hb10]
 repeat refine sg ?_
 refine z _ ?_
 clear z Z
 refine AT_ret ?_
 simp [row_map, Tryd.f44]
 rw [List.take_of_length_le hb10]; simp [dep]

end Go.Proofs.YtjkabaejabibnaaDoor
end

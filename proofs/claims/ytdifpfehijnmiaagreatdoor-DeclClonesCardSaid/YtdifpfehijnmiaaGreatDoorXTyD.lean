import Derived.Test.YtdifpfehijnmiaaGreatDoorPt
import Derived.Test.YtdifpfehijnmiaaGreatDoorPvPb
import Derived.Test.YtdifpfehijnmiaaGreatDoorPvY
section
/- Contracts. -/
set_option linter.all false
set_option maxHeartbeats 1000000
set_option maxRecDepth 10000
namespace Go.Proofs.YtdifpfehijnmiaaGreatDoor
open Go Go.Pv
variable (g : Nat → Option (List AV)) (rnd : Bool)

theorem c_cmp_isNaN_string (s : Str) : Valid Tryz.prog (G0 g rnd) 152 [.str s] (.bool false) := by

 refine valid_of [] Tryz.func152 rfl (by kernel_rfl) ?_
 refine sr fun Z z => ?_
 simp [Tryz.f152]
 refine z _ ?_
 clear z Z
 refine sr fun Z z => ?_
 simp
 refine z _ ?_
 clear z Z
 refine AT_ret ?_
 simp [Tryz.f152]

theorem c_cmp_Compare_string (a b : Str) : Valid Tryz.prog (G0 g rnd) 149 [.str a, .str b] (.int .i64 (cmpS a b)) := by

 refine valid_of [] Tryz.func149 rfl (by kernel_rfl) ?_
 refine sr fun Z z => ?_
 simp [Tryz.f149]
 refine z _ ?_
 clear z Z
 refine sr fun Z z => ?_
 simp
 refine RVn_call (c_cmp_isNaN_string g rnd _) ?_
 simp
 refine z _ ?_
 clear z Z
 refine sr fun Z z => ?_
 simp
 refine RVn_call (c_cmp_isNaN_string g rnd _) ?_
 simp
 refine z _ ?_
 clear z Z
 refine AT_seq_k fun K1 hK1 => ?_
 refine sr fun Z z => ?_
 simp
 refine z _ ?_
 clear z Z
 refine cF (by simp) ?_
 refine AT_skip ?_
 refine hK1 _ ?_
 refine AT_seq_k fun K2 hK2 => ?_
 refine sr fun Z z => ?_
 simp
 refine z _ ?_
 clear z Z
 refine cF (by simp) ?_
 refine AT_skip ?_
 refine hK2 _ ?_
 refine AT_seq_k fun K3 hK3 => ?_
 refine sr fun Z z => ?_
 simp
 refine z _ ?_
 clear z Z
 refine AT_cond (g := none) rfl (fun hb16 => ?_) (fun hb16 => ?_)
 refine sr fun Z z => ?_
 simp [hb16]
 refine z _ ?_
 clear z Z
 refine AT_ret ?_
 simp [Tryz.f149]
 unfold cmpS; cases hh : Op.bytesLess a b <;> by_cases he : a = b <;> simp_all
 refine AT_skip ?_
 refine hK3 _ ?_
 refine AT_seq_k fun K4 hK4 => ?_
 refine sr fun Z z => ?_
 simp [hb16]
 refine z _ ?_
 clear z Z
 refine AT_cond (g := none) rfl (fun hb19 => ?_) (fun hb19 => ?_)
 simp [hb16] at hb19
 refine sr fun Z z => ?_
 simp [hb16, hb19]
 refine z _ ?_
 clear z Z
 refine AT_ret ?_
 simp [Tryz.f149]
 unfold cmpS; cases hh : Op.bytesLess a b <;> by_cases he : a = b <;> simp_all
 simp [hb16] at hb19
 refine AT_skip ?_
 refine hK4 _ ?_
 refine sr fun Z z => ?_
 simp [hb16, hb19]
 refine z _ ?_
 clear z Z
 refine AT_ret ?_
 simp [Tryz.f149]
 unfold cmpS; cases hh : Op.bytesLess a b <;> by_cases he : a = b <;> simp_all

theorem c_name_Compare (a b : Str) : Valid Tryz.prog (G0 g rnd) 133 [.str a, .str b] (.int .i64 (cmpS a b)) := by

 refine valid_of [] Tryz.func133 rfl (by kernel_rfl) ?_
 refine sr fun Z z => ?_
 simp [Tryz.f133]
 refine z _ ?_
 clear z Z
 refine sr fun Z z => ?_
 simp
 refine RVn_call (c_cmp_Compare_string g rnd _ _) ?_
 simp
 refine z _ ?_
 clear z Z
 refine AT_ret ?_
 simp [Tryz.f133]

theorem c_ref01x_Compare (a b : Str) (ha : a.length ≤ 1099511627776) : Valid Tryz.prog (G0 g rnd) 135 [.str a, .str b] (.int .i64 (cmpS a b)) := by

 refine valid_of [] Tryz.func135 rfl (by kernel_rfl) ?_
 refine sr fun Z z => ?_
 simp [Tryz.f135]
 refine z _ ?_
 clear z Z
 refine AT_seq_k fun K1 hK1 => ?_
 refine sr fun Z z => ?_
 simp
 refine z _ ?_
 clear z Z
 refine AT_block ?_
 refine AT_loop_q [0,1,5] [] (fun j s => ∃ k, (k ≤ a.length ∧ k ≤ b.length) ∧ cmpS a b = cmpS (a.drop k) (b.drop k) ∧ j = a.length - k ∧ s = { n := 42, tm := [(0, .v (.str a) none), (1, .v (.str b) none), (5, .v (.int .i64 k) none)], bx := [], tb := [], sh := [], hint := [] }) (a.length) (by first | rfl | simp) ?_ ?_
 exact ⟨0, by simp⟩
 rintro j s ⟨k, ⟨hk1, hk2⟩, hc, rfl, rfl⟩ K2 hK2
 refine AT_seq_k fun K3 hK3 => ?_
 by_cases hka : k < a.length
 refine sr fun Z z => ?_
 simp [hka]
 refine z _ ?_
 clear z Z
 refine AT_cond (g := none) rfl (fun hb15 => ?_) (fun hb15 => ?_)
 simp [hka] at hb15
 refine AT_skip ?_
 refine hK3 _ ?_
 refine AT_seq_k fun K4 hK4 => ?_
 refine AT_block ?_
 refine AT_seq_k fun K5 hK5 => ?_
 refine AT_seq_draw Pt.mixed (by kernel_rfl) fun Z z => ?_
 have hda := List.drop_eq_getElem_cons hka
 have hdb := List.drop_eq_getElem_cons hb15
 simp [hka, hb15]
 refine z _ ?_
 clear z Z
 refine AT_cond (g := none) rfl (fun hb24 => ?_) (fun hb24 => ?_)
 simp [hka, hb15] at hb24
 refine sr fun Z z => ?_
 simp [hka, hb15, hb24]
 refine z _ ?_
 clear z Z
 refine AT_ret ?_
 simp [Tryz.f135]
 first | (rw [hc, hda, hdb, cmpS_cons]; repeat (first | omega | split)) | (rw [hc, cmpS_end a b k (by omega) hk1 hk2]; repeat (first | omega | split))
 simp [hka, hb15] at hb24
 refine AT_skip ?_
 refine hK5 _ ?_
 refine AT_seq_draw Pt.mixed (by kernel_rfl) fun Z z => ?_
 simp [hka, hb15, hb24]
 refine z _ ?_
 clear z Z
 refine AT_cond (g := none) rfl (fun hb31 => ?_) (fun hb31 => ?_)
 simp [hka, hb15, hb24] at hb31
 refine sr fun Z z => ?_
 simp [hka, hb15, hb24, hb31]
 refine z _ ?_
 clear z Z
 refine AT_ret ?_
 simp [Tryz.f135]
 first | (rw [hc, hda, hdb, cmpS_cons]; repeat (first | omega | split)) | (rw [hc, cmpS_end a b k (by omega) hk1 hk2]; repeat (first | omega | split))
 simp [hka, hb15, hb24] at hb31
 refine AT_skip ?_
 refine hK4 _ ?_
 refine AT_region_q fun Z z => ?_
 simp [hka, hb15, hb24, hb31]
 repeat refine sg ?_
 refine z _ ?_
 clear z Z
 refine hK2 _ (by first | rfl | simp) (a.length - (k+1)) (by omega) ?_
 refine ⟨k+1, by omega, ?_, by omega, by simp⟩
 rw [hc, hda, hdb, cmpS_cons, if_neg (by omega), if_neg (by omega)]
 simp [hka] at hb15
 refine AT_exit ?_
 refine hK1 _ ?_
 refine AT_seq_k fun K6 hK6 => ?_
 refine sr fun Z z => ?_
 simp [hka, hb15]
 refine z _ ?_
 clear z Z
 refine AT_cond (g := none) rfl (fun hb36 => ?_) (fun hb36 => ?_)
 simp [hka, hb15] at hb36
 refine sr fun Z z => ?_
 simp [hka, hb15, hb36]
 refine z _ ?_
 clear z Z
 refine AT_ret ?_
 simp [Tryz.f135]
 first | (rw [hc, hda, hdb, cmpS_cons]; repeat (first | omega | split)) | (rw [hc, cmpS_end a b k (by omega) hk1 hk2]; repeat (first | omega | split))
 simp [hka, hb15] at hb36
 refine AT_skip ?_
 refine hK6 _ ?_
 refine AT_seq_k fun K7 hK7 => ?_
 refine sr fun Z z => ?_
 simp [hka, hb15, hb36]
 refine z _ ?_
 clear z Z
 refine AT_cond (g := none) rfl (fun hb41 => ?_) (fun hb41 => ?_)
 simp [hka, hb15, hb36] at hb41
 refine sr fun Z z => ?_
 simp [hka, hb15, hb36, hb41]
 refine z _ ?_
 clear z Z
 refine AT_ret ?_
 simp [Tryz.f135]
 first | (rw [hc, hda, hdb, cmpS_cons]; repeat (first | omega | split)) | (rw [hc, cmpS_end a b k (by omega) hk1 hk2]; repeat (first | omega | split))
 simp [hka, hb15, hb36] at hb41
 refine AT_skip ?_
 refine hK7 _ ?_
 refine sr fun Z z => ?_
 simp [hka, hb15, hb36, hb41]
 refine z _ ?_
 clear z Z
 refine AT_ret ?_
 simp [Tryz.f135]
 first | (rw [hc, hda, hdb, cmpS_cons]; repeat (first | omega | split)) | (rw [hc, cmpS_end a b k (by omega) hk1 hk2]; repeat (first | omega | split))
 refine sr fun Z z => ?_
 simp [hka]
 refine z _ ?_
 clear z Z
 refine cF (by simp [hka]) ?_
 refine AT_exit ?_
 refine hK1 _ ?_
 refine AT_seq_k fun K8 hK8 => ?_
 refine sr fun Z z => ?_
 simp [hka]
 refine z _ ?_
 clear z Z
 refine AT_cond (g := none) rfl (fun hb36 => ?_) (fun hb36 => ?_)
 simp [hka] at hb36
 refine sr fun Z z => ?_
 simp [hka, hb36]
 refine z _ ?_
 clear z Z
 refine AT_ret ?_
 simp [Tryz.f135]
 first | (rw [hc, hda, hdb, cmpS_cons]; repeat (first | omega | split)) | (rw [hc, cmpS_end a b k (by omega) hk1 hk2]; repeat (first | omega | split))
 simp [hka] at hb36
 refine AT_skip ?_
 refine hK8 _ ?_
 refine AT_seq_k fun K9 hK9 => ?_
 refine sr fun Z z => ?_
 simp [hka, hb36]
 refine z _ ?_
 clear z Z
 refine AT_cond (g := none) rfl (fun hb41 => ?_) (fun hb41 => ?_)
 simp [hka, hb36] at hb41
 refine sr fun Z z => ?_
 simp [hka, hb36, hb41]
 refine z _ ?_
 clear z Z
 refine AT_ret ?_
 simp [Tryz.f135]
 first | (rw [hc, hda, hdb, cmpS_cons]; repeat (first | omega | split)) | (rw [hc, cmpS_end a b k (by omega) hk1 hk2]; repeat (first | omega | split))
 simp [hka, hb36] at hb41
 refine AT_skip ?_
 refine hK9 _ ?_
 refine sr fun Z z => ?_
 simp [hka, hb36, hb41]
 refine z _ ?_
 clear z Z
 refine AT_ret ?_
 simp [Tryz.f135]
 first | (rw [hc, hda, hdb, cmpS_cons]; repeat (first | omega | split)) | (rw [hc, cmpS_end a b k (by omega) hk1 hk2]; repeat (first | omega | split))

end Go.Proofs.YtdifpfehijnmiaaGreatDoor
end

section
/- Contracts. -/
set_option linter.all false
set_option maxHeartbeats 1000000
set_option maxRecDepth 10000
namespace Go.Proofs.YtdifpfehijnmiaaGreatDoor
open Go Go.Pv
variable (g : Nat → Option (List AV)) (rnd : Bool)

theorem c_ref04x_Compare : ∀ t u : Ty, wt t ≤ 1099511627776 → Valid Tryz.prog (G0 g rnd) 104 [.agg (encTy t), .agg (encTy u)] (.int .i64 (cmpT t u)) := by
 intro t
 induction t using Ty.ind with
 | h n ts p ih =>
 intro u hw
 obtain ⟨m, us, q⟩ := u
 have hw2 : n.length + 1 + wts ts ≤ 1099511627776 := by simpa [wt] using hw
 have hln := wts_len ts
 refine valid_of [] Tryz.func104 rfl (by kernel_rfl) ?_
 refine sr fun Z z => ?_
 simp [row_map, Tryz.f104]
 refine z _ ?_
 clear z Z
 refine AT_seq_k fun K1 hK1 => ?_
 refine sr fun Z z => ?_
 simp [row_map]
 refine z _ ?_
 clear z Z
 refine AT_cond (g := none) rfl (fun hb11 => ?_) (fun hb11 => ?_)
 simp [row_map] at hb11
 refine sr fun Z z => ?_
 simp [row_map, hb11]
 refine RVn_call (c_ref01x_Compare g rnd n m (by omega)) ?_
 simp [row_map, hb11]
 refine z _ ?_
 clear z Z
 refine AT_ret ?_
 simp [row_map, Tryz.f104]
 (· simp [cmpT, cmpS_eq, hb11])
 simp [row_map] at hb11
 subst hb11
 refine AT_skip ?_
 refine hK1 _ ?_
 refine AT_seq_k fun K2 hK2 => ?_
 refine sr fun Z z => ?_
 simp [row_map]
 refine z _ ?_
 clear z Z
 refine AT_block ?_
 refine AT_loop_q [2,3,5] [2,3] (fun j s => ∃ k, (k ≤ ts.length ∧ k ≤ us.length) ∧ cmpTs ts us = cmpTs (ts.drop k) (us.drop k) ∧ j = ts.length - k ∧ s = { n := 59, tm := [(2, .lp 2 0), (3, .lp 3 0), (5, .v (.int .i64 k) none)], bx := [(2, encTy (.mk n ts p)), (3, encTy (.mk n us q))], tb := [], sh := [], hint := [] }) (ts.length) (by first | rfl | simp) ?_ ?_
 exact ⟨0, by simp⟩
 rintro j s ⟨k, ⟨hk1, hk2⟩, hc, rfl, rfl⟩ K3 hK3
 refine AT_seq_k fun K4 hK4 => ?_
 by_cases hka : k < ts.length
 refine sr fun Z z => ?_
 simp [row_map, hka]
 refine z _ ?_
 clear z Z
 refine AT_cond (g := none) rfl (fun hb28 => ?_) (fun hb28 => ?_)
 simp [row_map, hka] at hb28
 refine AT_skip ?_
 refine hK4 _ ?_
 refine AT_seq_k fun K5 hK5 => ?_
 refine AT_block ?_
 refine AT_seq_draw Pt.mixed (by kernel_rfl) fun Z z => ?_
 have hm := wts_mem (l := ts) (t := ts[k]) (by simp)
 have hda := List.drop_eq_getElem_cons hka
 have hdb := List.drop_eq_getElem_cons hb28
 simp [row_map, hka, hb28]
 refine RVdn_call (ih ts[k] (by simp) us[k] (by omega)) ?_
 simp [row_map, hka, hb28]
 refine z _ ?_
 clear z Z
 refine sr fun Z z => ?_
 simp [row_map, hka, hb28]
 refine z _ ?_
 clear z Z
 refine AT_cond (g := none) rfl (fun hb43 => ?_) (fun hb43 => ?_)
 simp [row_map, hka, hb28] at hb43
 refine sr fun Z z => ?_
 simp [row_map, hka, hb28, hb43]
 refine z _ ?_
 clear z Z
 refine AT_ret ?_
 simp [row_map, Tryz.f104]
 (rw [show cmpT (.mk n ts p) (.mk n us q) = cmpTs ts us by simp [cmpT, cmpS_eq], hc, hda, hdb, cmpTs_cons, if_neg hb43])
 simp [row_map, hka, hb28] at hb43
 refine AT_skip ?_
 refine hK5 _ ?_
 refine AT_region_q fun Z z => ?_
 simp [row_map, hka, hb28, hb43]
 repeat refine sg ?_
 refine z _ ?_
 clear z Z
 refine hK3 _ (by first | rfl | simp) (ts.length - (k+1)) (by omega) ?_
 refine ⟨k+1, by omega, ?_, by omega, by simp⟩
 rw [hc, hda, hdb, cmpTs_cons, if_pos hb43]
 simp [row_map, hka] at hb28
 refine AT_exit ?_
 refine hK2 _ ?_
 refine AT_seq_k fun K6 hK6 => ?_
 refine sr fun Z z => ?_
 simp [row_map, hka, hb28]
 refine z _ ?_
 clear z Z
 refine AT_cond (g := none) rfl (fun hb51 => ?_) (fun hb51 => ?_)
 simp [row_map, hka, hb28] at hb51
 refine sr fun Z z => ?_
 simp [row_map, hka, hb28, hb51]
 refine z _ ?_
 clear z Z
 refine AT_ret ?_
 simp [row_map, Tryz.f104]
 (rw [show cmpT (.mk n ts p) (.mk n us q) = cmpTs ts us by simp [cmpT, cmpS_eq], hc, cmpTs_end ts us k (by omega) hk1 hk2]; repeat (first | omega | split))
 simp [row_map, hka, hb28] at hb51
 refine AT_skip ?_
 refine hK6 _ ?_
 refine AT_seq_k fun K7 hK7 => ?_
 refine sr fun Z z => ?_
 simp [row_map, hka, hb28, hb51]
 refine z _ ?_
 clear z Z
 refine AT_cond (g := none) rfl (fun hb58 => ?_) (fun hb58 => ?_)
 simp [row_map, hka, hb28, hb51] at hb58
 refine sr fun Z z => ?_
 simp [row_map, hka, hb28, hb51, hb58]
 refine z _ ?_
 clear z Z
 refine AT_ret ?_
 simp [row_map, Tryz.f104]
 (rw [show cmpT (.mk n ts p) (.mk n us q) = cmpTs ts us by simp [cmpT, cmpS_eq], hc, cmpTs_end ts us k (by omega) hk1 hk2]; repeat (first | omega | split))
 simp [row_map, hka, hb28, hb51] at hb58
 refine AT_skip ?_
 refine hK7 _ ?_
 refine sr fun Z z => ?_
 simp [row_map, hka, hb28, hb51, hb58]
 refine z _ ?_
 clear z Z
 refine AT_ret ?_
 simp [row_map, Tryz.f104]
 (rw [show cmpT (.mk n ts p) (.mk n us q) = cmpTs ts us by simp [cmpT, cmpS_eq], hc, cmpTs_end ts us k (by omega) hk1 hk2]; repeat (first | omega | split))
 refine sr fun Z z => ?_
 simp [row_map, hka]
 refine z _ ?_
 clear z Z
 refine cF (by simp [hka]) ?_
 refine AT_exit ?_
 refine hK2 _ ?_
 refine AT_seq_k fun K8 hK8 => ?_
 refine sr fun Z z => ?_
 simp [row_map, hka]
 refine z _ ?_
 clear z Z
 refine AT_cond (g := none) rfl (fun hb51 => ?_) (fun hb51 => ?_)
 simp [row_map, hka] at hb51
 refine sr fun Z z => ?_
 simp [row_map, hka, hb51]
 refine z _ ?_
 clear z Z
 refine AT_ret ?_
 simp [row_map, Tryz.f104]
 (rw [show cmpT (.mk n ts p) (.mk n us q) = cmpTs ts us by simp [cmpT, cmpS_eq], hc, cmpTs_end ts us k (by omega) hk1 hk2]; repeat (first | omega | split))
 simp [row_map, hka] at hb51
 refine AT_skip ?_
 refine hK8 _ ?_
 refine AT_seq_k fun K9 hK9 => ?_
 refine sr fun Z z => ?_
 simp [row_map, hka, hb51]
 refine z _ ?_
 clear z Z
 refine AT_cond (g := none) rfl (fun hb58 => ?_) (fun hb58 => ?_)
 simp [row_map, hka, hb51] at hb58
 refine sr fun Z z => ?_
 simp [row_map, hka, hb51, hb58]
 refine z _ ?_
 clear z Z
 refine AT_ret ?_
 simp [row_map, Tryz.f104]
 (rw [show cmpT (.mk n ts p) (.mk n us q) = cmpTs ts us by simp [cmpT, cmpS_eq], hc, cmpTs_end ts us k (by omega) hk1 hk2]; repeat (first | omega | split))
 simp [row_map, hka, hb51] at hb58
 refine AT_skip ?_
 refine hK9 _ ?_
 refine sr fun Z z => ?_
 simp [row_map, hka, hb51, hb58]
 refine z _ ?_
 clear z Z
 refine AT_ret ?_
 simp [row_map, Tryz.f104]
 (rw [show cmpT (.mk n ts p) (.mk n us q) = cmpTs ts us by simp [cmpT, cmpS_eq], hc, cmpTs_end ts us k (by omega) hk1 hk2]; repeat (first | omega | split))

theorem c_cmp_Or_int (l : List Int) (hl : l.length ≤ 1099511627776) : Valid Tryz.prog (G0 g rnd) 132 [.slice (l.map encI)] (.int .i64 (orI l)) := by

 refine valid_of [] Tryz.func132 rfl (by kernel_rfl) ?_
 refine sr fun Z z => ?_
 simp [row_map, Tryz.f132]
 refine z _ ?_
 clear z Z
 refine sr fun Z z => ?_
 simp [row_map]
 refine z _ ?_
 clear z Z
 refine AT_seq_k fun K1 hK1 => ?_
 refine sr fun Z z => ?_
 simp [row_map]
 refine z _ ?_
 clear z Z
 refine AT_block ?_
 refine AT_loop_q [3,6,7,8] [] (fun j s => ∃ k, k ≤ l.length ∧ orI l = orI (l.drop k) ∧ j = l.length - k ∧ s = { n := 18, tm := [(3, .v (.int .i64 0) none), (6, .v (.slice (l.map encI)) none), (7, .v (.int .i64 l.length) none), (8, .v (.int .i64 k) none)], bx := [], tb := [], sh := [], hint := [] }) (l.length) (by first | rfl | simp) ?_ ?_
 exact ⟨0, by simp⟩
 rintro j s ⟨k, hk, hc, rfl, rfl⟩ K2 hK2
 refine sr fun Z z => ?_
 simp [row_map]
 refine z _ ?_
 clear z Z
 refine AT_seq_k fun K3 hK3 => ?_
 refine AT_cond (g := none) rfl (fun hb9 => ?_) (fun hb9 => ?_)
 simp [row_map] at hb9
 refine AT_skip ?_
 refine hK3 _ ?_
 refine AT_seq_k fun K4 hK4 => ?_
 refine AT_block ?_
 refine sr fun Z z => ?_
 have hd := List.drop_eq_getElem_cons hb9
 simp [row_map, hb9]
 refine z _ ?_
 clear z Z
 refine sr fun Z z => ?_
 simp [row_map, hb9]
 refine z _ ?_
 clear z Z
 refine AT_cond (g := none) rfl (fun hb14 => ?_) (fun hb14 => ?_)
 simp [row_map, hb9] at hb14
 refine sr fun Z z => ?_
 simp [row_map, hb9, hb14]
 refine z _ ?_
 clear z Z
 refine AT_ret ?_
 simp [row_map, Tryz.f132]
 first | (rw [hc, hd, orI, if_neg hb14]) | (rw [hc, List.drop_eq_nil_of_le hb9]; rfl)
 simp [row_map, hb9] at hb14
 refine AT_skip ?_
 refine hK4 _ ?_
 refine AT_region_q fun Z z => ?_
 simp [row_map, hb9, hb14]
 repeat refine sg ?_
 refine z _ ?_
 clear z Z
 refine hK2 _ (by first | rfl | simp) (l.length - (k+1)) (by omega) ?_
 refine ⟨k+1, by omega, ?_, by omega, by simp⟩
 rw [hc, hd, orI, if_pos hb14]
 simp [row_map] at hb9
 refine AT_exit ?_
 refine hK1 _ ?_
 refine sr fun Z z => ?_
 simp [row_map, hb9]
 refine z _ ?_
 clear z Z
 refine AT_ret ?_
 simp [row_map, Tryz.f132]
 first | (rw [hc, hd, orI, if_neg hb14]) | (rw [hc, List.drop_eq_nil_of_le hb9]; rfl)

theorem c_cmp_Or_int_p (a b : Int) : Valid Tryz.prog (G0 g rnd) 132 [.slice [[.int .i64 a], [.int .i64 b]]] (.int .i64 (if a = 0 then b else a)) := by
  have h := c_cmp_Or_int g rnd [a, b] (by simp)
  have e : orI [a, b] = if a = 0 then b else a := by simp only [orI]; split <;> (try split) <;> simp_all
  rw [e] at h
  exact h

theorem c_slices_CompareFunc_api_Type_api_Type_api_Type_api_Type (ts us : List Ty) (hl : ts.length ≤ 1099511627776) (hcmp : ∀ t ∈ ts, ∀ u ∈ us, Valid Tryz.prog (G0 g rnd) 103 [.agg (encTy t), .agg (encTy u)] (.int .i64 (cmpT t u))) : Valid Tryz.prog (G0 g rnd) 134 [.slice (ts.map encTy), .slice (us.map encTy), .func 103 []] (.int .i64 (cmpTs ts us)) := by

 refine valid_of [] Tryz.func134 rfl (by kernel_rfl) ?_
 refine sr fun Z z => ?_
 simp [row_map, Tryz.f134]
 refine z _ ?_
 clear z Z
 refine AT_seq_k fun K1 hK1 => ?_
 refine sr fun Z z => ?_
 simp [row_map]
 refine z _ ?_
 clear z Z
 refine AT_block ?_
 refine AT_loop_q [0,1,2,11,12,13] [] (fun j s => ∃ k, (k ≤ ts.length ∧ k ≤ us.length) ∧ cmpTs ts us = cmpTs (ts.drop k) (us.drop k) ∧ j = ts.length - k ∧ s = { n := 39, tm := [(0, .v (.slice (ts.map encTy)) none), (1, .v (.slice (us.map encTy)) none), (2, .v (.func 103 []) none), (11, .v (.slice (ts.map encTy)) none), (12, .v (.int .i64 ts.length) none), (13, .v (.int .i64 k) none)], bx := [], tb := [], sh := [], hint := [] }) (ts.length) (by first | rfl | simp) ?_ ?_
 exact ⟨0, by simp⟩
 rintro j s ⟨k, ⟨hk1, hk2⟩, hc, rfl, rfl⟩ K2 hK2
 refine sr fun Z z => ?_
 simp [row_map]
 refine z _ ?_
 clear z Z
 refine AT_seq_k fun K3 hK3 => ?_
 refine AT_cond (g := none) rfl (fun hb14 => ?_) (fun hb14 => ?_)
 simp [row_map] at hb14
 refine AT_skip ?_
 refine hK3 _ ?_
 refine AT_seq_k fun K4 hK4 => ?_
 refine AT_block ?_
 refine sr fun Z z => ?_
 simp [row_map, hb14]
 refine z _ ?_
 clear z Z
 refine AT_seq_k fun K5 hK5 => ?_
 refine sr fun Z z => ?_
 simp [row_map, hb14]
 refine z _ ?_
 clear z Z
 refine AT_cond (g := none) rfl (fun hb21 => ?_) (fun hb21 => ?_)
 simp [row_map, hb14] at hb21
 refine sr fun Z z => ?_
 simp [row_map, hb14, hb21]
 refine z _ ?_
 clear z Z
 refine AT_ret ?_
 simp [row_map, Tryz.f134]
 (rw [hc, cmpTs_end ts us k (by omega) hk1 hk2]; repeat (first | omega | split))
 simp [row_map, hb14] at hb21
 refine AT_skip ?_
 refine hK5 _ ?_
 refine sr fun Z z => ?_
 have hda := List.drop_eq_getElem_cons hb14
 have hdb := List.drop_eq_getElem_cons hb21
 simp [row_map, hb14, hb21]
 refine z _ ?_
 clear z Z
 refine sr fun Z z => ?_
 simp [row_map, hb14, hb21]
 refine RVn_call (hcmp ts[k] (by simp) us[k] (by simp)) ?_
 simp [row_map, hb14, hb21]
 refine z _ ?_
 clear z Z
 refine sr fun Z z => ?_
 simp [row_map, hb14, hb21]
 refine z _ ?_
 clear z Z
 refine AT_cond (g := none) rfl (fun hb31 => ?_) (fun hb31 => ?_)
 simp [row_map, hb14, hb21] at hb31
 refine sr fun Z z => ?_
 simp [row_map, hb14, hb21, hb31]
 refine z _ ?_
 clear z Z
 refine AT_ret ?_
 simp [row_map, Tryz.f134]
 (rw [hc, hda, hdb, cmpTs_cons, if_neg hb31])
 simp [row_map, hb14, hb21] at hb31
 refine AT_skip ?_
 refine hK4 _ ?_
 refine AT_region_q fun Z z => ?_
 simp [row_map, hb14, hb21, hb31]
 repeat refine sg ?_
 refine z _ ?_
 clear z Z
 refine hK2 _ (by first | rfl | simp) (ts.length - (k+1)) (by omega) ?_
 refine ⟨k+1, by omega, ?_, by omega, by simp⟩
 rw [hc, hda, hdb, cmpTs_cons, if_pos hb31]
 simp [row_map] at hb14
 refine AT_exit ?_
 refine hK1 _ ?_
 refine AT_seq_k fun K6 hK6 => ?_
 refine sr fun Z z => ?_
 simp [row_map, hb14]
 refine z _ ?_
 clear z Z
 refine AT_cond (g := none) rfl (fun hb38 => ?_) (fun hb38 => ?_)
 simp [row_map, hb14] at hb38
 refine sr fun Z z => ?_
 simp [row_map, hb14, hb38]
 refine z _ ?_
 clear z Z
 refine AT_ret ?_
 simp [row_map, Tryz.f134]
 (rw [hc, cmpTs_end ts us k (by omega) hk1 hk2]; repeat (first | omega | split))
 simp [row_map, hb14] at hb38
 refine AT_skip ?_
 refine hK6 _ ?_
 refine sr fun Z z => ?_
 simp [row_map, hb14, hb38]
 refine z _ ?_
 clear z Z
 refine AT_ret ?_
 simp [row_map, Tryz.f134]
 (rw [hc, cmpTs_end ts us k (by omega) hk1 hk2]; repeat (first | omega | split))

theorem c_types_Compare : ∀ t u : Ty, wt t ≤ 1099511627776 → Valid Tryz.prog (G0 g rnd) 103 [.agg (encTy t), .agg (encTy u)] (.int .i64 (cmpT t u)) := by
 intro t
 induction t using Ty.ind with
 | h n ts p ih =>
 intro u hw
 obtain ⟨m, us, q⟩ := u
 have hw2 : n.length + 1 + wts ts ≤ 1099511627776 := by simpa [wt] using hw
 have hln := wts_len ts
 refine valid_of [] Tryz.func103 rfl (by kernel_rfl) ?_
 refine sr fun Z z => ?_
 simp [row_map, Tryz.f103]
 refine z _ ?_
 clear z Z
 refine AT_seq_draw Pt.mixed (by kernel_rfl) fun Z z => ?_
 simp [row_map]
 refine RVdn_call (c_name_Compare g rnd n m) ?_
 simp [row_map]
 refine RVdn_call (c_slices_CompareFunc_api_Type_api_Type_api_Type_api_Type g rnd ts us (by omega) (fun t ht u _ => ih t ht u (Nat.le_trans (wts_mem ht) (by omega)))) ?_
 simp [row_map]
 refine RVdn_call (c_cmp_Or_int_p g rnd _ _) ?_
 simp [row_map]
 refine z _ ?_
 clear z Z
 refine AT_ret ?_
 simp [row_map, Tryz.f103]
 simp only [cmpT, Ty.name, Ty.args]; first | rfl | (split <;> rfl)

theorem c_types_Same (t u : Ty) (hw : wt t ≤ 1099511627776) : Valid Tryz.prog (G0 g rnd) 53 [.agg (encTy t), .agg (encTy u)] (.bool (cmpT t u == 0)) := by

 refine valid_of [] Tryz.func53 rfl (by kernel_rfl) ?_
 refine sr fun Z z => ?_
 simp [Tryz.f53]
 refine z _ ?_
 clear z Z
 refine sr fun Z z => ?_
 simp
 refine RVn_call (c_types_Compare g rnd t u hw) ?_
 simp
 refine z _ ?_
 clear z Z
 refine AT_ret ?_
 simp [Tryz.f53]

end Go.Proofs.YtdifpfehijnmiaaGreatDoor
end

section
/- Contracts. -/
set_option linter.all false
set_option maxHeartbeats 1000000
set_option maxRecDepth 10000
namespace Go.Proofs.YtdifpfehijnmiaaGreatDoor
open Go Go.Pv
variable (g : Nat → Option (List AV)) (rnd : Bool)

theorem c_ref04x_Equal : ∀ t u : Ty, wt t ≤ 1099511627776 → Valid Tryz.prog (G0 g rnd) 18 [.agg (encTy t), .agg (encTy u)] (.bool (eqT t u)) := by
 intro t
 induction t using Ty.ind with
 | h n ts p ih =>
 intro u hw
 obtain ⟨m, us, q⟩ := u
 have hw2 : n.length + 1 + wts ts ≤ 1099511627776 := by simpa [wt] using hw
 have hln := wts_len ts
 refine valid_of [] Tryz.func18 rfl (by kernel_rfl) ?_
 refine sr fun Z z => ?_
 simp [row_map, Tryz.f18]
 refine z _ ?_
 clear z Z
 refine AT_seq_k fun K1 hK1 => ?_
 by_cases h1 : n = m
 subst h1
 by_cases h2 : p = q
 subst h2
 refine sr fun Z z => ?_
 simp [row_map]
 refine z _ ?_
 clear z Z
 refine AT_cond (g := none) rfl (fun hb26 => ?_) (fun hb26 => ?_)
 simp [row_map] at hb26
 refine sr fun Z z => ?_
 simp [row_map]
 refine z _ ?_
 clear z Z
 refine AT_ret ?_
 simp [row_map, Tryz.f18]
 (· simp [eqT, eqTs_len (show ts.length ≠ us.length by omega)])
 simp [row_map] at hb26
 refine AT_skip ?_
 refine hK1 _ ?_
 refine AT_seq_k fun K2 hK2 => ?_
 refine sr fun Z z => ?_
 simp [row_map]
 refine z _ ?_
 clear z Z
 refine AT_block ?_
 refine AT_loop_q [2,3,5] [2,3] (fun j s => ∃ k, k ≤ ts.length ∧ eqTs ts us = eqTs (ts.drop k) (us.drop k) ∧ j = ts.length - k ∧ s = { n := 46, tm := [(2, .lp 2 0), (3, .lp 3 0), (5, .v (.int .i64 k) none)], bx := [(2, encTy (.mk n ts p)), (3, encTy (.mk n us p))], tb := [], sh := [], hint := [] }) (ts.length) (by first | rfl | simp) ?_ ?_
 exact ⟨0, by simp⟩
 rintro j s ⟨k, hk, hc, rfl, rfl⟩ K3 hK3
 refine AT_seq_k fun K4 hK4 => ?_
 refine sr fun Z z => ?_
 simp [row_map]
 refine z _ ?_
 clear z Z
 refine AT_cond (g := none) rfl (fun hb31 => ?_) (fun hb31 => ?_)
 simp [row_map] at hb31
 refine AT_skip ?_
 refine hK4 _ ?_
 refine AT_seq_k fun K5 hK5 => ?_
 refine AT_block ?_
 refine AT_seq_draw Pt.mixed (by kernel_rfl) fun Z z => ?_
 have hku : k < us.length := by omega
 have hm := wts_mem (l := ts) (t := ts[k]) (by simp)
 have hda := List.drop_eq_getElem_cons hb31
 have hdb := List.drop_eq_getElem_cons hku
 simp [row_map, hku, hb31]
 refine RVdn_call (ih ts[k] (by simp) us[k] (by omega)) ?_
 simp [row_map, hku, hb31]
 refine z _ ?_
 clear z Z
 refine AT_cond (g := none) rfl (fun hb45 => ?_) (fun hb45 => ?_)
 simp [row_map, hb31] at hb45
 refine sr fun Z z => ?_
 simp [row_map, hb31, hb45]
 refine z _ ?_
 clear z Z
 refine AT_ret ?_
 simp [row_map, Tryz.f18]
 (rw [show eqT (.mk n ts p) (.mk n us p) = eqTs ts us by simp [eqT], hc, hda, hdb, eqTs_cons, hb45]; rfl)
 simp [row_map, hb31] at hb45
 refine AT_skip ?_
 refine hK5 _ ?_
 refine AT_region_q fun Z z => ?_
 simp [row_map, hb31, hb45]
 repeat refine sg ?_
 refine z _ ?_
 clear z Z
 refine hK3 _ (by first | rfl | simp) (ts.length - (k+1)) (by omega) ?_
 refine ⟨k+1, by omega, ?_, by omega, by simp⟩
 rw [hc, hda, hdb, eqTs_cons, hb45, Bool.true_and]
 simp [row_map] at hb31
 refine AT_exit ?_
 refine hK2 _ ?_
 refine sr fun Z z => ?_
 simp [row_map, hb31]
 refine z _ ?_
 clear z Z
 refine AT_ret ?_
 simp [row_map, Tryz.f18]
 (rw [show eqT (.mk n ts p) (.mk n us p) = eqTs ts us by simp [eqT], hc, List.drop_eq_nil_of_le hb31, List.drop_eq_nil_of_le (show us.length ≤ k by omega)]; rfl)
 have h2b : (p != q) = true := by simpa using h2
 refine sr fun Z z => ?_
 simp [row_map, h2b]
 refine z _ ?_
 clear z Z
 refine cT (by simp [h2b]) ?_
 refine sr fun Z z => ?_
 simp [row_map, h2b]
 refine z _ ?_
 clear z Z
 refine AT_ret ?_
 simp [row_map, Tryz.f18]
 (· simp [eqT, h2])
 have h1b : (n == m) = false := by simpa using h1
 refine sr fun Z z => ?_
 simp [row_map, h1b]
 refine z _ ?_
 clear z Z
 refine cT (by simp [h1b]) ?_
 refine sr fun Z z => ?_
 simp [row_map, h1b]
 refine z _ ?_
 clear z Z
 refine AT_ret ?_
 simp [row_map, Tryz.f18]
 (· simp [eqT, h1])

end Go.Proofs.YtdifpfehijnmiaaGreatDoor
end

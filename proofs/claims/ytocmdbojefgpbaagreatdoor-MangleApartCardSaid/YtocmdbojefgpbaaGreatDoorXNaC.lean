import Derived.Test.YtocmdbojefgpbaaGreatDoorPt
import Derived.Test.YtocmdbojefgpbaaGreatDoorPvPa
import Derived.Test.YtocmdbojefgpbaaGreatDoorPvY
section
/- Contracts. -/
set_option linter.all false
set_option maxHeartbeats 1000000
set_option maxRecDepth 10000
namespace Go.Proofs.YtocmdbojefgpbaaGreatDoor
open Go Go.Pv
variable (g : Nat → Option (List AV)) (rnd : Bool)

theorem c_ref04x_Count : ∀ t : Ty, fit t → ∀ j0 : Nat, j0 ≤ 1000000000000000 → Valid Tryz.prog (G0 g rnd) 29 [.agg (encTy t), .int .i64 j0] (.int .i64 (cnt t j0)) := by
 intro t
 induction t using Ty.ind with
 | h n ts p ih =>
 intro hf j0 hj
 rw [fit] at hf
 obtain ⟨hf1, hf2, hf3⟩ := hf
 refine valid_of [] Tryz.func29 rfl (by kernel_rfl) ?_
 refine sr fun Z z => ?_
 simp [Tryz.f29]
 apply z
 refine sr fun Z z => ?_
 simp
 repeat refine sg ?_
 apply z
 refine AT_seq_k fun K1 hK1 => ?_
 refine sr fun Z z => ?_
 simp
 apply z
 refine AT_block ?_
 refine AT_loop_q [2,1,5] [2] (fun j s => ∃ k c, k ≤ ts.length ∧ cnts ts (j0 + 1 + n.length / 50) = cnts (ts.drop k) c ∧ j = ts.length - k ∧ s = { n := 32, tm := [(2, .lp 2 0), (1, .v (.int .i64 (c : Nat)) none), (5, .v (.int .i64 k) none)], bx := [(2, encTy (.mk n ts p))], tb := [], sh := [], hint := [] }) (ts.length) (by first | rfl | simp) ?_ ?_
 exact ⟨0, j0 + 1 + n.length / 50, by simp⟩
 rintro j s ⟨k, c, hk, hc, rfl, rfl⟩ K2 hK2
 refine AT_seq_k fun K3 hK3 => ?_
 by_cases hkt : k < ts.length
 refine sr fun Z z => ?_
 simp [hkt]
 apply z
 refine AT_cond (g := none) rfl (fun hb21 => ?_) (fun hb21 => ?_)
 simp at hb21
 refine AT_skip ?_
 refine hK3 _ ?_
 refine AT_seq_k fun K4 hK4 => ?_
 refine AT_block ?_
 refine AT_region_q fun Z z => ?_
 simp [row_map, hkt]
 refine RVn_call (ih ts[k] (by simp) (fits_mem hf3 (by simp)) c (by omega)) ?_
 simp
 apply z
 refine hK4 _ ?_
 refine AT_region_q fun Z z => ?_
 simp
 repeat refine sg ?_
 apply z
 refine hK2 _ (by first | rfl | simp) (ts.length - (k+1)) (by omega) ?_
 refine ⟨k+1, cnt ts[k] c, by omega, ?_, by omega, by simp⟩
 rw [hc, List.drop_eq_getElem_cons hkt, cnts_cons, if_pos (by omega)]
 simp at hb21
 refine AT_exit ?_
 refine hK1 _ ?_
 refine sr fun Z z => ?_
 simp
 apply z
 refine AT_ret ?_
 simp [Tryz.f29]
 (rw [show cnt (.mk n ts p) j0 = cnts ts (j0 + 1 + n.length / 50) by simp [cnt], hc, List.drop_eq_getElem_cons hkt, cnts_cons, if_neg (by omega)])
 refine sr fun Z z => ?_
 simp [hkt]
 apply z
 refine cF (by simp) ?_
 refine AT_exit ?_
 refine hK1 _ ?_
 refine sr fun Z z => ?_
 simp
 apply z
 refine AT_ret ?_
 simp [Tryz.f29]
 (rw [show cnt (.mk n ts p) j0 = cnts ts (j0 + 1 + n.length / 50) by simp [cnt], hc, List.drop_eq_nil_of_le (by omega)]; rfl)

theorem c_ref04x_FewAll (ts : List Ty) (hl : ts.length ≤ 140737488355328) (hf : fits ts) : Valid Tryz.prog (G0 g rnd) 17 [.slice (ts.map encTy)] (.bool (decide (cnts ts 0 ≤ 200))) := by

 refine valid_of [] Tryz.func17 rfl (by kernel_rfl) ?_
 refine sr fun Z z => ?_
 simp [Tryz.f17]
 apply z
 refine sr fun Z z => ?_
 simp
 apply z
 refine AT_seq_k fun K1 hK1 => ?_
 refine sr fun Z z => ?_
 simp
 apply z
 refine AT_block ?_
 refine AT_loop_q [0,3,4] [] (fun j s => ∃ k c, k ≤ ts.length ∧ cnts ts 0 = cnts (ts.drop k) c ∧ j = ts.length - k ∧ s = { n := 23, tm := [(0, .v (.slice (ts.map encTy)) none), (3, .v (.int .i64 (c : Nat)) none), (4, .v (.int .i64 k) none)], bx := [], tb := [], sh := [], hint := [] }) (ts.length) (by first | rfl | simp) ?_ ?_
 exact ⟨0, 0, by simp⟩
 rintro j s ⟨k, c, hk, hc, rfl, rfl⟩ K2 hK2
 refine AT_seq_k fun K3 hK3 => ?_
 by_cases hkt : k < ts.length
 refine sr fun Z z => ?_
 simp [hkt]
 apply z
 refine AT_cond (g := none) rfl (fun hb12 => ?_) (fun hb12 => ?_)
 simp at hb12
 refine AT_skip ?_
 refine hK3 _ ?_
 refine AT_seq_k fun K4 hK4 => ?_
 refine AT_block ?_
 refine AT_region_q fun Z z => ?_
 simp [row_map, hkt]
 refine RVn_call (c_ref04x_Count g rnd ts[k] (fits_mem hf (by simp)) c (by omega)) ?_
 simp
 apply z
 refine hK4 _ ?_
 refine AT_region_q fun Z z => ?_
 simp
 repeat refine sg ?_
 apply z
 refine hK2 _ (by first | rfl | simp) (ts.length - (k+1)) (by omega) ?_
 refine ⟨k+1, cnt ts[k] c, by omega, ?_, by omega, by simp⟩
 rw [hc, List.drop_eq_getElem_cons hkt, cnts_cons, if_pos (by omega)]
 simp at hb12
 refine AT_exit ?_
 refine hK1 _ ?_
 refine sr fun Z z => ?_
 simp
 apply z
 refine AT_ret ?_
 simp [Tryz.f17]
 (rw [hc, List.drop_eq_getElem_cons hkt, cnts_cons, if_neg (by omega)]; omega)
 refine sr fun Z z => ?_
 simp [hkt]
 apply z
 refine cF (by simp) ?_
 refine AT_exit ?_
 refine hK1 _ ?_
 refine sr fun Z z => ?_
 simp
 apply z
 refine AT_ret ?_
 simp [Tryz.f17]
 (rw [hc, List.drop_eq_nil_of_le (by omega), cnts]; omega)

end Go.Proofs.YtocmdbojefgpbaaGreatDoor
end

section
/- Contracts. -/
set_option linter.all false
set_option maxHeartbeats 1000000
set_option maxRecDepth 10000
namespace Go.Proofs.YtocmdbojefgpbaaGreatDoor
open Go Go.Pv
variable (g : Nat → Option (List AV)) (rnd : Bool)

theorem c_ref01x_Compare (a b : Str) (ha : a.length ≤ 1099511627776) : Valid Tryz.prog (G0 g rnd) 60 [.str a, .str b] (.int .i64 (cmpS a b)) := by

 refine valid_of [] Tryz.func60 rfl (by kernel_rfl) ?_
 refine sr fun Z z => ?_
 simp [Tryz.f60]
 apply z
 refine AT_seq_k fun K1 hK1 => ?_
 refine sr fun Z z => ?_
 simp
 apply z
 refine AT_block ?_
 refine AT_loop_q [0,1,5] [] (fun j s => ∃ k, (k ≤ a.length ∧ k ≤ b.length) ∧ cmpS a b = cmpS (a.drop k) (b.drop k) ∧ j = a.length - k ∧ s = { n := 42, tm := [(0, .v (.str a) none), (1, .v (.str b) none), (5, .v (.int .i64 k) none)], bx := [], tb := [], sh := [], hint := [] }) (a.length) (by first | rfl | simp) ?_ ?_
 exact ⟨0, by simp⟩
 rintro j s ⟨k, ⟨hk1, hk2⟩, hc, rfl, rfl⟩ K2 hK2
 refine AT_seq_k fun K3 hK3 => ?_
 by_cases hka : k < a.length
 refine sr fun Z z => ?_
 simp [hka]
 apply z
 refine AT_cond (g := none) rfl (fun hb15 => ?_) (fun hb15 => ?_)
 simp at hb15
 refine AT_skip ?_
 refine hK3 _ ?_
 refine AT_seq_k fun K4 hK4 => ?_
 refine AT_block ?_
 refine AT_seq_k fun K5 hK5 => ?_
 refine AT_seq_draw Pt.mixed (by kernel_rfl) fun Z z => ?_
 have hda := List.drop_eq_getElem_cons hka
 have hdb := List.drop_eq_getElem_cons hb15
 simp [hka, hb15]
 apply z
 refine AT_cond (g := none) rfl (fun hb24 => ?_) (fun hb24 => ?_)
 simp at hb24
 refine sr fun Z z => ?_
 simp [hb24]
 apply z
 refine AT_ret ?_
 simp [Tryz.f60]
 first | (rw [hc, hda, hdb, cmpS_cons]; repeat (first | omega | split)) | (rw [hc, cmpS_end a b k (by omega) hk1 hk2]; repeat (first | omega | split))
 simp at hb24
 refine AT_skip ?_
 refine hK5 _ ?_
 refine AT_seq_draw Pt.mixed (by kernel_rfl) fun Z z => ?_
 simp [hka, hb15]
 apply z
 refine AT_cond (g := none) rfl (fun hb31 => ?_) (fun hb31 => ?_)
 simp at hb31
 refine sr fun Z z => ?_
 simp [hb31]
 apply z
 refine AT_ret ?_
 simp [Tryz.f60]
 first | (rw [hc, hda, hdb, cmpS_cons]; repeat (first | omega | split)) | (rw [hc, cmpS_end a b k (by omega) hk1 hk2]; repeat (first | omega | split))
 simp at hb31
 refine AT_skip ?_
 refine hK4 _ ?_
 refine AT_region_q fun Z z => ?_
 simp
 repeat refine sg ?_
 apply z
 refine hK2 _ (by first | rfl | simp) (a.length - (k+1)) (by omega) ?_
 refine ⟨k+1, by omega, ?_, by omega, by simp⟩
 rw [hc, hda, hdb, cmpS_cons, if_neg (by omega), if_neg (by omega)]
 simp at hb15
 refine AT_exit ?_
 refine hK1 _ ?_
 refine AT_seq_k fun K6 hK6 => ?_
 refine sr fun Z z => ?_
 simp
 apply z
 refine AT_cond (g := none) rfl (fun hb36 => ?_) (fun hb36 => ?_)
 simp at hb36
 refine sr fun Z z => ?_
 simp [hb36]
 apply z
 refine AT_ret ?_
 simp [Tryz.f60]
 first | (rw [hc, hda, hdb, cmpS_cons]; repeat (first | omega | split)) | (rw [hc, cmpS_end a b k (by omega) hk1 hk2]; repeat (first | omega | split))
 simp at hb36
 refine AT_skip ?_
 refine hK6 _ ?_
 refine AT_seq_k fun K7 hK7 => ?_
 refine sr fun Z z => ?_
 simp
 apply z
 refine AT_cond (g := none) rfl (fun hb41 => ?_) (fun hb41 => ?_)
 simp at hb41
 refine sr fun Z z => ?_
 simp [hb41]
 apply z
 refine AT_ret ?_
 simp [Tryz.f60]
 first | (rw [hc, hda, hdb, cmpS_cons]; repeat (first | omega | split)) | (rw [hc, cmpS_end a b k (by omega) hk1 hk2]; repeat (first | omega | split))
 simp at hb41
 refine AT_skip ?_
 refine hK7 _ ?_
 refine sr fun Z z => ?_
 simp
 apply z
 refine AT_ret ?_
 simp [Tryz.f60]
 first | (rw [hc, hda, hdb, cmpS_cons]; repeat (first | omega | split)) | (rw [hc, cmpS_end a b k (by omega) hk1 hk2]; repeat (first | omega | split))
 refine sr fun Z z => ?_
 simp [hka]
 apply z
 refine cF (by simp) ?_
 refine AT_exit ?_
 refine hK1 _ ?_
 refine AT_seq_k fun K8 hK8 => ?_
 refine sr fun Z z => ?_
 simp
 apply z
 refine AT_cond (g := none) rfl (fun hb36 => ?_) (fun hb36 => ?_)
 simp at hb36
 refine sr fun Z z => ?_
 simp [hb36]
 apply z
 refine AT_ret ?_
 simp [Tryz.f60]
 first | (rw [hc, hda, hdb, cmpS_cons]; repeat (first | omega | split)) | (rw [hc, cmpS_end a b k (by omega) hk1 hk2]; repeat (first | omega | split))
 simp at hb36
 refine AT_skip ?_
 refine hK8 _ ?_
 refine AT_seq_k fun K9 hK9 => ?_
 refine sr fun Z z => ?_
 simp
 apply z
 refine AT_cond (g := none) rfl (fun hb41 => ?_) (fun hb41 => ?_)
 simp at hb41
 refine sr fun Z z => ?_
 simp [hb41]
 apply z
 refine AT_ret ?_
 simp [Tryz.f60]
 first | (rw [hc, hda, hdb, cmpS_cons]; repeat (first | omega | split)) | (rw [hc, cmpS_end a b k (by omega) hk1 hk2]; repeat (first | omega | split))
 simp at hb41
 refine AT_skip ?_
 refine hK9 _ ?_
 refine sr fun Z z => ?_
 simp
 apply z
 refine AT_ret ?_
 simp [Tryz.f60]
 first | (rw [hc, hda, hdb, cmpS_cons]; repeat (first | omega | split)) | (rw [hc, cmpS_end a b k (by omega) hk1 hk2]; repeat (first | omega | split))

end Go.Proofs.YtocmdbojefgpbaaGreatDoor
end

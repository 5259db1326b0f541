import Derived.Test.YtocmdbojefgpbaaGreatDoorPt
import Derived.Test.YtocmdbojefgpbaaGreatDoorPvPb
import Derived.Test.YtocmdbojefgpbaaGreatDoorPvY
import Derived.Test.YtocmdbojefgpbaaGreatDoorXNaC
import Derived.Test.YtocmdbojefgpbaaGreatDoorPvKd
section
/- Contracts. -/
set_option linter.all false
set_option maxHeartbeats 1000000
set_option maxRecDepth 10000
namespace Go.Proofs.YtocmdbojefgpbaaGreatDoor
open Go Go.Pv
variable (g : Nat → Option (List AV)) (rnd : Bool)

theorem c_ref04x_Compare : ∀ t u : Ty, wt t ≤ 1099511627776 → Valid Tryz.prog (G0 g rnd) 39 [.agg (encTy t), .agg (encTy u)] (.int .i64 (cmpT t u)) := by
 intro t
 induction t using Ty.ind with
 | h n ts p ih =>
 intro u hw
 obtain ⟨m, us, q⟩ := u
 have hw2 : n.length + 1 + wts ts ≤ 1099511627776 := by simpa [wt] using hw
 have hln := wts_len ts
 refine valid_of [] Tryz.func39 rfl (by kernel_rfl) ?_
 refine sr fun Z z => ?_
 simp [row_map, Tryz.f39]
 refine z _ ?_
 clear z Z
 refine AT_seq_k fun K1 hK1 => ?_
 refine sr fun Z z => ?_
 simp [row_map]
 repeat refine sg ?_
 refine z _ ?_
 clear z Z
 refine AT_cond (g := none) rfl (fun hb11 => ?_) (fun hb11 => ?_)
 try simp [row_map] at hb11
 refine sr fun Z z => ?_
 simp [row_map, hb11]
 repeat refine sg ?_
 refine RVn_call (c_ref01x_Compare g rnd n m (by omega)) ?_
 simp [row_map, hb11]
 repeat refine sg ?_
 refine z _ ?_
 clear z Z
 refine AT_ret ?_
 simp [row_map, Tryz.f39]
 first
 | (· simp [cmpT, cmpS_eq, hb11])
 | (rw [show cmpT (.mk n ts p) (.mk n us q) = cmpTs ts us by simp [cmpT, cmpS_eq], hc, hda, hdb, cmpTs_cons, if_neg hb43])
 | (rw [show cmpT (.mk n ts p) (.mk n us q) = cmpTs ts us by simp [cmpT, cmpS_eq], hc, cmpTs_end ts us k (by omega) hk1 hk2]; repeat (first | omega | split))
 try simp [row_map] at hb11
 subst hb11
 refine AT_skip ?_
 try simp only [nrm, reduceIte, Nat.reduceEqDiff]
 refine hK1 _ ?_
 refine AT_seq_k fun K2 hK2 => ?_
 refine sr fun Z z => ?_
 simp [row_map]
 refine z _ ?_
 clear z Z
 refine AT_block ?_
 refine AT_loop_q [2,3,5] [2,3] (fun j s => ∃ k, (k ≤ ts.length ∧ k ≤ us.length) ∧ cmpTs ts us = cmpTs (ts.drop k) (us.drop k) ∧ j = ts.length - k ∧ s = { n := 59, tm := [(2, .lp 2 0), (3, .lp 3 0), (5, .v (.int .i64 k) none)], bx := [(2, encTy (.mk n ts p)), (3, encTy (.mk n us q))], tb := [], sh := [], hint := [] }) (ts.length) (by first | rfl | simp) ?_ ?_
 exact ⟨0, by simp⟩
 rintro j s ⟨k, ⟨hk1, hk2⟩, hc, rfl, rfl⟩ K3 hK3
 refine AT_seq_k fun K4 hK4 => ?_
 by_cases hka : k < ts.length
 refine sr fun Z z => ?_
 simp [row_map, hka]
 repeat refine sg ?_
 refine z _ ?_
 clear z Z
 refine AT_cond (g := none) rfl (fun hb28 => ?_) (fun hb28 => ?_)
 try simp [row_map, hka] at hb28
 refine AT_skip ?_
 try simp only [nrm, reduceIte, Nat.reduceEqDiff]
 refine hK4 _ ?_
 refine AT_seq_k fun K5 hK5 => ?_
 refine AT_block ?_
 refine AT_seq_draw Pt.mixed (by kernel_rfl) fun Z z => ?_
 have hm := wts_mem (l := ts) (t := ts[k]) (by simp)
 have hda := List.drop_eq_getElem_cons hka
 have hdb := List.drop_eq_getElem_cons hb28
 simp [row_map, hka, hb28]
 repeat refine sg ?_
 refine RVdn_call (ih ts[k] (by simp) us[k] (by omega)) ?_
 simp [row_map, hka, hb28]
 repeat refine sg ?_
 refine z _ ?_
 clear z Z
 refine sr fun Z z => ?_
 simp [row_map, hka, hb28]
 repeat refine sg ?_
 refine z _ ?_
 clear z Z
 refine AT_cond (g := none) rfl (fun hb43 => ?_) (fun hb43 => ?_)
 try simp [row_map, hka, hb28] at hb43
 refine sr fun Z z => ?_
 simp [row_map, hka, hb28, hb43]
 refine z _ ?_
 clear z Z
 refine AT_ret ?_
 simp [row_map, Tryz.f39]
 first
 | (· simp [cmpT, cmpS_eq, hb11])
 | (rw [show cmpT (.mk n ts p) (.mk n us q) = cmpTs ts us by simp [cmpT, cmpS_eq], hc, hda, hdb, cmpTs_cons, if_neg hb43])
 | (rw [show cmpT (.mk n ts p) (.mk n us q) = cmpTs ts us by simp [cmpT, cmpS_eq], hc, cmpTs_end ts us k (by omega) hk1 hk2]; repeat (first | omega | split))
 try simp [row_map, hka, hb28] at hb43
 refine AT_skip ?_
 try simp only [nrm, reduceIte, Nat.reduceEqDiff]
 refine hK5 _ ?_
 refine AT_region_q fun Z z => ?_
 simp [row_map, hka, hb28, hb43]
 repeat refine sg ?_
 refine z _ ?_
 clear z Z
 try simp only [nrm, reduceIte, Nat.reduceEqDiff]
 refine hK3 _ (by first | rfl | simp) (ts.length - (k+1)) (by omega) ?_
 refine ⟨k+1, by omega, ?_, by omega, by simp⟩
 rw [hc, hda, hdb, cmpTs_cons, if_pos hb43]
 try simp [row_map, hka] at hb28
 refine AT_exit ?_
 try simp only [nrm, reduceIte, Nat.reduceEqDiff]
 refine hK2 _ ?_
 refine AT_seq_k fun K6 hK6 => ?_
 refine sr fun Z z => ?_
 simp [row_map, hka, hb28]
 repeat refine sg ?_
 refine z _ ?_
 clear z Z
 refine AT_cond (g := none) rfl (fun hb51 => ?_) (fun hb51 => ?_)
 try simp [row_map, hka, hb28] at hb51
 refine sr fun Z z => ?_
 simp [row_map, hka, hb28, hb51]
 refine z _ ?_
 clear z Z
 refine AT_ret ?_
 simp [row_map, Tryz.f39]
 first
 | (· simp [cmpT, cmpS_eq, hb11])
 | (rw [show cmpT (.mk n ts p) (.mk n us q) = cmpTs ts us by simp [cmpT, cmpS_eq], hc, hda, hdb, cmpTs_cons, if_neg hb43])
 | (rw [show cmpT (.mk n ts p) (.mk n us q) = cmpTs ts us by simp [cmpT, cmpS_eq], hc, cmpTs_end ts us k (by omega) hk1 hk2]; repeat (first | omega | split))
 try simp [row_map, hka, hb28] at hb51
 refine AT_skip ?_
 try simp only [nrm, reduceIte, Nat.reduceEqDiff]
 refine hK6 _ ?_
 refine AT_seq_k fun K7 hK7 => ?_
 refine sr fun Z z => ?_
 simp [row_map, hka, hb28, hb51]
 repeat refine sg ?_
 refine z _ ?_
 clear z Z
 refine AT_cond (g := none) rfl (fun hb58 => ?_) (fun hb58 => ?_)
 try simp [row_map, hka, hb28, hb51] at hb58
 refine sr fun Z z => ?_
 simp [row_map, hka, hb28, hb51, hb58]
 refine z _ ?_
 clear z Z
 refine AT_ret ?_
 simp [row_map, Tryz.f39]
 first
 | (· simp [cmpT, cmpS_eq, hb11])
 | (rw [show cmpT (.mk n ts p) (.mk n us q) = cmpTs ts us by simp [cmpT, cmpS_eq], hc, hda, hdb, cmpTs_cons, if_neg hb43])
 | (rw [show cmpT (.mk n ts p) (.mk n us q) = cmpTs ts us by simp [cmpT, cmpS_eq], hc, cmpTs_end ts us k (by omega) hk1 hk2]; repeat (first | omega | split))
 try simp [row_map, hka, hb28, hb51] at hb58
 refine AT_skip ?_
 try simp only [nrm, reduceIte, Nat.reduceEqDiff]
 refine hK7 _ ?_
 refine sr fun Z z => ?_
 simp [row_map, hka, hb28, hb51, hb58]
 refine z _ ?_
 clear z Z
 refine AT_ret ?_
 simp [row_map, Tryz.f39]
 first
 | (· simp [cmpT, cmpS_eq, hb11])
 | (rw [show cmpT (.mk n ts p) (.mk n us q) = cmpTs ts us by simp [cmpT, cmpS_eq], hc, hda, hdb, cmpTs_cons, if_neg hb43])
 | (rw [show cmpT (.mk n ts p) (.mk n us q) = cmpTs ts us by simp [cmpT, cmpS_eq], hc, cmpTs_end ts us k (by omega) hk1 hk2]; repeat (first | omega | split))
 refine sr fun Z z => ?_
 simp [row_map, hka]
 repeat refine sg ?_
 refine z _ ?_
 clear z Z
 refine cF (by simp [hka]) ?_
 refine AT_exit ?_
 try simp only [nrm, reduceIte, Nat.reduceEqDiff]
 refine hK2 _ ?_
 refine AT_seq_k fun K8 hK8 => ?_
 refine sr fun Z z => ?_
 simp [row_map, hka]
 repeat refine sg ?_
 refine z _ ?_
 clear z Z
 refine AT_cond (g := none) rfl (fun hb51 => ?_) (fun hb51 => ?_)
 try simp [row_map, hka] at hb51
 refine sr fun Z z => ?_
 simp [row_map, hka, hb51]
 refine z _ ?_
 clear z Z
 refine AT_ret ?_
 simp [row_map, Tryz.f39]
 first
 | (· simp [cmpT, cmpS_eq, hb11])
 | (rw [show cmpT (.mk n ts p) (.mk n us q) = cmpTs ts us by simp [cmpT, cmpS_eq], hc, hda, hdb, cmpTs_cons, if_neg hb43])
 | (rw [show cmpT (.mk n ts p) (.mk n us q) = cmpTs ts us by simp [cmpT, cmpS_eq], hc, cmpTs_end ts us k (by omega) hk1 hk2]; repeat (first | omega | split))
 try simp [row_map, hka] at hb51
 refine AT_skip ?_
 try simp only [nrm, reduceIte, Nat.reduceEqDiff]
 refine hK8 _ ?_
 refine AT_seq_k fun K9 hK9 => ?_
 refine sr fun Z z => ?_
 simp [row_map, hka, hb51]
 repeat refine sg ?_
 refine z _ ?_
 clear z Z
 refine AT_cond (g := none) rfl (fun hb58 => ?_) (fun hb58 => ?_)
 try simp [row_map, hka, hb51] at hb58
 refine sr fun Z z => ?_
 simp [row_map, hka, hb51, hb58]
 refine z _ ?_
 clear z Z
 refine AT_ret ?_
 simp [row_map, Tryz.f39]
 first
 | (· simp [cmpT, cmpS_eq, hb11])
 | (rw [show cmpT (.mk n ts p) (.mk n us q) = cmpTs ts us by simp [cmpT, cmpS_eq], hc, hda, hdb, cmpTs_cons, if_neg hb43])
 | (rw [show cmpT (.mk n ts p) (.mk n us q) = cmpTs ts us by simp [cmpT, cmpS_eq], hc, cmpTs_end ts us k (by omega) hk1 hk2]; repeat (first | omega | split))
 try simp [row_map, hka, hb51] at hb58
 refine AT_skip ?_
 try simp only [nrm, reduceIte, Nat.reduceEqDiff]
 refine hK9 _ ?_
 refine sr fun Z z => ?_
 simp [row_map, hka, hb51, hb58]
 refine z _ ?_
 clear z Z
 refine AT_ret ?_
 simp [row_map, Tryz.f39]
 first
 | (· simp [cmpT, cmpS_eq, hb11])
 | (rw [show cmpT (.mk n ts p) (.mk n us q) = cmpTs ts us by simp [cmpT, cmpS_eq], hc, hda, hdb, cmpTs_cons, if_neg hb43])
 | (rw [show cmpT (.mk n ts p) (.mk n us q) = cmpTs ts us by simp [cmpT, cmpS_eq], hc, cmpTs_end ts us k (by omega) hk1 hk2]; repeat (first | omega | split))

end Go.Proofs.YtocmdbojefgpbaaGreatDoor
end

section
/- Contracts. -/
set_option linter.all false
set_option maxHeartbeats 1000000
set_option maxRecDepth 10000
namespace Go.Proofs.YtocmdbojefgpbaaGreatDoor
open Go Go.Pv
variable (g : Nat → Option (List AV)) (rnd : Bool)

theorem c_ref04x_List (t : Ty) : wt t ≤ 1099511627776 → Valid Tryz.prog (G0 g rnd) 45 [.agg (encTy t)] (.slice ((lst t).map encS)) := by
 induction t using Ty.ind with
 | h n ts p ih =>
 intro hw
 have hw2 : n.length + 1 + wts ts ≤ 1099511627776 := by simpa [wt] using hw
 have hln := wts_len ts
 refine valid_of [(7, 9)] Tryz.func45 rfl (by kernel_rfl) ?_
 refine sr fun Z z => ?_
 simp [row_map, Tryz.f45]
 refine z _ ?_
 clear z Z
 refine sr fun Z z => ?_
 simp [row_map]
 repeat refine sg ?_
 refine z _ ?_
 clear z Z
 refine AT_seq_k fun K1 hK1 => ?_
 refine sr fun Z z => ?_
 simp [row_map]
 refine z _ ?_
 clear z Z
 refine AT_block ?_
 refine AT_loop_q [3,4,1] [1] (fun j s => ∃ k, k ≤ ts.length ∧ j = ts.length - k ∧ s = { n := 24, tm := [(3, .v (.slice ((n :: lsts (ts.take k)).map encS)) (some (7, 9))), (4, .v (.int .i64 k) none), (1, .lp 1 0)], bx := [(1, encTy (.mk n ts p))], tb := [], sh := [], hint := [(7, 9)] }) (ts.length) (by first | rfl | simp) ?_ ?_
 exact ⟨0, by simp [lsts, encS]⟩
 rintro j s ⟨k, hk, rfl, rfl⟩ K2 hK2
 refine AT_seq_k fun K3 hK3 => ?_
 refine sr fun Z z => ?_
 simp [row_map]
 repeat refine sg ?_
 refine z _ ?_
 clear z Z
 refine AT_cond (g := none) rfl (fun hb12 => ?_) (fun hb12 => ?_)
 try simp [row_map] at hb12
 refine AT_skip ?_
 try simp only [nrm, reduceIte, Nat.reduceEqDiff]
 refine hK3 _ ?_
 refine AT_seq_k fun K4 hK4 => ?_
 refine AT_block ?_
 refine AT_region_q fun Z z => ?_
 have hm := wts_mem (l := ts) (t := ts[k]) (by simp)
 have hdk := lst_wt ts[k]
 have hdt := lsts_wts (ts.take k)
 have hwt := wts_take ts k
 simp [row_map, hb12]
 repeat refine sg ?_
 refine RVn_call (ih ts[k] (by simp) (by omega)) ?_
 simp [row_map, hb12]
 repeat refine sg ?_
 refine z _ ?_
 clear z Z
 try simp only [nrm, reduceIte, Nat.reduceEqDiff]
 refine hK4 _ ?_
 refine AT_region_q fun Z z => ?_
 simp [row_map, hb12]
 repeat refine sg ?_
 refine z _ ?_
 clear z Z
 try simp only [nrm, reduceIte, Nat.reduceEqDiff]
 refine hK2 _ (by first | rfl | simp) (ts.length - (k+1)) (by omega) ?_
 exact ⟨k+1, by omega, by omega, by simp [lsts_take _ _ hb12]⟩
 try simp [row_map] at hb12
 refine AT_exit ?_
 try simp only [nrm, reduceIte, Nat.reduceEqDiff]
 refine hK1 _ ?_
 refine sr fun Z z => ?_
 simp [row_map, hb12]
 refine z _ ?_
 clear z Z
 refine AT_ret ?_
 simp [row_map, Tryz.f45]
 rw [List.take_of_length_le hb12]; simp [lst]

end Go.Proofs.YtocmdbojefgpbaaGreatDoor
end

section
/- Contracts: expressions, counted and compared. -/
set_option linter.all false
set_option maxHeartbeats 1000000
set_option maxRecDepth 10000
namespace Go.Proofs.YtocmdbojefgpbaaGreatDoor
open Go Go.Pv
variable (g : Nat → Option (List AV)) (rnd : Bool)

theorem c_ref04x_Same (t u : Ty) (hw : wt t ≤ 1099511627776) : Valid Tryz.prog (G0 g rnd) 14 [.agg (encTy t), .agg (encTy u)] (.bool (cmpT t u == 0)) := by

 refine valid_of [] Tryz.func14 rfl (by kernel_rfl) ?_
 refine sr fun Z z => ?_
 simp [Tryz.f14]
 refine z _ ?_
 clear z Z
 refine sr fun Z z => ?_
 simp
 repeat refine sg ?_
 refine RVn_call (c_ref04x_Compare g rnd t u hw) ?_
 simp
 repeat refine sg ?_
 refine z _ ?_
 clear z Z
 refine AT_ret ?_
 simp [Tryz.f14]

theorem c_ref05x_Count : ∀ e : Exp, fitE e → ∀ j0 : Nat, j0 ≤ 100000000000000 → Valid Tryz.prog (G0 g rnd) 80 [.agg (encE e), .int .i64 j0] (.int .i64 (cntE e j0)) := by
 intro e
 induction e using Exp.ind with
 | h kd n t ta l p ih =>
 intro hf j0 hj
 rw [fitE] at hf
 obtain ⟨hf1, hf2, ⟨hf3, hf4⟩, hf5, hf6⟩ := hf
 refine valid_of [] Tryz.func80 rfl (by kernel_rfl) ?_
 refine sr fun Z z => ?_
 simp [row_map, tdiv50, Tryz.f80]
 refine z _ ?_
 clear z Z
 refine sr fun Z z => ?_
 simp [row_map, tdiv50]
 repeat refine sg ?_
 refine RVn_call (c_ref04x_Count g rnd t hf2 (j0 + n.length / 50) (by omega)) ?_
 simp [row_map, tdiv50]
 repeat refine sg ?_
 refine z _ ?_
 clear z Z
 refine AT_seq_k fun K1 hK1 => ?_
 refine sr fun Z z => ?_
 simp [row_map, tdiv50]
 refine z _ ?_
 clear z Z
 refine AT_block ?_
 refine AT_loop_q [2,1,5] [2] (fun j s => ∃ k c, k ≤ ta.length ∧ cntE (.mk kd n t ta l p) j0 = cntEs l (cnts (ta.drop k) c) ∧ j = ta.length - k ∧ s = { n := 53, tm := [(2, .lp 2 0), (1, .v (.int .i64 (c : Nat)) none), (5, .v (.int .i64 k) none)], bx := [(2, encE (.mk kd n t ta l p))], tb := [], sh := [], hint := [] }) (ta.length) (by first | rfl | simp) ?_ ?_
 exact ⟨0, cnt t (j0 + n.length / 50), by simp [cntE]⟩
 rintro j s ⟨k, c, hk, hc, rfl, rfl⟩ K2 hK2
 refine AT_seq_k fun K3 hK3 => ?_
 by_cases hkt : k < ta.length
 refine sr fun Z z => ?_
 simp [row_map, tdiv50, hkt]
 repeat refine sg ?_
 refine z _ ?_
 clear z Z
 refine AT_cond (g := none) rfl (fun hb24 => ?_) (fun hb24 => ?_)
 try simp [row_map, tdiv50, hkt] at hb24
 refine AT_skip ?_
 try simp only [nrm, reduceIte, Nat.reduceEqDiff]
 refine hK3 _ ?_
 refine AT_seq_k fun K4 hK4 => ?_
 refine AT_block ?_
 refine AT_region_q fun Z z => ?_
 simp [row_map, tdiv50, hkt]
 repeat refine sg ?_
 refine RVn_call (c_ref04x_Count g rnd ta[k] (fits_mem hf4 (by simp)) c (by omega)) ?_
 simp [row_map, tdiv50, hkt]
 repeat refine sg ?_
 refine z _ ?_
 clear z Z
 try simp only [nrm, reduceIte, Nat.reduceEqDiff]
 refine hK4 _ ?_
 refine AT_region_q fun Z z => ?_
 simp [row_map, tdiv50, hkt]
 repeat refine sg ?_
 refine z _ ?_
 clear z Z
 try simp only [nrm, reduceIte, Nat.reduceEqDiff]
 refine hK2 _ (by first | rfl | simp) (ta.length - (k+1)) (by omega) ?_
 refine ⟨k+1, cnt ta[k] c, by omega, ?_, by omega, by simp⟩
 rw [hc, List.drop_eq_getElem_cons hkt, cnts_cons, if_pos (by omega)]
 try simp [row_map, tdiv50, hkt] at hb24
 refine AT_exit ?_
 try simp only [nrm, reduceIte, Nat.reduceEqDiff]
 refine hK1 _ ?_
 refine AT_seq_k fun K5 hK5 => ?_
 refine sr fun Z z => ?_
 simp [row_map, tdiv50, hkt]
 refine z _ ?_
 clear z Z
 refine AT_block ?_
 refine AT_loop_q [2,1,6] [2] (fun j s => ∃ k c, k ≤ l.length ∧ cntE (.mk kd n t ta l p) j0 = cntEs (l.drop k) c ∧ j = l.length - k ∧ s = { n := 53, tm := [(2, .lp 2 0), (1, .v (.int .i64 (c : Nat)) none), (6, .v (.int .i64 k) none)], bx := [(2, encE (.mk kd n t ta l p))], tb := [], sh := [], hint := [] }) (l.length) (by first | rfl | simp) ?_ ?_
 refine ⟨0, c, by omega, ?_, by omega, by simp⟩
 first
 | (rw [hc, List.drop_eq_getElem_cons hkt, cnts_cons, if_neg (by omega)]; rfl)
 | (rw [hc, List.drop_eq_nil_of_le (by omega)]; rfl)
 rintro j s ⟨k, c, hk, hc2, rfl, rfl⟩ K6 hK6
 refine AT_seq_k fun K7 hK7 => ?_
 by_cases hkl : k < l.length
 refine sr fun Z z => ?_
 simp [row_map, tdiv50, hkt, hkl]
 repeat refine sg ?_
 refine z _ ?_
 clear z Z
 refine AT_cond (g := none) rfl (fun hb42 => ?_) (fun hb42 => ?_)
 try simp [row_map, tdiv50, hkt, hkl] at hb42
 refine AT_skip ?_
 try simp only [nrm, reduceIte, Nat.reduceEqDiff]
 refine hK7 _ ?_
 refine AT_seq_k fun K8 hK8 => ?_
 refine AT_block ?_
 refine AT_region_q fun Z z => ?_
 simp [row_map, tdiv50, hkt, hkl]
 repeat refine sg ?_
 refine RVn_call (ih l[k] (by simp) (fitEs_mem hf6 (by simp)) c (by omega)) ?_
 simp [row_map, tdiv50, hkt, hkl]
 repeat refine sg ?_
 refine z _ ?_
 clear z Z
 try simp only [nrm, reduceIte, Nat.reduceEqDiff]
 refine hK8 _ ?_
 refine AT_region_q fun Z z => ?_
 simp [row_map, tdiv50, hkt, hkl]
 repeat refine sg ?_
 refine z _ ?_
 clear z Z
 try simp only [nrm, reduceIte, Nat.reduceEqDiff]
 refine hK6 _ (by first | rfl | simp) (l.length - (k+1)) (by omega) ?_
 refine ⟨k+1, cntE l[k] c, by omega, ?_, by omega, by simp⟩
 rw [hc2, List.drop_eq_getElem_cons hkl, cntEs_cons, if_pos (by omega)]
 try simp [row_map, tdiv50, hkt, hkl] at hb42
 refine AT_exit ?_
 try simp only [nrm, reduceIte, Nat.reduceEqDiff]
 refine hK5 _ ?_
 refine sr fun Z z => ?_
 simp [row_map, tdiv50, hkt, hkl]
 refine z _ ?_
 clear z Z
 refine AT_ret ?_
 simp [row_map, tdiv50, Tryz.f80]
 first
 | (rw [hc2, List.drop_eq_getElem_cons hkl, cntEs_cons, if_neg (by omega)])
 | (rw [hc2, List.drop_eq_nil_of_le (by omega)]; rfl)
 refine sr fun Z z => ?_
 simp [row_map, tdiv50, hkt, hkl]
 repeat refine sg ?_
 refine z _ ?_
 clear z Z
 refine cF (by simp [hkt, hkl]) ?_
 refine AT_exit ?_
 try simp only [nrm, reduceIte, Nat.reduceEqDiff]
 refine hK5 _ ?_
 refine sr fun Z z => ?_
 simp [row_map, tdiv50, hkt, hkl]
 refine z _ ?_
 clear z Z
 refine AT_ret ?_
 simp [row_map, tdiv50, Tryz.f80]
 first
 | (rw [hc2, List.drop_eq_getElem_cons hkl, cntEs_cons, if_neg (by omega)])
 | (rw [hc2, List.drop_eq_nil_of_le (by omega)]; rfl)
 refine sr fun Z z => ?_
 simp [row_map, tdiv50, hkt]
 repeat refine sg ?_
 refine z _ ?_
 clear z Z
 refine cF (by simp [hkt]) ?_
 refine AT_exit ?_
 try simp only [nrm, reduceIte, Nat.reduceEqDiff]
 refine hK1 _ ?_
 refine AT_seq_k fun K9 hK9 => ?_
 refine sr fun Z z => ?_
 simp [row_map, tdiv50, hkt]
 refine z _ ?_
 clear z Z
 refine AT_block ?_
 refine AT_loop_q [2,1,6] [2] (fun j s => ∃ k c, k ≤ l.length ∧ cntE (.mk kd n t ta l p) j0 = cntEs (l.drop k) c ∧ j = l.length - k ∧ s = { n := 53, tm := [(2, .lp 2 0), (1, .v (.int .i64 (c : Nat)) none), (6, .v (.int .i64 k) none)], bx := [(2, encE (.mk kd n t ta l p))], tb := [], sh := [], hint := [] }) (l.length) (by first | rfl | simp) ?_ ?_
 refine ⟨0, c, by omega, ?_, by omega, by simp⟩
 first
 | (rw [hc, List.drop_eq_getElem_cons hkt, cnts_cons, if_neg (by omega)]; rfl)
 | (rw [hc, List.drop_eq_nil_of_le (by omega)]; rfl)
 rintro j s ⟨k, c, hk, hc2, rfl, rfl⟩ K10 hK10
 refine AT_seq_k fun K11 hK11 => ?_
 by_cases hkl : k < l.length
 refine sr fun Z z => ?_
 simp [row_map, tdiv50, hkt, hkl]
 repeat refine sg ?_
 refine z _ ?_
 clear z Z
 refine AT_cond (g := none) rfl (fun hb42 => ?_) (fun hb42 => ?_)
 try simp [row_map, tdiv50, hkt, hkl] at hb42
 refine AT_skip ?_
 try simp only [nrm, reduceIte, Nat.reduceEqDiff]
 refine hK11 _ ?_
 refine AT_seq_k fun K12 hK12 => ?_
 refine AT_block ?_
 refine AT_region_q fun Z z => ?_
 simp [row_map, tdiv50, hkt, hkl]
 repeat refine sg ?_
 refine RVn_call (ih l[k] (by simp) (fitEs_mem hf6 (by simp)) c (by omega)) ?_
 simp [row_map, tdiv50, hkt, hkl]
 repeat refine sg ?_
 refine z _ ?_
 clear z Z
 try simp only [nrm, reduceIte, Nat.reduceEqDiff]
 refine hK12 _ ?_
 refine AT_region_q fun Z z => ?_
 simp [row_map, tdiv50, hkt, hkl]
 repeat refine sg ?_
 refine z _ ?_
 clear z Z
 try simp only [nrm, reduceIte, Nat.reduceEqDiff]
 refine hK10 _ (by first | rfl | simp) (l.length - (k+1)) (by omega) ?_
 refine ⟨k+1, cntE l[k] c, by omega, ?_, by omega, by simp⟩
 rw [hc2, List.drop_eq_getElem_cons hkl, cntEs_cons, if_pos (by omega)]
 try simp [row_map, tdiv50, hkt, hkl] at hb42
 refine AT_exit ?_
 try simp only [nrm, reduceIte, Nat.reduceEqDiff]
 refine hK9 _ ?_
 refine sr fun Z z => ?_
 simp [row_map, tdiv50, hkt, hkl]
 refine z _ ?_
 clear z Z
 refine AT_ret ?_
 simp [row_map, tdiv50, Tryz.f80]
 first
 | (rw [hc2, List.drop_eq_getElem_cons hkl, cntEs_cons, if_neg (by omega)])
 | (rw [hc2, List.drop_eq_nil_of_le (by omega)]; rfl)
 refine sr fun Z z => ?_
 simp [row_map, tdiv50, hkt, hkl]
 repeat refine sg ?_
 refine z _ ?_
 clear z Z
 refine cF (by simp [hkt, hkl]) ?_
 refine AT_exit ?_
 try simp only [nrm, reduceIte, Nat.reduceEqDiff]
 refine hK9 _ ?_
 refine sr fun Z z => ?_
 simp [row_map, tdiv50, hkt, hkl]
 refine z _ ?_
 clear z Z
 refine AT_ret ?_
 simp [row_map, tdiv50, Tryz.f80]
 first
 | (rw [hc2, List.drop_eq_getElem_cons hkl, cntEs_cons, if_neg (by omega)])
 | (rw [hc2, List.drop_eq_nil_of_le (by omega)]; rfl)

end Go.Proofs.YtocmdbojefgpbaaGreatDoor
end

import Derived.Test.YtocmdbojefgpbaaGreatDoorPt
import Derived.Test.YtocmdbojefgpbaaGreatDoorPvPa
import Derived.Test.YtocmdbojefgpbaaGreatDoorPvY
import Derived.Test.YtocmdbojefgpbaaGreatDoorXNaC
section
/- Contracts. -/
set_option linter.all false
set_option maxHeartbeats 1000000
set_option maxRecDepth 10000
namespace Go.Proofs.YtocmdbojefgpbaaGreatDoor
open Go Go.Pv
variable (g : Nat → Option (List AV)) (rnd : Bool)

theorem c_ref04x_Compare : ∀ t u : Ty, wt t ≤ 1099511627776 → Valid Tryz.prog (G0 g rnd) 39 [.agg (encTy t), .agg (encTy u)] (.int .i64 (cmpT t u)) := by
 intro t
 induction t using Ty.ind with
 | h n ts p ih =>
 intro u hw
 obtain ⟨m, us, q⟩ := u
 have hw2 : n.length + 1 + wts ts ≤ 1099511627776 := by simpa [wt] using hw
 have hln := wts_len ts
 refine valid_of [] Tryz.func39 rfl (by kernel_rfl) ?_
 refine sr fun Z z => ?_
 simp [Tryz.f39]
 apply z
 refine AT_seq_k fun K1 hK1 => ?_
 refine sr fun Z z => ?_
 simp
 apply z
 refine AT_cond (g := none) rfl (fun hb11 => ?_) (fun hb11 => ?_)
 simp at hb11
 refine sr fun Z z => ?_
 simp
 refine RVn_call (c_ref01x_Compare g rnd n m (by omega)) ?_
 simp
 apply z
 refine AT_ret ?_
 simp [Tryz.f39]
 (· simp [cmpT, cmpS_eq, hb11])
 simp at hb11
 subst hb11
 refine AT_skip ?_
 refine hK1 _ ?_
 refine AT_seq_k fun K2 hK2 => ?_
 refine sr fun Z z => ?_
 simp
 apply z
 refine AT_block ?_
 refine AT_loop_q [2,3,5] [2,3] (fun j s => ∃ k, (k ≤ ts.length ∧ k ≤ us.length) ∧ cmpTs ts us = cmpTs (ts.drop k) (us.drop k) ∧ j = ts.length - k ∧ s = { n := 59, tm := [(2, .lp 2 0), (3, .lp 3 0), (5, .v (.int .i64 k) none)], bx := [(2, encTy (.mk n ts p)), (3, encTy (.mk n us q))], tb := [], sh := [], hint := [] }) (ts.length) (by first | rfl | simp) ?_ ?_
 exact ⟨0, by simp⟩
 rintro j s ⟨k, ⟨hk1, hk2⟩, hc, rfl, rfl⟩ K3 hK3
 refine AT_seq_k fun K4 hK4 => ?_
 by_cases hka : k < ts.length
 refine sr fun Z z => ?_
 simp [hka]
 apply z
 refine AT_cond (g := none) rfl (fun hb28 => ?_) (fun hb28 => ?_)
 simp at hb28
 refine AT_skip ?_
 refine hK4 _ ?_
 refine AT_seq_k fun K5 hK5 => ?_
 refine AT_block ?_
 refine AT_seq_draw Pt.mixed (by kernel_rfl) fun Z z => ?_
 have hm := wts_mem (l := ts) (t := ts[k]) (by simp)
 have hda := List.drop_eq_getElem_cons hka
 have hdb := List.drop_eq_getElem_cons hb28
 simp [row_map, hka, hb28]
 refine RVdn_call (ih ts[k] (by simp) us[k] (by omega)) ?_
 simp
 apply z
 refine sr fun Z z => ?_
 simp
 apply z
 refine AT_cond (g := none) rfl (fun hb43 => ?_) (fun hb43 => ?_)
 simp at hb43
 refine sr fun Z z => ?_
 simp
 apply z
 refine AT_ret ?_
 simp [Tryz.f39]
 (rw [show cmpT (.mk n ts p) (.mk n us q) = cmpTs ts us by simp [cmpT, cmpS_eq], hc, hda, hdb, cmpTs_cons, if_neg hb43])
 simp at hb43
 refine AT_skip ?_
 refine hK5 _ ?_
 refine AT_region_q fun Z z => ?_
 simp [hb43]
 repeat refine sg ?_
 apply z
 refine hK3 _ (by first | rfl | simp) (ts.length - (k+1)) (by omega) ?_
 refine ⟨k+1, by omega, ?_, by omega, by simp⟩
 rw [hc, hda, hdb, cmpTs_cons, if_pos hb43]
 simp at hb28
 refine AT_exit ?_
 refine hK2 _ ?_
 refine AT_seq_k fun K6 hK6 => ?_
 refine sr fun Z z => ?_
 simp
 apply z
 refine AT_cond (g := none) rfl (fun hb51 => ?_) (fun hb51 => ?_)
 simp at hb51
 refine sr fun Z z => ?_
 simp [hb51]
 apply z
 refine AT_ret ?_
 simp [Tryz.f39]
 (rw [show cmpT (.mk n ts p) (.mk n us q) = cmpTs ts us by simp [cmpT, cmpS_eq], hc, cmpTs_end ts us k (by omega) hk1 hk2]; repeat (first | omega | split))
 simp at hb51
 refine AT_skip ?_
 refine hK6 _ ?_
 refine AT_seq_k fun K7 hK7 => ?_
 refine sr fun Z z => ?_
 simp
 apply z
 refine AT_cond (g := none) rfl (fun hb58 => ?_) (fun hb58 => ?_)
 simp at hb58
 refine sr fun Z z => ?_
 simp [hb58]
 apply z
 refine AT_ret ?_
 simp [Tryz.f39]
 (rw [show cmpT (.mk n ts p) (.mk n us q) = cmpTs ts us by simp [cmpT, cmpS_eq], hc, cmpTs_end ts us k (by omega) hk1 hk2]; repeat (first | omega | split))
 simp at hb58
 refine AT_skip ?_
 refine hK7 _ ?_
 refine sr fun Z z => ?_
 simp
 apply z
 refine AT_ret ?_
 simp [Tryz.f39]
 (rw [show cmpT (.mk n ts p) (.mk n us q) = cmpTs ts us by simp [cmpT, cmpS_eq], hc, cmpTs_end ts us k (by omega) hk1 hk2]; repeat (first | omega | split))
 refine sr fun Z z => ?_
 simp [hka]
 apply z
 refine cF (by simp) ?_
 refine AT_exit ?_
 refine hK2 _ ?_
 refine AT_seq_k fun K8 hK8 => ?_
 refine sr fun Z z => ?_
 simp
 apply z
 refine AT_cond (g := none) rfl (fun hb51 => ?_) (fun hb51 => ?_)
 simp at hb51
 refine sr fun Z z => ?_
 simp [hb51]
 apply z
 refine AT_ret ?_
 simp [Tryz.f39]
 (rw [show cmpT (.mk n ts p) (.mk n us q) = cmpTs ts us by simp [cmpT, cmpS_eq], hc, cmpTs_end ts us k (by omega) hk1 hk2]; repeat (first | omega | split))
 simp at hb51
 refine AT_skip ?_
 refine hK8 _ ?_
 refine AT_seq_k fun K9 hK9 => ?_
 refine sr fun Z z => ?_
 simp
 apply z
 refine AT_cond (g := none) rfl (fun hb58 => ?_) (fun hb58 => ?_)
 simp at hb58
 refine sr fun Z z => ?_
 simp [hb58]
 apply z
 refine AT_ret ?_
 simp [Tryz.f39]
 (rw [show cmpT (.mk n ts p) (.mk n us q) = cmpTs ts us by simp [cmpT, cmpS_eq], hc, cmpTs_end ts us k (by omega) hk1 hk2]; repeat (first | omega | split))
 simp at hb58
 refine AT_skip ?_
 refine hK9 _ ?_
 refine sr fun Z z => ?_
 simp
 apply z
 refine AT_ret ?_
 simp [Tryz.f39]
 (rw [show cmpT (.mk n ts p) (.mk n us q) = cmpTs ts us by simp [cmpT, cmpS_eq], hc, cmpTs_end ts us k (by omega) hk1 hk2]; repeat (first | omega | split))

end Go.Proofs.YtocmdbojefgpbaaGreatDoor
end

section
/- Contracts. -/
set_option linter.all false
set_option maxHeartbeats 1000000
set_option maxRecDepth 10000
namespace Go.Proofs.YtocmdbojefgpbaaGreatDoor
open Go Go.Pv
variable (g : Nat → Option (List AV)) (rnd : Bool)

end Go.Proofs.YtocmdbojefgpbaaGreatDoor
end

import Derived.Test.YtepbmjchhcmcoaaGreatDoorPt
import Derived.Test.YtepbmjchhcmcoaaGreatDoorPvPb
import Derived.Test.YtepbmjchhcmcoaaGreatDoorPvY
import Derived.Test.YtepbmjchhcmcoaaGreatDoorXNaC
import Derived.Test.YtepbmjchhcmcoaaGreatDoorXShelf
section
/- Contracts. -/
set_option linter.all false
set_option maxHeartbeats 1000000
set_option maxRecDepth 10000
namespace Go.Proofs.YtepbmjchhcmcoaaGreatDoor
open Go Go.Pv
variable (g : Nat → Option (List AV)) (rnd : Bool)

theorem c_ref04x_Compare : ∀ t u : Ty, wt t ≤ 1099511627776 → Valid Tryz.prog (G0 g rnd) 105 [.agg (encTy t), .agg (encTy u)] (.int .i64 (cmpT t u)) := by
 intro t
 induction t using Ty.ind with
 | h n ts p ih =>
 intro u hw
 obtain ⟨m, us, q⟩ := u
 have hw2 : n.length + 1 + wts ts ≤ 1099511627776 := by simpa [wt] using hw
 have hln := wts_len ts
 refine valid_of [] Tryz.func105 rfl (by kernel_rfl) ?_
 refine sr fun Z z => ?_
 simp [row_map, Tryz.f105]
 refine z _ ?_
 clear z Z
 refine AT_seq_k fun K1 hK1 => ?_
 refine sr fun Z z => ?_
 simp [row_map]
 refine z _ ?_
 clear z Z
 refine AT_cond (g := none) rfl (fun hb11 => ?_) (fun hb11 => ?_)
 simp [row_map] at hb11
 refine sr fun Z z => ?_
 simp [row_map, hb11]
 refine RVn_call (c_ref01x_Compare g rnd n m (by omega)) ?_
 simp [row_map, hb11]
 refine z _ ?_
 clear z Z
 refine AT_ret ?_
 simp [row_map, Tryz.f105]
 (· simp [cmpT, cmpS_eq, hb11])
 simp [row_map] at hb11
 subst hb11
 refine AT_skip ?_
 simp only [nrm, reduceIte, Nat.reduceEqDiff]
 refine hK1 _ ?_
 refine AT_seq_k fun K2 hK2 => ?_
 refine sr fun Z z => ?_
 simp [row_map]
 refine z _ ?_
 clear z Z
 refine AT_block ?_
 refine AT_loop_q [2,3,5] [2,3] (fun j s => ∃ k, (k ≤ ts.length ∧ k ≤ us.length) ∧ cmpTs ts us = cmpTs (ts.drop k) (us.drop k) ∧ j = ts.length - k ∧ s = { n := 59, tm := [(2, .lp 2 0), (3, .lp 3 0), (5, .v (.int .i64 k) none)], bx := [(2, encTy (.mk n ts p)), (3, encTy (.mk n us q))], tb := [], sh := [], hint := [] }) (ts.length) (by first | rfl | simp) ?_ ?_
 exact ⟨0, by simp⟩
 rintro j s ⟨k, ⟨hk1, hk2⟩, hc, rfl, rfl⟩ K3 hK3
 refine AT_seq_k fun K4 hK4 => ?_
 by_cases hka : k < ts.length
 refine sr fun Z z => ?_
 simp [row_map, hka]
 refine z _ ?_
 clear z Z
 refine AT_cond (g := none) rfl (fun hb28 => ?_) (fun hb28 => ?_)
 simp [row_map, hka] at hb28
 refine AT_skip ?_
 simp only [nrm, reduceIte, Nat.reduceEqDiff]
 refine hK4 _ ?_
 refine AT_seq_k fun K5 hK5 => ?_
 refine AT_block ?_
 refine AT_seq_draw Pt.mixed (by kernel_rfl) fun Z z => ?_
 have hm := wts_mem (l := ts) (t := ts[k]) (by simp)
 have hda := List.drop_eq_getElem_cons hka
 have hdb := List.drop_eq_getElem_cons hb28
 simp [row_map, hka, hb28]
 refine RVdn_call (ih ts[k] (by simp) us[k] (by omega)) ?_
 simp [row_map, hka, hb28]
 refine z _ ?_
 clear z Z
 refine sr fun Z z => ?_
 simp [row_map, hka, hb28]
 refine z _ ?_
 clear z Z
 refine AT_cond (g := none) rfl (fun hb43 => ?_) (fun hb43 => ?_)
 simp [row_map, hka, hb28] at hb43
 refine sr fun Z z => ?_
 simp [row_map, hka, hb28, hb43]
 refine z _ ?_
 clear z Z
 refine AT_ret ?_
 simp [row_map, Tryz.f105]
 (rw [show cmpT (.mk n ts p) (.mk n us q) = cmpTs ts us by simp [cmpT, cmpS_eq], hc, hda, hdb, cmpTs_cons, if_neg hb43])
 simp [row_map, hka, hb28] at hb43
 refine AT_skip ?_
 refine hK5 _ ?_
 refine AT_region_q fun Z z => ?_
 simp [row_map, hka, hb28, hb43]
 repeat refine sg ?_
 refine z _ ?_
 clear z Z
 simp only [nrm, reduceIte, Nat.reduceEqDiff]
 refine hK3 _ (by first | rfl | simp) (ts.length - (k+1)) (by omega) ?_
 refine ⟨k+1, by omega, ?_, by omega, by simp⟩
 rw [hc, hda, hdb, cmpTs_cons, if_pos hb43]
 simp [row_map, hka] at hb28
 refine AT_exit ?_
 simp only [nrm, reduceIte, Nat.reduceEqDiff]
 refine hK2 _ ?_
 refine AT_seq_k fun K6 hK6 => ?_
 refine sr fun Z z => ?_
 simp [row_map, hka, hb28]
 refine z _ ?_
 clear z Z
 refine AT_cond (g := none) rfl (fun hb51 => ?_) (fun hb51 => ?_)
 simp [row_map, hka, hb28] at hb51
 refine sr fun Z z => ?_
 simp [row_map, hka, hb28, hb51]
 refine z _ ?_
 clear z Z
 refine AT_ret ?_
 simp [row_map, Tryz.f105]
 (rw [show cmpT (.mk n ts p) (.mk n us q) = cmpTs ts us by simp [cmpT, cmpS_eq], hc, cmpTs_end ts us k (by omega) hk1 hk2]; repeat (first | omega | split))
 simp [row_map, hka, hb28] at hb51
 refine AT_skip ?_
 simp only [nrm, reduceIte, Nat.reduceEqDiff]
 refine hK6 _ ?_
 refine AT_seq_k fun K7 hK7 => ?_
 refine sr fun Z z => ?_
 simp [row_map, hka, hb28, hb51]
 refine z _ ?_
 clear z Z
 refine AT_cond (g := none) rfl (fun hb58 => ?_) (fun hb58 => ?_)
 simp [row_map, hka, hb28, hb51] at hb58
 refine sr fun Z z => ?_
 simp [row_map, hka, hb28, hb51, hb58]
 refine z _ ?_
 clear z Z
 refine AT_ret ?_
 simp [row_map, Tryz.f105]
 (rw [show cmpT (.mk n ts p) (.mk n us q) = cmpTs ts us by simp [cmpT, cmpS_eq], hc, cmpTs_end ts us k (by omega) hk1 hk2]; repeat (first | omega | split))
 simp [row_map, hka, hb28, hb51] at hb58
 refine AT_skip ?_
 simp only [nrm, reduceIte, Nat.reduceEqDiff]
 refine hK7 _ ?_
 refine sr fun Z z => ?_
 simp [row_map, hka, hb28, hb51, hb58]
 refine z _ ?_
 clear z Z
 refine AT_ret ?_
 simp [row_map, Tryz.f105]
 (rw [show cmpT (.mk n ts p) (.mk n us q) = cmpTs ts us by simp [cmpT, cmpS_eq], hc, cmpTs_end ts us k (by omega) hk1 hk2]; repeat (first | omega | split))
 refine sr fun Z z => ?_
 simp [row_map, hka]
 refine z _ ?_
 clear z Z
 refine AT_cond (b := false) (g := none) (by simp [hka]) (fun hb => ?_) (fun hb => ?_)
 cases hb
 clear hb
 refine AT_exit ?_
 simp only [nrm, reduceIte, Nat.reduceEqDiff]
 refine hK2 _ ?_
 refine AT_seq_k fun K8 hK8 => ?_
 refine sr fun Z z => ?_
 simp [row_map, hka]
 refine z _ ?_
 clear z Z
 refine AT_cond (g := none) rfl (fun hb51 => ?_) (fun hb51 => ?_)
 simp [row_map, hka] at hb51
 refine sr fun Z z => ?_
 simp [row_map, hka, hb51]
 refine z _ ?_
 clear z Z
 refine AT_ret ?_
 simp [row_map, Tryz.f105]
 (rw [show cmpT (.mk n ts p) (.mk n us q) = cmpTs ts us by simp [cmpT, cmpS_eq], hc, cmpTs_end ts us k (by omega) hk1 hk2]; repeat (first | omega | split))
 simp [row_map, hka] at hb51
 refine AT_skip ?_
 simp only [nrm, reduceIte, Nat.reduceEqDiff]
 refine hK8 _ ?_
 refine AT_seq_k fun K9 hK9 => ?_
 refine sr fun Z z => ?_
 simp [row_map, hka, hb51]
 refine z _ ?_
 clear z Z
 refine AT_cond (g := none) rfl (fun hb58 => ?_) (fun hb58 => ?_)
 simp [row_map, hka, hb51] at hb58
 refine sr fun Z z => ?_
 simp [row_map, hka, hb51, hb58]
 refine z _ ?_
 clear z Z
 refine AT_ret ?_
 simp [row_map, Tryz.f105]
 (rw [show cmpT (.mk n ts p) (.mk n us q) = cmpTs ts us by simp [cmpT, cmpS_eq], hc, cmpTs_end ts us k (by omega) hk1 hk2]; repeat (first | omega | split))
 simp [row_map, hka, hb51] at hb58
 refine AT_skip ?_
 simp only [nrm, reduceIte, Nat.reduceEqDiff]
 refine hK9 _ ?_
 refine sr fun Z z => ?_
 simp [row_map, hka, hb51, hb58]
 refine z _ ?_
 clear z Z
 refine AT_ret ?_
 simp [row_map, Tryz.f105]
 (rw [show cmpT (.mk n ts p) (.mk n us q) = cmpTs ts us by simp [cmpT, cmpS_eq], hc, cmpTs_end ts us k (by omega) hk1 hk2]; repeat (first | omega | split))

end Go.Proofs.YtepbmjchhcmcoaaGreatDoor
end

section
/- Contracts. -/
set_option linter.all false
set_option maxHeartbeats 1000000
set_option maxRecDepth 10000
namespace Go.Proofs.YtepbmjchhcmcoaaGreatDoor
open Go Go.Pv
variable (g : Nat → Option (List AV)) (rnd : Bool)

theorem c_ref04x_List (t : Ty) : wt t ≤ 1099511627776 → Valid Tryz.prog (G0 g rnd) 86 [.agg (encTy t)] (.slice ((lst t).map encS)) := by
 induction t using Ty.ind with
 | h n ts p ih =>
 intro hw
 have hw2 : n.length + 1 + wts ts ≤ 1099511627776 := by simpa [wt] using hw
 have hln := wts_len ts
 refine valid_of [(7, 9)] Tryz.func86 rfl (by kernel_rfl) ?_
 refine sr fun Z z => ?_
 simp [row_map, Tryz.f86]
 refine z _ ?_
 clear z Z
 refine sr fun Z z => ?_
 simp [row_map]
 refine z _ ?_
 clear z Z
 refine AT_seq_k fun K1 hK1 => ?_
 refine sr fun Z z => ?_
 simp [row_map]
 refine z _ ?_
 clear z Z
 refine AT_block ?_
 refine AT_loop_q [3,4,1] [1] (fun j s => ∃ k, k ≤ ts.length ∧ j = ts.length - k ∧ s = { n := 24, tm := [(3, .v (.slice ((n :: lsts (ts.take k)).map encS)) (some (7, 9))), (4, .v (.int .i64 k) none), (1, .lp 1 0)], bx := [(1, encTy (.mk n ts p))], tb := [], sh := [], hint := [(7, 9)] }) (ts.length) (by first | rfl | simp) ?_ ?_
 exact ⟨0, by simp [lsts, encS]⟩
 rintro j s ⟨k, hk, rfl, rfl⟩ K2 hK2
 refine AT_seq_k fun K3 hK3 => ?_
 refine sr fun Z z => ?_
 simp [row_map]
 refine z _ ?_
 clear z Z
 refine AT_cond (g := none) rfl (fun hb12 => ?_) (fun hb12 => ?_)
 simp [row_map] at hb12
 refine AT_skip ?_
 simp only [nrm, reduceIte, Nat.reduceEqDiff]
 refine hK3 _ ?_
 refine AT_seq_k fun K4 hK4 => ?_
 refine AT_block ?_
 refine AT_region_q fun Z z => ?_
 have hm := wts_mem (l := ts) (t := ts[k]) (by simp)
 have hdk := lst_wt ts[k]
 have hdt := lsts_wts (ts.take k)
 have hwt := wts_take ts k
 simp [row_map, hb12]
 refine RVn_call (ih ts[k] (by simp) (by omega)) ?_
 simp [row_map, hb12]
 repeat refine sg ?_
 refine z _ ?_
 clear z Z
 refine hK4 _ ?_
 refine AT_region_q fun Z z => ?_
 simp [row_map, hb12]
 repeat refine sg ?_
 refine z _ ?_
 clear z Z
 simp only [nrm, reduceIte, Nat.reduceEqDiff]
 refine hK2 _ (by first | rfl | simp) (ts.length - (k+1)) (by omega) ?_
 exact ⟨k+1, by omega, by omega, by simp [lsts_take _ _ hb12]⟩
 simp [row_map] at hb12
 refine AT_exit ?_
 simp only [nrm, reduceIte, Nat.reduceEqDiff]
 refine hK1 _ ?_
 refine sr fun Z z => ?_
 simp [row_map, hb12]
 refine z _ ?_
 clear z Z
 refine AT_ret ?_
 simp [row_map, Tryz.f86]
 rw [List.take_of_length_le hb12]; simp [lst]

end Go.Proofs.YtepbmjchhcmcoaaGreatDoor
end

section
/- Library contracts. -/
set_option linter.all false
set_option maxHeartbeats 1000000
set_option maxRecDepth 10000
namespace Go.Proofs.YtepbmjchhcmcoaaGreatDoor
open Go Go.Pv
variable (g : Nat → Option (List AV)) (rnd : Bool)

theorem c_strings_Join (l : List Str) (sep : Str) (hn : l.length ≤ 140737488355328) (hlen : (Lib.join l sep).length ≤ 140737488355328) : Valid Tryz.prog (G0 g rnd) 55 [.slice (l.map encS), .str sep] (.str (Lib.join l sep)) :=
  join_valid (by kernel_rfl) (fun a c sep w => Tryz.strings_Join_none a c sep w) (fun bk o c xs sep w h1 h2 h3 h4 h5 => Tryz.strings_Join bk o c xs sep w h1 h2 h3 h4 h5) l sep hn hlen

end Go.Proofs.YtepbmjchhcmcoaaGreatDoor
end

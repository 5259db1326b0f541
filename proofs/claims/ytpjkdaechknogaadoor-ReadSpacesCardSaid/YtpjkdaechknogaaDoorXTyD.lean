import Derived.Test.YtpjkdaechknogaaDoorPt
import Derived.Test.YtpjkdaechknogaaDoorPvPb
import Derived.Test.YtpjkdaechknogaaDoorPvY
import Derived.Test.YtpjkdaechknogaaDoorXNaC
section
/- Contracts. -/
set_option linter.all false
set_option maxHeartbeats 1000000
set_option maxRecDepth 10000
namespace Go.Proofs.YtpjkdaechknogaaDoor
open Go Go.Pv
variable (g : Nat → Option (List AV)) (rnd : Bool)

theorem c_ref04x_Compare : ∀ t u : Ty, wt t ≤ 1099511627776 → Valid Tryd.prog (G0 g rnd) 42 [.agg (encTy t), .agg (encTy u)] (.int .i64 (cmpT t u)) := by
 intro t
 induction t using Ty.ind with
 | h n ts p ih =>
 intro u hw
 obtain ⟨m, us, q⟩ := u
 have hw2 : n.length + 1 + wts ts ≤ 1099511627776 := by simpa [wt] using hw
 have hln := wts_len ts
 refine valid_of [] Tryd.func42 rfl (by kernel_rfl) ?_
 refine AT_seq_region fun K1 hK1 => ?_
 simp [row_map, Tryd.f42]
 repeat refine sg ?_
 refine hK1 _ ?_
 clear hK1 K1
 refine AT_seq_k fun K2 hK2 => ?_
 refine AT_seq_region fun K3 hK3 => ?_
 simp [row_map]
 repeat refine sg ?_
 refine hK3 _ ?_
 clear hK3 K3
 refine AT_cond (g := none) rfl (fun hb11 => ?_) (fun hb11 => ?_)
 ·
  try simp [row_map] at hb11
  refine AT_seq_region fun K4 hK4 => ?_
  simp [row_map, hb11]
  repeat refine sg ?_
  refine RVn_call (c_ref01x_Compare g rnd n m (by omega)) ?_
  simp [row_map, hb11]
  repeat refine sg ?_
  refine hK4 _ ?_
  clear hK4 K4
  refine AT_ret ?_
  simp [row_map, Tryd.f42]
  first
  | (simp [cmpT, cmpS_eq, hb11]; done)
  | (rw [show cmpT (.mk n ts p) (.mk n us q) = cmpTs ts us by simp [cmpT, cmpS_eq], hc, hda, hdb, cmpTs_cons, if_neg hb43])
  | (rw [show cmpT (.mk n ts p) (.mk n us q) = cmpTs ts us by simp [cmpT, cmpS_eq], hc, cmpTs_end ts us k (by omega) hk1 hk2]; repeat (first | omega | split))
 ·
  try simp [row_map] at hb11
  subst hb11
  refine AT_skip ?_
  try simp only [nrm, reduceIte, Nat.reduceEqDiff]
  refine hK2 _ ?_
  refine AT_seq_k fun K5 hK5 => ?_
  refine AT_seq_region fun K6 hK6 => ?_
  simp [row_map]
  repeat refine sg ?_
  refine hK6 _ ?_
  clear hK6 K6
  refine AT_block ?_
  refine AT_loop_q [2,3,5] [2,3] (fun j s => ∃ k, (k ≤ ts.length ∧ k ≤ us.length) ∧ cmpTs ts us = cmpTs (ts.drop k) (us.drop k) ∧ j = ts.length - k ∧ s = { n := 59, tm := [(2, .lp 2 0), (3, .lp 3 0), (5, .v (.int .i64 k) none)], bx := [(2, encTy (.mk n ts p)), (3, encTy (.mk n us q))], tb := [], sh := [], hint := [] }) (ts.length) (by first | rfl | simp) ?_ ?_
  ·
   exact ⟨0, by simp⟩
  ·
   rintro j s ⟨k, ⟨hk1, hk2⟩, hc, rfl, rfl⟩ K7 hK7
   refine AT_seq_k fun K8 hK8 => ?_
   by_cases hka : k < ts.length
   ·
    refine AT_seq_region fun K9 hK9 => ?_
    simp [row_map, hka]
    repeat refine sg ?_
    refine hK9 _ ?_
    clear hK9 K9
    refine AT_cond (g := none) rfl (fun hb28 => ?_) (fun hb28 => ?_)
    ·
     try simp [row_map, hka] at hb28
     refine AT_skip ?_
     try simp only [nrm, reduceIte, Nat.reduceEqDiff]
     refine hK8 _ ?_
     refine AT_seq_k fun K10 hK10 => ?_
     refine AT_block ?_
     refine AT_seq_draw Pt.mixed (by kernel_rfl) fun K11 hK11 => ?_
     have hm := wts_mem (l := ts) (t := ts[k]) (by simp)
     have hda := List.drop_eq_getElem_cons hka
     have hdb := List.drop_eq_getElem_cons hb28
     simp [row_map, hka, hb28]
     repeat refine sg ?_
     refine RVdn_call (ih ts[k] (by simp) us[k] (by omega)) ?_
     simp [row_map, hka, hb28]
     repeat refine sg ?_
     refine hK11 _ ?_
     clear hK11 K11
     refine AT_seq_region fun K12 hK12 => ?_
     simp [row_map, hka, hb28]
     repeat refine sg ?_
     refine hK12 _ ?_
     clear hK12 K12
     refine AT_cond (g := none) rfl (fun hb43 => ?_) (fun hb43 => ?_)
     ·
      try simp [row_map, hka, hb28] at hb43
      refine AT_seq_region fun K13 hK13 => ?_
      simp [row_map, hka, hb28, hb43]
      repeat refine sg ?_
      refine hK13 _ ?_
      clear hK13 K13
      refine AT_ret ?_
      simp [row_map, Tryd.f42]
      first
      | (simp [cmpT, cmpS_eq, hb11]; done)
      | (rw [show cmpT (.mk n ts p) (.mk n us q) = cmpTs ts us by simp [cmpT, cmpS_eq], hc, hda, hdb, cmpTs_cons, if_neg hb43])
      | (rw [show cmpT (.mk n ts p) (.mk n us q) = cmpTs ts us by simp [cmpT, cmpS_eq], hc, cmpTs_end ts us k (by omega) hk1 hk2]; repeat (first | omega | split))
     ·
      try simp [row_map, hka, hb28] at hb43
      refine AT_skip ?_
      try simp only [nrm, reduceIte, Nat.reduceEqDiff]
      refine hK10 _ ?_
      refine AT_region_q fun K14 hK14 => ?_
      simp [row_map, hka, hb28, hb43]
      repeat refine sg ?_
      refine hK14 _ ?_
      clear hK14 K14
      try simp only [nrm, reduceIte, Nat.reduceEqDiff]
      refine hK7 _ (by first | rfl | simp) (ts.length - (k+1)) (by omega) ?_
      refine ⟨k+1, by omega, ?_, by omega, by simp⟩
      rw [hc, hda, hdb, cmpTs_cons, if_pos hb43]
    ·
     try simp [row_map, hka] at hb28
     refine AT_exit ?_
     try simp only [nrm, reduceIte, Nat.reduceEqDiff]
     refine hK5 _ ?_
     refine AT_seq_k fun K15 hK15 => ?_
     refine AT_seq_region fun K16 hK16 => ?_
     simp [row_map, hka, hb28]
     repeat refine sg ?_
     refine hK16 _ ?_
     clear hK16 K16
     refine AT_cond (g := none) rfl (fun hb51 => ?_) (fun hb51 => ?_)
     ·
      try simp [row_map, hka, hb28] at hb51
      refine AT_seq_region fun K17 hK17 => ?_
      simp [row_map, hka, hb28, hb51]
      repeat refine sg ?_
      refine hK17 _ ?_
      clear hK17 K17
      refine AT_ret ?_
      simp [row_map, Tryd.f42]
      first
      | (simp [cmpT, cmpS_eq, hb11]; done)
      | (rw [show cmpT (.mk n ts p) (.mk n us q) = cmpTs ts us by simp [cmpT, cmpS_eq], hc, hda, hdb, cmpTs_cons, if_neg hb43])
      | (rw [show cmpT (.mk n ts p) (.mk n us q) = cmpTs ts us by simp [cmpT, cmpS_eq], hc, cmpTs_end ts us k (by omega) hk1 hk2]; repeat (first | omega | split))
     ·
      try simp [row_map, hka, hb28] at hb51
      refine AT_skip ?_
      try simp only [nrm, reduceIte, Nat.reduceEqDiff]
      refine hK15 _ ?_
      refine AT_seq_k fun K18 hK18 => ?_
      refine AT_seq_region fun K19 hK19 => ?_
      simp [row_map, hka, hb28, hb51]
      repeat refine sg ?_
      refine hK19 _ ?_
      clear hK19 K19
      refine AT_cond (g := none) rfl (fun hb58 => ?_) (fun hb58 => ?_)
      ·
       try simp [row_map, hka, hb28, hb51] at hb58
       refine AT_seq_region fun K20 hK20 => ?_
       simp [row_map, hka, hb28, hb51, hb58]
       repeat refine sg ?_
       refine hK20 _ ?_
       clear hK20 K20
       refine AT_ret ?_
       simp [row_map, Tryd.f42]
       first
       | (simp [cmpT, cmpS_eq, hb11]; done)
       | (rw [show cmpT (.mk n ts p) (.mk n us q) = cmpTs ts us by simp [cmpT, cmpS_eq], hc, hda, hdb, cmpTs_cons, if_neg hb43])
       | (rw [show cmpT (.mk n ts p) (.mk n us q) = cmpTs ts us by simp [cmpT, cmpS_eq], hc, cmpTs_end ts us k (by omega) hk1 hk2]; repeat (first | omega | split))
      ·
       try simp [row_map, hka, hb28, hb51] at hb58
       refine AT_skip ?_
       try simp only [nrm, reduceIte, Nat.reduceEqDiff]
       refine hK18 _ ?_
       refine AT_seq_region fun K21 hK21 => ?_
       simp [row_map, hka, hb28, hb51, hb58]
       repeat refine sg ?_
       refine hK21 _ ?_
       clear hK21 K21
       refine AT_ret ?_
       simp [row_map, Tryd.f42]
       first
       | (simp [cmpT, cmpS_eq, hb11]; done)
       | (rw [show cmpT (.mk n ts p) (.mk n us q) = cmpTs ts us by simp [cmpT, cmpS_eq], hc, hda, hdb, cmpTs_cons, if_neg hb43])
       | (rw [show cmpT (.mk n ts p) (.mk n us q) = cmpTs ts us by simp [cmpT, cmpS_eq], hc, cmpTs_end ts us k (by omega) hk1 hk2]; repeat (first | omega | split))
   ·
    refine AT_seq_region fun K22 hK22 => ?_
    simp [row_map, hka]
    repeat refine sg ?_
    refine hK22 _ ?_
    clear hK22 K22
    refine AT_cond (b := false) (g := none) (by simp [hka]) (fun hb => ?_) (fun hb => ?_)
    ·
     cases hb
    ·
     clear hb
     refine AT_exit ?_
     try simp only [nrm, reduceIte, Nat.reduceEqDiff]
     refine hK5 _ ?_
     refine AT_seq_k fun K23 hK23 => ?_
     refine AT_seq_region fun K24 hK24 => ?_
     simp [row_map, hka]
     repeat refine sg ?_
     refine hK24 _ ?_
     clear hK24 K24
     refine AT_cond (g := none) rfl (fun hb51 => ?_) (fun hb51 => ?_)
     ·
      try simp [row_map, hka] at hb51
      refine AT_seq_region fun K25 hK25 => ?_
      simp [row_map, hka, hb51]
      repeat refine sg ?_
      refine hK25 _ ?_
      clear hK25 K25
      refine AT_ret ?_
      simp [row_map, Tryd.f42]
      first
      | (simp [cmpT, cmpS_eq, hb11]; done)
      | (rw [show cmpT (.mk n ts p) (.mk n us q) = cmpTs ts us by simp [cmpT, cmpS_eq], hc, hda, hdb, cmpTs_cons, if_neg hb43])
      | (rw [show cmpT (.mk n ts p) (.mk n us q) = cmpTs ts us by simp [cmpT, cmpS_eq], hc, cmpTs_end ts us k (by omega) hk1 hk2]; repeat (first | omega | split))
     ·
      try simp [row_map, hka] at hb51
      refine AT_skip ?_
      try simp only [nrm, reduceIte, Nat.reduceEqDiff]
      refine hK23 _ ?_
      refine AT_seq_k fun K26 hK26 => ?_
      refine AT_seq_region fun K27 hK27 => ?_
      simp [row_map, hka, hb51]
      repeat refine sg ?_
      refine hK27 _ ?_
      clear hK27 K27
      refine AT_cond (g := none) rfl (fun hb58 => ?_) (fun hb58 => ?_)
      ·
       try simp [row_map, hka, hb51] at hb58
       refine AT_seq_region fun K28 hK28 => ?_
       simp [row_map, hka, hb51, hb58]
       repeat refine sg ?_
       refine hK28 _ ?_
       clear hK28 K28
       refine AT_ret ?_
       simp [row_map, Tryd.f42]
       first
       | (simp [cmpT, cmpS_eq, hb11]; done)
       | (rw [show cmpT (.mk n ts p) (.mk n us q) = cmpTs ts us by simp [cmpT, cmpS_eq], hc, hda, hdb, cmpTs_cons, if_neg hb43])
       | (rw [show cmpT (.mk n ts p) (.mk n us q) = cmpTs ts us by simp [cmpT, cmpS_eq], hc, cmpTs_end ts us k (by omega) hk1 hk2]; repeat (first | omega | split))
      ·
       try simp [row_map, hka, hb51] at hb58
       refine AT_skip ?_
       try simp only [nrm, reduceIte, Nat.reduceEqDiff]
       refine hK26 _ ?_
       refine AT_seq_region fun K29 hK29 => ?_
       simp [row_map, hka, hb51, hb58]
       repeat refine sg ?_
       refine hK29 _ ?_
       clear hK29 K29
       refine AT_ret ?_
       simp [row_map, Tryd.f42]
       first
       | (simp [cmpT, cmpS_eq, hb11]; done)
       | (rw [show cmpT (.mk n ts p) (.mk n us q) = cmpTs ts us by simp [cmpT, cmpS_eq], hc, hda, hdb, cmpTs_cons, if_neg hb43])
       | (rw [show cmpT (.mk n ts p) (.mk n us q) = cmpTs ts us by simp [cmpT, cmpS_eq], hc, cmpTs_end ts us k (by omega) hk1 hk2]; repeat (first | omega | split))

end Go.Proofs.YtpjkdaechknogaaDoor
end

section
/- Contracts. -/
set_option linter.all false
set_option maxHeartbeats 1000000
set_option maxRecDepth 10000
namespace Go.Proofs.YtpjkdaechknogaaDoor
open Go Go.Pv
variable (g : Nat → Option (List AV)) (rnd : Bool)

theorem c_ref04x_List (t : Ty) : wt t ≤ 1099511627776 → Valid Tryd.prog (G0 g rnd) 36 [.agg (encTy t)] (.slice ((lst t).map encS)) := by
 induction t using Ty.ind with
 | h n ts p ih =>
 intro hw
 have hw2 : n.length + 1 + wts ts ≤ 1099511627776 := by simpa [wt] using hw
 have hln := wts_len ts
 refine valid_of [(7, 9)] Tryd.func36 rfl (by kernel_rfl) ?_
 refine AT_seq_region fun K1 hK1 => ?_
 simp [row_map, Tryd.f36]
 repeat refine sg ?_
 refine hK1 _ ?_
 clear hK1 K1
 refine AT_seq_region fun K2 hK2 => ?_
 simp [row_map]
 repeat refine sg ?_
 refine hK2 _ ?_
 clear hK2 K2
 refine AT_seq_k fun K3 hK3 => ?_
 refine AT_seq_region fun K4 hK4 => ?_
 simp [row_map]
 repeat refine sg ?_
 refine hK4 _ ?_
 clear hK4 K4
 refine AT_block ?_
 refine AT_loop_q [3,4,1] [1] (fun j s => ∃ k, k ≤ ts.length ∧ j = ts.length - k ∧ s = { n := 24, tm := [(3, .v (.slice ((n :: lsts (ts.take k)).map encS)) (some (7, 9))), (4, .v (.int .i64 k) none), (1, .lp 1 0)], bx := [(1, encTy (.mk n ts p))], tb := [], sh := [], hint := [(7, 9)] }) (ts.length) (by first | rfl | simp) ?_ ?_
 ·
  exact ⟨0, by simp [lsts, encS]⟩
 ·
  rintro j s ⟨k, hk, rfl, rfl⟩ K5 hK5
  refine AT_seq_k fun K6 hK6 => ?_
  refine AT_seq_region fun K7 hK7 => ?_
  simp [row_map]
  repeat refine sg ?_
  refine hK7 _ ?_
  clear hK7 K7
  refine AT_cond (g := none) rfl (fun hb12 => ?_) (fun hb12 => ?_)
  ·
   try simp [row_map] at hb12
   refine AT_skip ?_
   try simp only [nrm, reduceIte, Nat.reduceEqDiff]
   refine hK6 _ ?_
   refine AT_seq_k fun K8 hK8 => ?_
   refine AT_block ?_
   refine AT_region_q fun K9 hK9 => ?_
   have hm := wts_mem (l := ts) (t := ts[k]) (by simp)
   have hdk := lst_wt ts[k]
   have hdt := lsts_wts (ts.take k)
   have hwt := wts_take ts k
   simp [row_map, hb12]
   repeat refine sg ?_
   refine RVn_call (ih ts[k] (by simp) (by omega)) ?_
   simp [row_map, hb12]
   repeat refine sg ?_
   refine hK9 _ ?_
   clear hK9 K9
   try simp only [nrm, reduceIte, Nat.reduceEqDiff]
   refine hK8 _ ?_
   refine AT_region_q fun K10 hK10 => ?_
   simp [row_map, hb12]
   repeat refine sg ?_
   refine hK10 _ ?_
   clear hK10 K10
   try simp only [nrm, reduceIte, Nat.reduceEqDiff]
   refine hK5 _ (by first | rfl | simp) (ts.length - (k+1)) (by omega) ?_
   exact ⟨k+1, by omega, by omega, by simp [lsts_take _ _ hb12]⟩
  ·
   try simp [row_map] at hb12
   refine AT_exit ?_
   try simp only [nrm, reduceIte, Nat.reduceEqDiff]
   refine hK3 _ ?_
   refine AT_seq_region fun K11 hK11 => ?_
   simp [row_map, hb12]
   repeat refine sg ?_
   refine hK11 _ ?_
   clear hK11 K11
   refine AT_ret ?_
   simp [row_map, Tryd.f36]
   rw [List.take_of_length_le hb12]; simp [lst]

end Go.Proofs.YtpjkdaechknogaaDoor
end

import Derived.Test.YtpjkdaechknogaaGreatDoorPt
import Derived.Test.YtpjkdaechknogaaGreatDoorPvPa
import Derived.Test.YtpjkdaechknogaaGreatDoorPvX
import Derived.Test.YtpjkdaechknogaaGreatDoorXNaC
import Derived.Test.YtpjkdaechknogaaGreatDoorPvMa
section
/- Contracts. -/
set_option linter.all false
set_option maxHeartbeats 1000000
set_option maxRecDepth 10000
namespace Go.Proofs.YtpjkdaechknogaaGreatDoor
open Go Go.Pv
variable (g : Nat → Option (List AV)) (rnd : Bool)

theorem c_cmp_Or_int (l : List Int) (hl : l.length ≤ 1099511627776) : Valid Tryz.prog (G0 g rnd) 98 [.slice (l.map encI)] (.int .i64 (orI l)) := by

 refine valid_of [] Tryz.func98 rfl (by kernel_rfl) ?_
 refine AT_seq_region fun K1 hK1 => ?_
 simp [row_map, Tryz.f98]
 repeat refine sg ?_
 refine hK1 _ ?_
 clear hK1 K1
 refine AT_seq_region fun K2 hK2 => ?_
 simp [row_map]
 repeat refine sg ?_
 refine hK2 _ ?_
 clear hK2 K2
 refine AT_seq_k fun K3 hK3 => ?_
 refine AT_seq_region fun K4 hK4 => ?_
 simp [row_map]
 repeat refine sg ?_
 refine hK4 _ ?_
 clear hK4 K4
 refine AT_block ?_
 refine AT_loop_q [3,6,7,8] [] (fun j s => ∃ k, k ≤ l.length ∧ orI l = orI (l.drop k) ∧ j = l.length - k ∧ s = { n := 18, tm := [(3, .v (.int .i64 0) none), (6, .v (.slice (l.map encI)) none), (7, .v (.int .i64 l.length) none), (8, .v (.int .i64 k) none)], bx := [], tb := [], sh := [], hint := [] }) (l.length) (by first | rfl | simp) ?_ ?_
 ·
  exact ⟨0, by simp⟩
 ·
  rintro j s ⟨k, hk, hc, rfl, rfl⟩ K5 hK5
  refine AT_seq_region fun K6 hK6 => ?_
  simp [row_map]
  repeat refine sg ?_
  refine hK6 _ ?_
  clear hK6 K6
  refine AT_seq_k fun K7 hK7 => ?_
  refine AT_cond (g := none) rfl (fun hb9 => ?_) (fun hb9 => ?_)
  ·
   try simp [row_map] at hb9
   refine AT_skip ?_
   try simp only [nrm, reduceIte, Nat.reduceEqDiff]
   refine hK7 _ ?_
   refine AT_seq_k fun K8 hK8 => ?_
   refine AT_block ?_
   refine AT_seq_region fun K9 hK9 => ?_
   have hd := List.drop_eq_getElem_cons hb9
   simp [row_map, hb9]
   repeat refine sg ?_
   refine hK9 _ ?_
   clear hK9 K9
   refine AT_seq_region fun K10 hK10 => ?_
   simp [row_map, hb9]
   repeat refine sg ?_
   refine hK10 _ ?_
   clear hK10 K10
   refine AT_cond (g := none) rfl (fun hb14 => ?_) (fun hb14 => ?_)
   ·
    try simp [row_map, hb9] at hb14
    refine AT_seq_region fun K11 hK11 => ?_
    simp [row_map, hb9, hb14]
    repeat refine sg ?_
    refine hK11 _ ?_
    clear hK11 K11
    refine AT_ret ?_
    simp [row_map, Tryz.f98]
    first | (rw [hc, hd, orI, if_neg hb14]) | (rw [hc, List.drop_eq_nil_of_le hb9]; rfl)
   ·
    try simp [row_map, hb9] at hb14
    refine AT_skip ?_
    try simp only [nrm, reduceIte, Nat.reduceEqDiff]
    refine hK8 _ ?_
    refine AT_region_q fun K12 hK12 => ?_
    simp [row_map, hb9, hb14]
    repeat refine sg ?_
    refine hK12 _ ?_
    clear hK12 K12
    try simp only [nrm, reduceIte, Nat.reduceEqDiff]
    refine hK5 _ (by first | rfl | simp) (l.length - (k+1)) (by omega) ?_
    refine ⟨k+1, by omega, ?_, by omega, by simp⟩
    rw [hc, hd, orI, if_pos hb14]
  ·
   try simp [row_map] at hb9
   refine AT_exit ?_
   try simp only [nrm, reduceIte, Nat.reduceEqDiff]
   refine hK3 _ ?_
   refine AT_seq_region fun K13 hK13 => ?_
   simp [row_map, hb9]
   repeat refine sg ?_
   refine hK13 _ ?_
   clear hK13 K13
   refine AT_ret ?_
   simp [row_map, Tryz.f98]
   first | (rw [hc, hd, orI, if_neg hb14]) | (rw [hc, List.drop_eq_nil_of_le hb9]; rfl)

theorem c_cmp_Or_int_p (a b : Int) : Valid Tryz.prog (G0 g rnd) 98 [.slice [[.int .i64 a], [.int .i64 b]]] (.int .i64 (if a = 0 then b else a)) := by
  have h := c_cmp_Or_int g rnd [a, b] (by simp)
  have e : orI [a, b] = if a = 0 then b else a := by simp only [orI]; split <;> (try split) <;> simp_all
  rw [e] at h
  exact h

theorem c_slices_CompareFunc_api_Type_api_Type_api_Type_api_Type (ts us : List Ty) (hl : ts.length ≤ 1099511627776) (hcmp : ∀ t ∈ ts, ∀ u ∈ us, Valid Tryz.prog (G0 g rnd) 93 [.agg (encTy t), .agg (encTy u)] (.int .i64 (cmpT t u))) : Valid Tryz.prog (G0 g rnd) 100 [.slice (ts.map encTy), .slice (us.map encTy), .func 93 []] (.int .i64 (cmpTs ts us)) := by

 refine valid_of [] Tryz.func100 rfl (by kernel_rfl) ?_
 refine AT_seq_region fun K1 hK1 => ?_
 simp [row_map, Tryz.f100]
 repeat refine sg ?_
 refine hK1 _ ?_
 clear hK1 K1
 refine AT_seq_k fun K2 hK2 => ?_
 refine AT_seq_region fun K3 hK3 => ?_
 simp [row_map]
 repeat refine sg ?_
 refine hK3 _ ?_
 clear hK3 K3
 refine AT_block ?_
 refine AT_loop_q [0,1,2,11,12,13] [] (fun j s => ∃ k, (k ≤ ts.length ∧ k ≤ us.length) ∧ cmpTs ts us = cmpTs (ts.drop k) (us.drop k) ∧ j = ts.length - k ∧ s = { n := 39, tm := [(0, .v (.slice (ts.map encTy)) none), (1, .v (.slice (us.map encTy)) none), (2, .v (.func 93 []) none), (11, .v (.slice (ts.map encTy)) none), (12, .v (.int .i64 ts.length) none), (13, .v (.int .i64 k) none)], bx := [], tb := [], sh := [], hint := [] }) (ts.length) (by first | rfl | simp) ?_ ?_
 ·
  exact ⟨0, by simp⟩
 ·
  rintro j s ⟨k, ⟨hk1, hk2⟩, hc, rfl, rfl⟩ K4 hK4
  refine AT_seq_region fun K5 hK5 => ?_
  simp [row_map]
  repeat refine sg ?_
  refine hK5 _ ?_
  clear hK5 K5
  refine AT_seq_k fun K6 hK6 => ?_
  refine AT_cond (g := none) rfl (fun hb14 => ?_) (fun hb14 => ?_)
  ·
   try simp [row_map] at hb14
   refine AT_skip ?_
   try simp only [nrm, reduceIte, Nat.reduceEqDiff]
   refine hK6 _ ?_
   refine AT_seq_k fun K7 hK7 => ?_
   refine AT_block ?_
   refine AT_seq_region fun K8 hK8 => ?_
   simp [row_map, hb14]
   repeat refine sg ?_
   refine hK8 _ ?_
   clear hK8 K8
   refine AT_seq_k fun K9 hK9 => ?_
   refine AT_seq_region fun K10 hK10 => ?_
   simp [row_map, hb14]
   repeat refine sg ?_
   refine hK10 _ ?_
   clear hK10 K10
   refine AT_cond (g := none) rfl (fun hb21 => ?_) (fun hb21 => ?_)
   ·
    try simp [row_map, hb14] at hb21
    refine AT_seq_region fun K11 hK11 => ?_
    simp [row_map, hb14, hb21]
    repeat refine sg ?_
    refine hK11 _ ?_
    clear hK11 K11
    refine AT_ret ?_
    simp [row_map, Tryz.f100]
    first
    | (rw [hc, hda, hdb, cmpTs_cons, if_neg hb31])
    | (rw [hc, cmpTs_end ts us k (by omega) hk1 hk2]; repeat (first | omega | split))
   ·
    try simp [row_map, hb14] at hb21
    refine AT_skip ?_
    try simp only [nrm, reduceIte, Nat.reduceEqDiff]
    refine hK9 _ ?_
    refine AT_seq_region fun K12 hK12 => ?_
    have hda := List.drop_eq_getElem_cons hb14
    have hdb := List.drop_eq_getElem_cons hb21
    simp [row_map, hb14, hb21]
    repeat refine sg ?_
    refine hK12 _ ?_
    clear hK12 K12
    refine AT_seq_region fun K13 hK13 => ?_
    simp [row_map, hb14, hb21]
    repeat refine sg ?_
    refine RVn_call (hcmp ts[k] (by simp) us[k] (by simp)) ?_
    simp [row_map, hb14, hb21]
    repeat refine sg ?_
    refine hK13 _ ?_
    clear hK13 K13
    refine AT_seq_region fun K14 hK14 => ?_
    simp [row_map, hb14, hb21]
    repeat refine sg ?_
    refine hK14 _ ?_
    clear hK14 K14
    refine AT_cond (g := none) rfl (fun hb31 => ?_) (fun hb31 => ?_)
    ·
     try simp [row_map, hb14, hb21] at hb31
     refine AT_seq_region fun K15 hK15 => ?_
     simp [row_map, hb14, hb21, hb31]
     repeat refine sg ?_
     refine hK15 _ ?_
     clear hK15 K15
     refine AT_ret ?_
     simp [row_map, Tryz.f100]
     first
     | (rw [hc, hda, hdb, cmpTs_cons, if_neg hb31])
     | (rw [hc, cmpTs_end ts us k (by omega) hk1 hk2]; repeat (first | omega | split))
    ·
     try simp [row_map, hb14, hb21] at hb31
     refine AT_skip ?_
     try simp only [nrm, reduceIte, Nat.reduceEqDiff]
     refine hK7 _ ?_
     refine AT_region_q fun K16 hK16 => ?_
     simp [row_map, hb14, hb21, hb31]
     repeat refine sg ?_
     refine hK16 _ ?_
     clear hK16 K16
     try simp only [nrm, reduceIte, Nat.reduceEqDiff]
     refine hK4 _ (by first | rfl | simp) (ts.length - (k+1)) (by omega) ?_
     refine ⟨k+1, by omega, ?_, by omega, by simp⟩
     rw [hc, hda, hdb, cmpTs_cons, if_pos hb31]
  ·
   try simp [row_map] at hb14
   refine AT_exit ?_
   try simp only [nrm, reduceIte, Nat.reduceEqDiff]
   refine hK2 _ ?_
   refine AT_seq_k fun K17 hK17 => ?_
   refine AT_seq_region fun K18 hK18 => ?_
   simp [row_map, hb14]
   repeat refine sg ?_
   refine hK18 _ ?_
   clear hK18 K18
   refine AT_cond (g := none) rfl (fun hb38 => ?_) (fun hb38 => ?_)
   ·
    try simp [row_map, hb14] at hb38
    refine AT_seq_region fun K19 hK19 => ?_
    simp [row_map, hb14, hb38]
    repeat refine sg ?_
    refine hK19 _ ?_
    clear hK19 K19
    refine AT_ret ?_
    simp [row_map, Tryz.f100]
    first
    | (rw [hc, hda, hdb, cmpTs_cons, if_neg hb31])
    | (rw [hc, cmpTs_end ts us k (by omega) hk1 hk2]; repeat (first | omega | split))
   ·
    try simp [row_map, hb14] at hb38
    refine AT_skip ?_
    try simp only [nrm, reduceIte, Nat.reduceEqDiff]
    refine hK17 _ ?_
    refine AT_seq_region fun K20 hK20 => ?_
    simp [row_map, hb14, hb38]
    repeat refine sg ?_
    refine hK20 _ ?_
    clear hK20 K20
    refine AT_ret ?_
    simp [row_map, Tryz.f100]
    first
    | (rw [hc, hda, hdb, cmpTs_cons, if_neg hb31])
    | (rw [hc, cmpTs_end ts us k (by omega) hk1 hk2]; repeat (first | omega | split))

theorem c_types_Compare : ∀ t u : Ty, wt t ≤ 1099511627776 → Valid Tryz.prog (G0 g rnd) 93 [.agg (encTy t), .agg (encTy u)] (.int .i64 (cmpT t u)) := by
 intro t
 induction t using Ty.ind with
 | h n ts p ih =>
 intro u hw
 obtain ⟨m, us, q⟩ := u
 have hw2 : n.length + 1 + wts ts ≤ 1099511627776 := by simpa [wt] using hw
 have hln := wts_len ts
 refine valid_of [] Tryz.func93 rfl (by kernel_rfl) ?_
 refine AT_seq_region fun K1 hK1 => ?_
 simp [row_map, Tryz.f93]
 repeat refine sg ?_
 refine hK1 _ ?_
 clear hK1 K1
 refine AT_seq_draw Pt.mixed (by kernel_rfl) fun K2 hK2 => ?_
 simp [row_map]
 repeat refine sg ?_
 refine RVdn_call (c_name_Compare g rnd n m) ?_
 simp [row_map]
 repeat refine sg ?_
 refine RVdn_call (c_slices_CompareFunc_api_Type_api_Type_api_Type_api_Type g rnd ts us (by omega) (fun t ht u _ => ih t ht u (Nat.le_trans (wts_mem ht) (by omega)))) ?_
 simp [row_map]
 repeat refine sg ?_
 refine RVdn_call (c_cmp_Or_int_p g rnd _ _) ?_
 simp [row_map]
 repeat refine sg ?_
 refine hK2 _ ?_
 clear hK2 K2
 refine AT_ret ?_
 simp [row_map, Tryz.f93]
 simp only [cmpT, Ty.name, Ty.args]; first | rfl | (split <;> rfl)

theorem c_types_Same (t u : Ty) (hw : wt t ≤ 1099511627776) : Valid Tryz.prog (G0 g rnd) 81 [.agg (encTy t), .agg (encTy u)] (.bool (cmpT t u == 0)) := by

 refine valid_of [] Tryz.func81 rfl (by kernel_rfl) ?_
 refine AT_seq_region fun K1 hK1 => ?_
 simp [Tryz.f81]
 repeat refine sg ?_
 refine hK1 _ ?_
 clear hK1 K1
 refine AT_seq_region fun K2 hK2 => ?_
 simp
 repeat refine sg ?_
 refine RVn_call (c_types_Compare g rnd t u hw) ?_
 simp
 repeat refine sg ?_
 refine hK2 _ ?_
 clear hK2 K2
 refine AT_ret ?_
 simp [Tryz.f81]

end Go.Proofs.YtpjkdaechknogaaGreatDoor
end

section
/- Contracts. -/
set_option linter.all false
set_option maxHeartbeats 1000000
set_option maxRecDepth 10000
namespace Go.Proofs.YtpjkdaechknogaaGreatDoor
open Go Go.Pv
variable (g : Nat → Option (List AV)) (rnd : Bool)

theorem c_ref04x_List (t : Ty) : wt t ≤ 1099511627776 → Valid Tryz.prog (G0 g rnd) 55 [.agg (encTy t)] (.slice ((lst t).map encS)) := by
 induction t using Ty.ind with
 | h n ts p ih =>
 intro hw
 have hw2 : n.length + 1 + wts ts ≤ 1099511627776 := by simpa [wt] using hw
 have hln := wts_len ts
 refine valid_of [(7, 9)] Tryz.func55 rfl (by kernel_rfl) ?_
 refine AT_seq_region fun K1 hK1 => ?_
 simp [row_map, Tryz.f55]
 repeat refine sg ?_
 refine hK1 _ ?_
 clear hK1 K1
 refine AT_seq_region fun K2 hK2 => ?_
 simp [row_map]
 repeat refine sg ?_
 refine hK2 _ ?_
 clear hK2 K2
 refine AT_seq_k fun K3 hK3 => ?_
 refine AT_seq_region fun K4 hK4 => ?_
 simp [row_map]
 repeat refine sg ?_
 refine hK4 _ ?_
 clear hK4 K4
 refine AT_block ?_
 refine AT_loop_q [3,4,1] [1] (fun j s => ∃ k, k ≤ ts.length ∧ j = ts.length - k ∧ s = { n := 24, tm := [(3, .v (.slice ((n :: lsts (ts.take k)).map encS)) (some (7, 9))), (4, .v (.int .i64 k) none), (1, .lp 1 0)], bx := [(1, encTy (.mk n ts p))], tb := [], sh := [], hint := [(7, 9)] }) (ts.length) (by first | rfl | simp) ?_ ?_
 ·
  exact ⟨0, by simp [lsts, encS]⟩
 ·
  rintro j s ⟨k, hk, rfl, rfl⟩ K5 hK5
  refine AT_seq_k fun K6 hK6 => ?_
  refine AT_seq_region fun K7 hK7 => ?_
  simp [row_map]
  repeat refine sg ?_
  refine hK7 _ ?_
  clear hK7 K7
  refine AT_cond (g := none) rfl (fun hb12 => ?_) (fun hb12 => ?_)
  ·
   try simp [row_map] at hb12
   refine AT_skip ?_
   try simp only [nrm, reduceIte, Nat.reduceEqDiff]
   refine hK6 _ ?_
   refine AT_seq_k fun K8 hK8 => ?_
   refine AT_block ?_
   refine AT_region_q fun K9 hK9 => ?_
   have hm := wts_mem (l := ts) (t := ts[k]) (by simp)
   have hdk := lst_wt ts[k]
   have hdt := lsts_wts (ts.take k)
   have hwt := wts_take ts k
   simp [row_map, hb12]
   repeat refine sg ?_
   refine RVn_call (ih ts[k] (by simp) (by omega)) ?_
   simp [row_map, hb12]
   repeat refine sg ?_
   refine hK9 _ ?_
   clear hK9 K9
   try simp only [nrm, reduceIte, Nat.reduceEqDiff]
   refine hK8 _ ?_
   refine AT_region_q fun K10 hK10 => ?_
   simp [row_map, hb12]
   repeat refine sg ?_
   refine hK10 _ ?_
   clear hK10 K10
   try simp only [nrm, reduceIte, Nat.reduceEqDiff]
   refine hK5 _ (by first | rfl | simp) (ts.length - (k+1)) (by omega) ?_
   exact ⟨k+1, by omega, by omega, by simp [lsts_take _ _ hb12]⟩
  ·
   try simp [row_map] at hb12
   refine AT_exit ?_
   try simp only [nrm, reduceIte, Nat.reduceEqDiff]
   refine hK3 _ ?_
   refine AT_seq_region fun K11 hK11 => ?_
   simp [row_map, hb12]
   repeat refine sg ?_
   refine hK11 _ ?_
   clear hK11 K11
   refine AT_ret ?_
   simp [row_map, Tryz.f55]
   rw [List.take_of_length_le hb12]; simp [lst]

theorem c_ref04x_Equal : ∀ t u : Ty, wt t ≤ 1099511627776 → Valid Tryz.prog (G0 g rnd) 23 [.agg (encTy t), .agg (encTy u)] (.bool (eqT t u)) := by
 intro t
 induction t using Ty.ind with
 | h n ts p ih =>
 intro u hw
 obtain ⟨m, us, q⟩ := u
 have hw2 : n.length + 1 + wts ts ≤ 1099511627776 := by simpa [wt] using hw
 have hln := wts_len ts
 refine valid_of [] Tryz.func23 rfl (by kernel_rfl) ?_
 refine AT_seq_region fun K1 hK1 => ?_
 simp [row_map, Tryz.f23]
 repeat refine sg ?_
 refine hK1 _ ?_
 clear hK1 K1
 refine AT_seq_k fun K2 hK2 => ?_
 by_cases h1 : n = m
 ·
  subst h1
  by_cases h2 : p = q
  ·
   subst h2
   refine AT_seq_region fun K3 hK3 => ?_
   simp [row_map]
   repeat refine sg ?_
   refine hK3 _ ?_
   clear hK3 K3
   refine AT_cond (g := none) rfl (fun hb26 => ?_) (fun hb26 => ?_)
   ·
    try simp [row_map] at hb26
    refine AT_seq_region fun K4 hK4 => ?_
    simp [row_map]
    repeat refine sg ?_
    refine hK4 _ ?_
    clear hK4 K4
    refine AT_ret ?_
    simp [row_map, Tryz.f23]
    first
    | (simp [eqT, h1]; done)
    | (simp [eqT, h2]; done)
    | (simp [eqT, eqTs_len (show ts.length ≠ us.length by omega)]; done)
    | (rw [show eqT (.mk n ts p) (.mk n us p) = eqTs ts us by simp [eqT], hc, hda, hdb, eqTs_cons, hb45]; rfl)
    | (rw [show eqT (.mk n ts p) (.mk n us p) = eqTs ts us by simp [eqT], hc, List.drop_eq_nil_of_le hb31, List.drop_eq_nil_of_le (show us.length ≤ k by omega)]; rfl)
   ·
    try simp [row_map] at hb26
    refine AT_skip ?_
    try simp only [nrm, reduceIte, Nat.reduceEqDiff]
    refine hK2 _ ?_
    refine AT_seq_k fun K5 hK5 => ?_
    refine AT_seq_region fun K6 hK6 => ?_
    simp [row_map]
    repeat refine sg ?_
    refine hK6 _ ?_
    clear hK6 K6
    refine AT_block ?_
    refine AT_loop_q [2,3,5] [2,3] (fun j s => ∃ k, k ≤ ts.length ∧ eqTs ts us = eqTs (ts.drop k) (us.drop k) ∧ j = ts.length - k ∧ s = { n := 46, tm := [(2, .lp 2 0), (3, .lp 3 0), (5, .v (.int .i64 k) none)], bx := [(2, encTy (.mk n ts p)), (3, encTy (.mk n us p))], tb := [], sh := [], hint := [] }) (ts.length) (by first | rfl | simp) ?_ ?_
    ·
     exact ⟨0, by simp⟩
    ·
     rintro j s ⟨k, hk, hc, rfl, rfl⟩ K7 hK7
     refine AT_seq_k fun K8 hK8 => ?_
     refine AT_seq_region fun K9 hK9 => ?_
     simp [row_map]
     repeat refine sg ?_
     refine hK9 _ ?_
     clear hK9 K9
     refine AT_cond (g := none) rfl (fun hb31 => ?_) (fun hb31 => ?_)
     ·
      try simp [row_map] at hb31
      refine AT_skip ?_
      try simp only [nrm, reduceIte, Nat.reduceEqDiff]
      refine hK8 _ ?_
      refine AT_seq_k fun K10 hK10 => ?_
      refine AT_block ?_
      refine AT_seq_draw Pt.mixed (by kernel_rfl) fun K11 hK11 => ?_
      have hku : k < us.length := by omega
      have hm := wts_mem (l := ts) (t := ts[k]) (by simp)
      have hda := List.drop_eq_getElem_cons hb31
      have hdb := List.drop_eq_getElem_cons hku
      simp [row_map, hku, hb31]
      repeat refine sg ?_
      refine RVdn_call (ih ts[k] (by simp) us[k] (by omega)) ?_
      simp [row_map, hku, hb31]
      repeat refine sg ?_
      refine hK11 _ ?_
      clear hK11 K11
      refine AT_cond (g := none) rfl (fun hb45 => ?_) (fun hb45 => ?_)
      ·
       try simp [row_map, hb31] at hb45
       refine AT_seq_region fun K12 hK12 => ?_
       simp [row_map, hb31, hb45]
       repeat refine sg ?_
       refine hK12 _ ?_
       clear hK12 K12
       refine AT_ret ?_
       simp [row_map, Tryz.f23]
       first
       | (simp [eqT, h1]; done)
       | (simp [eqT, h2]; done)
       | (simp [eqT, eqTs_len (show ts.length ≠ us.length by omega)]; done)
       | (rw [show eqT (.mk n ts p) (.mk n us p) = eqTs ts us by simp [eqT], hc, hda, hdb, eqTs_cons, hb45]; rfl)
       | (rw [show eqT (.mk n ts p) (.mk n us p) = eqTs ts us by simp [eqT], hc, List.drop_eq_nil_of_le hb31, List.drop_eq_nil_of_le (show us.length ≤ k by omega)]; rfl)
      ·
       try simp [row_map, hb31] at hb45
       refine AT_skip ?_
       try simp only [nrm, reduceIte, Nat.reduceEqDiff]
       refine hK10 _ ?_
       refine AT_region_q fun K13 hK13 => ?_
       simp [row_map, hb31, hb45]
       repeat refine sg ?_
       refine hK13 _ ?_
       clear hK13 K13
       try simp only [nrm, reduceIte, Nat.reduceEqDiff]
       refine hK7 _ (by first | rfl | simp) (ts.length - (k+1)) (by omega) ?_
       refine ⟨k+1, by omega, ?_, by omega, by simp⟩
       rw [hc, hda, hdb, eqTs_cons, hb45, Bool.true_and]
     ·
      try simp [row_map] at hb31
      refine AT_exit ?_
      try simp only [nrm, reduceIte, Nat.reduceEqDiff]
      refine hK5 _ ?_
      refine AT_seq_region fun K14 hK14 => ?_
      simp [row_map, hb31]
      repeat refine sg ?_
      refine hK14 _ ?_
      clear hK14 K14
      refine AT_ret ?_
      simp [row_map, Tryz.f23]
      first
      | (simp [eqT, h1]; done)
      | (simp [eqT, h2]; done)
      | (simp [eqT, eqTs_len (show ts.length ≠ us.length by omega)]; done)
      | (rw [show eqT (.mk n ts p) (.mk n us p) = eqTs ts us by simp [eqT], hc, hda, hdb, eqTs_cons, hb45]; rfl)
      | (rw [show eqT (.mk n ts p) (.mk n us p) = eqTs ts us by simp [eqT], hc, List.drop_eq_nil_of_le hb31, List.drop_eq_nil_of_le (show us.length ≤ k by omega)]; rfl)
  ·
   have h2b : (p != q) = true := by simpa using h2
   refine AT_seq_region fun K15 hK15 => ?_
   simp [row_map, h2b]
   repeat refine sg ?_
   refine hK15 _ ?_
   clear hK15 K15
   refine AT_cond (b := true) (g := none) (by simp [h2b]) (fun hb => ?_) (fun hb => ?_)
   ·
    clear hb
    refine AT_seq_region fun K16 hK16 => ?_
    simp [row_map, h2b]
    repeat refine sg ?_
    refine hK16 _ ?_
    clear hK16 K16
    refine AT_ret ?_
    simp [row_map, Tryz.f23]
    first
    | (simp [eqT, h1]; done)
    | (simp [eqT, h2]; done)
    | (simp [eqT, eqTs_len (show ts.length ≠ us.length by omega)]; done)
    | (rw [show eqT (.mk n ts p) (.mk n us p) = eqTs ts us by simp [eqT], hc, hda, hdb, eqTs_cons, hb45]; rfl)
    | (rw [show eqT (.mk n ts p) (.mk n us p) = eqTs ts us by simp [eqT], hc, List.drop_eq_nil_of_le hb31, List.drop_eq_nil_of_le (show us.length ≤ k by omega)]; rfl)
   ·
    cases hb
 ·
  have h1b : (n == m) = false := by simpa using h1
  refine AT_seq_region fun K17 hK17 => ?_
  simp [row_map, h1b]
  repeat refine sg ?_
  refine hK17 _ ?_
  clear hK17 K17
  refine AT_cond (b := true) (g := none) (by simp [h1b]) (fun hb => ?_) (fun hb => ?_)
  ·
   clear hb
   refine AT_seq_region fun K18 hK18 => ?_
   simp [row_map, h1b]
   repeat refine sg ?_
   refine hK18 _ ?_
   clear hK18 K18
   refine AT_ret ?_
   simp [row_map, Tryz.f23]
   first
   | (simp [eqT, h1]; done)
   | (simp [eqT, h2]; done)
   | (simp [eqT, eqTs_len (show ts.length ≠ us.length by omega)]; done)
   | (rw [show eqT (.mk n ts p) (.mk n us p) = eqTs ts us by simp [eqT], hc, hda, hdb, eqTs_cons, hb45]; rfl)
   | (rw [show eqT (.mk n ts p) (.mk n us p) = eqTs ts us by simp [eqT], hc, List.drop_eq_nil_of_le hb31, List.drop_eq_nil_of_le (show us.length ≤ k by omega)]; rfl)
  ·
   cases hb

end Go.Proofs.YtpjkdaechknogaaGreatDoor
end

section
/- Contracts: expressions, counted and compared. -/
set_option linter.all false
set_option maxHeartbeats 1000000
set_option maxRecDepth 10000
namespace Go.Proofs.YtpjkdaechknogaaGreatDoor
open Go Go.Pv
variable (g : Nat → Option (List AV)) (rnd : Bool)

theorem c_slices_EqualFunc_api_Type_api_Type_api_Type_api_Type (a b : List Ty) (hl : a.length ≤ 1099511627776) (hs : ∀ x ∈ a, ∀ y ∈ b, Valid Tryz.prog (G0 g rnd) 81 [.agg (encTy x), .agg (encTy y)] (.bool ((fun x y => cmpT x y == 0) x y))) : Valid Tryz.prog (G0 g rnd) 82 [.slice (a.map encTy), .slice (b.map encTy), .func 81 []] (.bool (sameTs a b)) := by

 refine valid_of [] Tryz.func82 rfl (by kernel_rfl) ?_
 refine AT_seq_region fun K1 hK1 => ?_
 simp [row_map, Tryz.f82]
 repeat refine sg ?_
 refine hK1 _ ?_
 clear hK1 K1
 refine AT_seq_k fun K2 hK2 => ?_
 refine AT_seq_region fun K3 hK3 => ?_
 simp [row_map]
 repeat refine sg ?_
 refine hK3 _ ?_
 clear hK3 K3
 refine AT_cond (g := none) rfl (fun hb14 => ?_) (fun hb14 => ?_)
 ·
  try simp [row_map] at hb14
  refine AT_seq_region fun K4 hK4 => ?_
  simp [row_map, hb14]
  repeat refine sg ?_
  refine hK4 _ ?_
  clear hK4 K4
  refine AT_ret ?_
  simp [row_map, Tryz.f82]
  first
  | (rw [sameTs_len (show a.length ≠ b.length by omega)]; done)
  | (rw [hc, hda, hdb, sameTs_cons]; simp [hb30]; done)
  | (rw [hc, List.drop_eq_nil_of_le hb18, List.drop_eq_nil_of_le (show b.length ≤ k by omega)]; simp [sameTs]; done)
 ·
  try simp [row_map] at hb14
  have hab : a.length = b.length := by omega
  refine AT_skip ?_
  try simp only [nrm, reduceIte, Nat.reduceEqDiff]
  refine hK2 _ ?_
  refine AT_seq_k fun K5 hK5 => ?_
  refine AT_seq_region fun K6 hK6 => ?_
  simp [row_map]
  repeat refine sg ?_
  refine hK6 _ ?_
  clear hK6 K6
  refine AT_block ?_
  refine AT_loop_q [0,1,2,15,16,17] [] (fun j s => ∃ k, k ≤ a.length ∧ sameTs a b = sameTs (a.drop k) (b.drop k) ∧ j = a.length - k ∧ s = { n := 32, tm := [(0, .v (.slice (a.map encTy)) none), (1, .v (.slice (b.map encTy)) none), (2, .v (.func 81 []) none), (15, .v (.slice (a.map encTy)) none), (16, .v (.int .i64 a.length) none), (17, .v (.int .i64 k) none)], bx := [], tb := [], sh := [], hint := [] }) (a.length) (by first | rfl | simp) ?_ ?_
  ·
   exact ⟨0, by simp⟩
  ·
   rintro j s ⟨k, hk, hc, rfl, rfl⟩ K7 hK7
   refine AT_seq_region fun K8 hK8 => ?_
   simp [row_map]
   repeat refine sg ?_
   refine hK8 _ ?_
   clear hK8 K8
   refine AT_seq_k fun K9 hK9 => ?_
   refine AT_cond (g := none) rfl (fun hb18 => ?_) (fun hb18 => ?_)
   ·
    try simp [row_map] at hb18
    refine AT_skip ?_
    try simp only [nrm, reduceIte, Nat.reduceEqDiff]
    refine hK9 _ ?_
    refine AT_seq_k fun K10 hK10 => ?_
    refine AT_block ?_
    refine AT_seq_region fun K11 hK11 => ?_
    simp [row_map, hb18]
    repeat refine sg ?_
    refine hK11 _ ?_
    clear hK11 K11
    refine AT_seq_region fun K12 hK12 => ?_
    have hkb : k < b.length := by omega
    have hda := List.drop_eq_getElem_cons hb18
    have hdb := List.drop_eq_getElem_cons hkb
    simp [row_map, hkb, hb18]
    repeat refine sg ?_
    refine hK12 _ ?_
    clear hK12 K12
    refine AT_seq_region fun K13 hK13 => ?_
    simp [row_map, hb18]
    repeat refine sg ?_
    refine RVn_call (hs a[k] (by simp) b[k] (by simp)) ?_
    simp [row_map, hb18]
    repeat refine sg ?_
    refine hK13 _ ?_
    clear hK13 K13
    refine AT_cond (g := none) rfl (fun hb30 => ?_) (fun hb30 => ?_)
    ·
     try simp [row_map, hb18] at hb30
     refine AT_seq_region fun K14 hK14 => ?_
     simp [row_map, hb18, hb30]
     repeat refine sg ?_
     refine hK14 _ ?_
     clear hK14 K14
     refine AT_ret ?_
     simp [row_map, Tryz.f82]
     first
     | (rw [sameTs_len (show a.length ≠ b.length by omega)]; done)
     | (rw [hc, hda, hdb, sameTs_cons]; simp [hb30]; done)
     | (rw [hc, List.drop_eq_nil_of_le hb18, List.drop_eq_nil_of_le (show b.length ≤ k by omega)]; simp [sameTs]; done)
    ·
     try simp [row_map, hb18] at hb30
     refine AT_skip ?_
     try simp only [nrm, reduceIte, Nat.reduceEqDiff]
     refine hK10 _ ?_
     refine AT_region_q fun K15 hK15 => ?_
     simp [row_map, hb18, hb30]
     repeat refine sg ?_
     refine hK15 _ ?_
     clear hK15 K15
     try simp only [nrm, reduceIte, Nat.reduceEqDiff]
     refine hK7 _ (by first | rfl | simp) (a.length - (k+1)) (by omega) ?_
     refine ⟨k+1, by omega, ?_, by omega, by simp⟩
     rw [hc, hda, hdb, sameTs_cons]; simp [hb30]
   ·
    try simp [row_map] at hb18
    refine AT_exit ?_
    try simp only [nrm, reduceIte, Nat.reduceEqDiff]
    refine hK5 _ ?_
    refine AT_seq_region fun K16 hK16 => ?_
    simp [row_map, hb18]
    repeat refine sg ?_
    refine hK16 _ ?_
    clear hK16 K16
    refine AT_ret ?_
    simp [row_map, Tryz.f82]
    first
    | (rw [sameTs_len (show a.length ≠ b.length by omega)]; done)
    | (rw [hc, hda, hdb, sameTs_cons]; simp [hb30]; done)
    | (rw [hc, List.drop_eq_nil_of_le hb18, List.drop_eq_nil_of_le (show b.length ≤ k by omega)]; simp [sameTs]; done)

theorem c_slices_EqualFunc_api_Expr_api_Expr_api_Expr_api_Expr (a b : List Exp) (hl : a.length ≤ 1099511627776) (hs : ∀ x ∈ a, ∀ y ∈ b, Valid Tryz.prog (G0 g rnd) 61 [.agg (encE x), .agg (encE y)] (.bool (sameE x y))) : Valid Tryz.prog (G0 g rnd) 83 [.slice (a.map encE), .slice (b.map encE), .func 61 []] (.bool (sameEs a b)) := by

 refine valid_of [] Tryz.func83 rfl (by kernel_rfl) ?_
 refine AT_seq_region fun K1 hK1 => ?_
 simp [row_map, Tryz.f83]
 repeat refine sg ?_
 refine hK1 _ ?_
 clear hK1 K1
 refine AT_seq_k fun K2 hK2 => ?_
 refine AT_seq_region fun K3 hK3 => ?_
 simp [row_map]
 repeat refine sg ?_
 refine hK3 _ ?_
 clear hK3 K3
 refine AT_cond (g := none) rfl (fun hb14 => ?_) (fun hb14 => ?_)
 ·
  try simp [row_map] at hb14
  refine AT_seq_region fun K4 hK4 => ?_
  simp [row_map, hb14]
  repeat refine sg ?_
  refine hK4 _ ?_
  clear hK4 K4
  refine AT_ret ?_
  simp [row_map, Tryz.f83]
  first
  | (rw [sameEs_len (show a.length ≠ b.length by omega)]; done)
  | (rw [hc, hda, hdb, sameEs_cons]; simp [hb30]; done)
  | (rw [hc, List.drop_eq_nil_of_le hb18, List.drop_eq_nil_of_le (show b.length ≤ k by omega)]; simp [sameEs]; done)
 ·
  try simp [row_map] at hb14
  have hab : a.length = b.length := by omega
  refine AT_skip ?_
  try simp only [nrm, reduceIte, Nat.reduceEqDiff]
  refine hK2 _ ?_
  refine AT_seq_k fun K5 hK5 => ?_
  refine AT_seq_region fun K6 hK6 => ?_
  simp [row_map]
  repeat refine sg ?_
  refine hK6 _ ?_
  clear hK6 K6
  refine AT_block ?_
  refine AT_loop_q [0,1,2,15,16,17] [] (fun j s => ∃ k, k ≤ a.length ∧ sameEs a b = sameEs (a.drop k) (b.drop k) ∧ j = a.length - k ∧ s = { n := 32, tm := [(0, .v (.slice (a.map encE)) none), (1, .v (.slice (b.map encE)) none), (2, .v (.func 61 []) none), (15, .v (.slice (a.map encE)) none), (16, .v (.int .i64 a.length) none), (17, .v (.int .i64 k) none)], bx := [], tb := [], sh := [], hint := [] }) (a.length) (by first | rfl | simp) ?_ ?_
  ·
   exact ⟨0, by simp⟩
  ·
   rintro j s ⟨k, hk, hc, rfl, rfl⟩ K7 hK7
   refine AT_seq_region fun K8 hK8 => ?_
   simp [row_map]
   repeat refine sg ?_
   refine hK8 _ ?_
   clear hK8 K8
   refine AT_seq_k fun K9 hK9 => ?_
   refine AT_cond (g := none) rfl (fun hb18 => ?_) (fun hb18 => ?_)
   ·
    try simp [row_map] at hb18
    refine AT_skip ?_
    try simp only [nrm, reduceIte, Nat.reduceEqDiff]
    refine hK9 _ ?_
    refine AT_seq_k fun K10 hK10 => ?_
    refine AT_block ?_
    refine AT_seq_region fun K11 hK11 => ?_
    simp [row_map, hb18]
    repeat refine sg ?_
    refine hK11 _ ?_
    clear hK11 K11
    refine AT_seq_region fun K12 hK12 => ?_
    have hkb : k < b.length := by omega
    have hda := List.drop_eq_getElem_cons hb18
    have hdb := List.drop_eq_getElem_cons hkb
    simp [row_map, hkb, hb18]
    repeat refine sg ?_
    refine hK12 _ ?_
    clear hK12 K12
    refine AT_seq_region fun K13 hK13 => ?_
    simp [row_map, hb18]
    repeat refine sg ?_
    refine RVn_call (hs a[k] (by simp) b[k] (by simp)) ?_
    simp [row_map, hb18]
    repeat refine sg ?_
    refine hK13 _ ?_
    clear hK13 K13
    refine AT_cond (g := none) rfl (fun hb30 => ?_) (fun hb30 => ?_)
    ·
     try simp [row_map, hb18] at hb30
     refine AT_seq_region fun K14 hK14 => ?_
     simp [row_map, hb18, hb30]
     repeat refine sg ?_
     refine hK14 _ ?_
     clear hK14 K14
     refine AT_ret ?_
     simp [row_map, Tryz.f83]
     first
     | (rw [sameEs_len (show a.length ≠ b.length by omega)]; done)
     | (rw [hc, hda, hdb, sameEs_cons]; simp [hb30]; done)
     | (rw [hc, List.drop_eq_nil_of_le hb18, List.drop_eq_nil_of_le (show b.length ≤ k by omega)]; simp [sameEs]; done)
    ·
     try simp [row_map, hb18] at hb30
     refine AT_skip ?_
     try simp only [nrm, reduceIte, Nat.reduceEqDiff]
     refine hK10 _ ?_
     refine AT_region_q fun K15 hK15 => ?_
     simp [row_map, hb18, hb30]
     repeat refine sg ?_
     refine hK15 _ ?_
     clear hK15 K15
     try simp only [nrm, reduceIte, Nat.reduceEqDiff]
     refine hK7 _ (by first | rfl | simp) (a.length - (k+1)) (by omega) ?_
     refine ⟨k+1, by omega, ?_, by omega, by simp⟩
     rw [hc, hda, hdb, sameEs_cons]; simp [hb30]
   ·
    try simp [row_map] at hb18
    refine AT_exit ?_
    try simp only [nrm, reduceIte, Nat.reduceEqDiff]
    refine hK5 _ ?_
    refine AT_seq_region fun K16 hK16 => ?_
    simp [row_map, hb18]
    repeat refine sg ?_
    refine hK16 _ ?_
    clear hK16 K16
    refine AT_ret ?_
    simp [row_map, Tryz.f83]
    first
    | (rw [sameEs_len (show a.length ≠ b.length by omega)]; done)
    | (rw [hc, hda, hdb, sameEs_cons]; simp [hb30]; done)
    | (rw [hc, List.drop_eq_nil_of_le hb18, List.drop_eq_nil_of_le (show b.length ≤ k by omega)]; simp [sameEs]; done)

theorem c_expr_Same : ∀ e f : Exp, wtE e ≤ 1000000000 → Valid Tryz.prog (G0 g rnd) 61 [.agg (encE e), .agg (encE f)] (.bool (sameE e f)) := by
 intro e
 induction e using Exp.ind with
 | h kd n t ta l p ih =>
 intro f hw
 obtain ⟨kf, m, u, ua, ul, q⟩ := f
 have hw2 : n.length + 1 + wt t + wts ta + wtEs l ≤ 1000000000 := by simpa [wtE_mk] using hw
 have hln := wtEs_len l
 have hla := wts_len ta
 refine valid_of [] Tryz.func61 rfl (by kernel_rfl) ?_
 refine AT_seq_region fun K1 hK1 => ?_
 simp [Tryz.f61]
 repeat refine sg ?_
 refine hK1 _ ?_
 clear hK1 K1
 cases h1 : (kd == kf)
 ·
  refine AT_seq_region fun K2 hK2 => ?_
  simp [h1]
  repeat refine sg ?_
  try (
   refine RVn_call (c_types_Same g rnd t u (by omega)) ?_
   simp [h1]
   repeat refine sg ?_)
  try (
   refine RVn_call (c_slices_EqualFunc_api_Type_api_Type_api_Type_api_Type g rnd ta ua (by omega) (fun x hx y _ => c_types_Same g rnd x y (Nat.le_trans (wts_mem hx) (by omega)))) ?_
   simp [h1]
   repeat refine sg ?_)
  try (
   refine RVn_call (c_slices_EqualFunc_api_Expr_api_Expr_api_Expr_api_Expr g rnd l ul (by omega) (fun x hx y _ => ih x hx y (Nat.le_trans (wtEs_mem hx) (by omega)))) ?_
   simp [h1]
   repeat refine sg ?_)
  refine hK2 _ ?_
  clear hK2 K2
  refine AT_ret ?_
  simp [Tryz.f61]
  first
  | (simp [sameE, h1]; done)
  | (simp [sameE, h1, h2]; done)
  | (simp [sameE, h1, h2, h3]; done)
  | (simp [sameE, h1, h2, h3, h4]; done)
 ·
  cases h2 : (n == m)
  ·
   refine AT_seq_region fun K3 hK3 => ?_
   simp [h1, h2]
   repeat refine sg ?_
   try (
    refine RVn_call (c_types_Same g rnd t u (by omega)) ?_
    simp [h1, h2]
    repeat refine sg ?_)
   try (
    refine RVn_call (c_slices_EqualFunc_api_Type_api_Type_api_Type_api_Type g rnd ta ua (by omega) (fun x hx y _ => c_types_Same g rnd x y (Nat.le_trans (wts_mem hx) (by omega)))) ?_
    simp [h1, h2]
    repeat refine sg ?_)
   try (
    refine RVn_call (c_slices_EqualFunc_api_Expr_api_Expr_api_Expr_api_Expr g rnd l ul (by omega) (fun x hx y _ => ih x hx y (Nat.le_trans (wtEs_mem hx) (by omega)))) ?_
    simp [h1, h2]
    repeat refine sg ?_)
   refine hK3 _ ?_
   clear hK3 K3
   refine AT_ret ?_
   simp [Tryz.f61]
   first
   | (simp [sameE, h1]; done)
   | (simp [sameE, h1, h2]; done)
   | (simp [sameE, h1, h2, h3]; done)
   | (simp [sameE, h1, h2, h3, h4]; done)
  ·
   cases h3 : (cmpT t u == 0)
   ·
    refine AT_seq_region fun K4 hK4 => ?_
    simp [h1, h2, h3]
    repeat refine sg ?_
    try (
     refine RVn_call (c_types_Same g rnd t u (by omega)) ?_
     simp [h1, h2, h3]
     repeat refine sg ?_)
    try (
     refine RVn_call (c_slices_EqualFunc_api_Type_api_Type_api_Type_api_Type g rnd ta ua (by omega) (fun x hx y _ => c_types_Same g rnd x y (Nat.le_trans (wts_mem hx) (by omega)))) ?_
     simp [h1, h2, h3]
     repeat refine sg ?_)
    try (
     refine RVn_call (c_slices_EqualFunc_api_Expr_api_Expr_api_Expr_api_Expr g rnd l ul (by omega) (fun x hx y _ => ih x hx y (Nat.le_trans (wtEs_mem hx) (by omega)))) ?_
     simp [h1, h2, h3]
     repeat refine sg ?_)
    refine hK4 _ ?_
    clear hK4 K4
    refine AT_ret ?_
    simp [Tryz.f61]
    first
    | (simp [sameE, h1]; done)
    | (simp [sameE, h1, h2]; done)
    | (simp [sameE, h1, h2, h3]; done)
    | (simp [sameE, h1, h2, h3, h4]; done)
   ·
    cases h4 : (sameTs ta ua)
    ·
     refine AT_seq_region fun K5 hK5 => ?_
     simp [h1, h2, h3, h4]
     repeat refine sg ?_
     try (
      refine RVn_call (c_types_Same g rnd t u (by omega)) ?_
      simp [h1, h2, h3, h4]
      repeat refine sg ?_)
     try (
      refine RVn_call (c_slices_EqualFunc_api_Type_api_Type_api_Type_api_Type g rnd ta ua (by omega) (fun x hx y _ => c_types_Same g rnd x y (Nat.le_trans (wts_mem hx) (by omega)))) ?_
      simp [h1, h2, h3, h4]
      repeat refine sg ?_)
     try (
      refine RVn_call (c_slices_EqualFunc_api_Expr_api_Expr_api_Expr_api_Expr g rnd l ul (by omega) (fun x hx y _ => ih x hx y (Nat.le_trans (wtEs_mem hx) (by omega)))) ?_
      simp [h1, h2, h3, h4]
      repeat refine sg ?_)
     refine hK5 _ ?_
     clear hK5 K5
     refine AT_ret ?_
     simp [Tryz.f61]
     first
     | (simp [sameE, h1]; done)
     | (simp [sameE, h1, h2]; done)
     | (simp [sameE, h1, h2, h3]; done)
     | (simp [sameE, h1, h2, h3, h4]; done)
    ·
     refine AT_seq_region fun K6 hK6 => ?_
     simp [h1, h2, h3, h4]
     repeat refine sg ?_
     try (
      refine RVn_call (c_types_Same g rnd t u (by omega)) ?_
      simp [h1, h2, h3, h4]
      repeat refine sg ?_)
     try (
      refine RVn_call (c_slices_EqualFunc_api_Type_api_Type_api_Type_api_Type g rnd ta ua (by omega) (fun x hx y _ => c_types_Same g rnd x y (Nat.le_trans (wts_mem hx) (by omega)))) ?_
      simp [h1, h2, h3, h4]
      repeat refine sg ?_)
     try (
      refine RVn_call (c_slices_EqualFunc_api_Expr_api_Expr_api_Expr_api_Expr g rnd l ul (by omega) (fun x hx y _ => ih x hx y (Nat.le_trans (wtEs_mem hx) (by omega)))) ?_
      simp [h1, h2, h3, h4]
      repeat refine sg ?_)
     refine hK6 _ ?_
     clear hK6 K6
     refine AT_ret ?_
     simp [Tryz.f61]
     first
     | (simp [sameE, h1]; done)
     | (simp [sameE, h1, h2]; done)
     | (simp [sameE, h1, h2, h3]; done)
     | (simp [sameE, h1, h2, h3, h4]; done)

end Go.Proofs.YtpjkdaechknogaaGreatDoor
end

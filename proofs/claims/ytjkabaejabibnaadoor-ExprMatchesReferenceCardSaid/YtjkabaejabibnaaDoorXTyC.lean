import Derived.Test.YtjkabaejabibnaaDoorPt
import Derived.Test.YtjkabaejabibnaaDoorPvPa
import Derived.Test.YtjkabaejabibnaaDoorPvZ
section
/- Contracts. -/
set_option linter.all false
set_option maxHeartbeats 1000000
set_option maxRecDepth 10000
namespace Go.Proofs.YtjkabaejabibnaaDoor
open Go Go.Pv
variable (g : Nat → Option (List AV)) (rnd : Bool)

theorem c_ref04x_Count : ∀ t : Ty, fit t → ∀ j0 : Nat, j0 ≤ 1000000000000000 → Valid Tryd.prog (G0 g rnd) 46 [.agg (encTy t), .int .i64 j0] (.int .i64 (cnt t j0)) := by
 intro t
 induction t using Ty.ind with
 | h n ts p ih =>
 intro hf j0 hj
 rw [fit] at hf
 obtain ⟨hf1, hf2, hf3⟩ := hf
 refine valid_of [] Tryd.func46 rfl (by kernel_rfl) ?_
 refine AT_seq_region fun K1 hK1 => ?_
 simp [row_map, tdiv50, Tryd.f46]
 repeat refine sg ?_
 refine hK1 _ ?_
 clear hK1 K1
 refine AT_seq_region fun K2 hK2 => ?_
 simp [row_map, tdiv50]
 repeat refine sg ?_
 refine hK2 _ ?_
 clear hK2 K2
 refine AT_seq_k fun K3 hK3 => ?_
 refine AT_seq_region fun K4 hK4 => ?_
 simp [row_map, tdiv50]
 repeat refine sg ?_
 refine hK4 _ ?_
 clear hK4 K4
 refine AT_block ?_
 refine AT_loop_q [2,1,5] [2] (fun j s => ∃ k c, k ≤ ts.length ∧ cnts ts (j0 + 1 + n.length / 50) = cnts (ts.drop k) c ∧ j = ts.length - k ∧ s = { n := 32, tm := [(2, .lp 2 0), (1, .v (.int .i64 (c : Nat)) none), (5, .v (.int .i64 k) none)], bx := [(2, encTy (.mk n ts p))], tb := [], sh := [], hint := [] }) (ts.length) (by first | rfl | simp) ?_ ?_
 ·
  exact ⟨0, j0 + 1 + n.length / 50, by simp⟩
 ·
  rintro j s ⟨k, c, hk, hc, rfl, rfl⟩ K5 hK5
  refine AT_seq_k fun K6 hK6 => ?_
  by_cases hkt : k < ts.length
  ·
   refine AT_seq_region fun K7 hK7 => ?_
   simp [row_map, tdiv50, hkt]
   repeat refine sg ?_
   refine hK7 _ ?_
   clear hK7 K7
   refine AT_cond (g := none) rfl (fun hb21 => ?_) (fun hb21 => ?_)
   ·
    try simp [row_map, tdiv50, hkt] at hb21
    refine AT_skip ?_
    try simp only [nrm, reduceIte, Nat.reduceEqDiff]
    refine hK6 _ ?_
    refine AT_seq_k fun K8 hK8 => ?_
    refine AT_block ?_
    refine AT_region_q fun K9 hK9 => ?_
    simp [row_map, tdiv50, hkt]
    repeat refine sg ?_
    refine RVn_call (ih ts[k] (by simp) (fits_mem hf3 (by simp)) c (by omega)) ?_
    simp [row_map, tdiv50, hkt]
    repeat refine sg ?_
    refine hK9 _ ?_
    clear hK9 K9
    try simp only [nrm, reduceIte, Nat.reduceEqDiff]
    refine hK8 _ ?_
    refine AT_region_q fun K10 hK10 => ?_
    simp [row_map, tdiv50, hkt]
    repeat refine sg ?_
    refine hK10 _ ?_
    clear hK10 K10
    try simp only [nrm, reduceIte, Nat.reduceEqDiff]
    refine hK5 _ (by first | rfl | simp) (ts.length - (k+1)) (by omega) ?_
    refine ⟨k+1, cnt ts[k] c, by omega, ?_, by omega, by simp⟩
    rw [hc, List.drop_eq_getElem_cons hkt, cnts_cons, if_pos (by omega)]
   ·
    try simp [row_map, tdiv50, hkt] at hb21
    refine AT_exit ?_
    try simp only [nrm, reduceIte, Nat.reduceEqDiff]
    refine hK3 _ ?_
    refine AT_seq_region fun K11 hK11 => ?_
    simp [row_map, tdiv50, hkt]
    repeat refine sg ?_
    refine hK11 _ ?_
    clear hK11 K11
    refine AT_ret ?_
    simp [row_map, tdiv50, Tryd.f46]
    first
    | (rw [show cnt (.mk n ts p) j0 = cnts ts (j0 + 1 + n.length / 50) by simp [cnt], hc, List.drop_eq_getElem_cons hkt, cnts_cons, if_neg (by omega)])
    | (rw [show cnt (.mk n ts p) j0 = cnts ts (j0 + 1 + n.length / 50) by simp [cnt], hc, List.drop_eq_nil_of_le (by omega)]; rfl)
  ·
   refine AT_seq_region fun K12 hK12 => ?_
   simp [row_map, tdiv50, hkt]
   repeat refine sg ?_
   refine hK12 _ ?_
   clear hK12 K12
   refine AT_cond (b := false) (g := none) (by simp [hkt]) (fun hb => ?_) (fun hb => ?_)
   ·
    cases hb
   ·
    clear hb
    refine AT_exit ?_
    try simp only [nrm, reduceIte, Nat.reduceEqDiff]
    refine hK3 _ ?_
    refine AT_seq_region fun K13 hK13 => ?_
    simp [row_map, tdiv50, hkt]
    repeat refine sg ?_
    refine hK13 _ ?_
    clear hK13 K13
    refine AT_ret ?_
    simp [row_map, tdiv50, Tryd.f46]
    first
    | (rw [show cnt (.mk n ts p) j0 = cnts ts (j0 + 1 + n.length / 50) by simp [cnt], hc, List.drop_eq_getElem_cons hkt, cnts_cons, if_neg (by omega)])
    | (rw [show cnt (.mk n ts p) j0 = cnts ts (j0 + 1 + n.length / 50) by simp [cnt], hc, List.drop_eq_nil_of_le (by omega)]; rfl)

theorem c_ref04x_FewAll (ts : List Ty) (hl : ts.length ≤ 140737488355328) (hf : fits ts) : Valid Tryd.prog (G0 g rnd) 20 [.slice (ts.map encTy)] (.bool (decide (cnts ts 0 ≤ 200))) := by

 refine valid_of [] Tryd.func20 rfl (by kernel_rfl) ?_
 refine AT_seq_region fun K1 hK1 => ?_
 simp [row_map, Tryd.f20]
 repeat refine sg ?_
 refine hK1 _ ?_
 clear hK1 K1
 refine AT_seq_region fun K2 hK2 => ?_
 simp [row_map]
 repeat refine sg ?_
 refine hK2 _ ?_
 clear hK2 K2
 refine AT_seq_k fun K3 hK3 => ?_
 refine AT_seq_region fun K4 hK4 => ?_
 simp [row_map]
 repeat refine sg ?_
 refine hK4 _ ?_
 clear hK4 K4
 refine AT_block ?_
 refine AT_loop_q [0,3,4] [] (fun j s => ∃ k c, k ≤ ts.length ∧ cnts ts 0 = cnts (ts.drop k) c ∧ j = ts.length - k ∧ s = { n := 23, tm := [(0, .v (.slice (ts.map encTy)) none), (3, .v (.int .i64 (c : Nat)) none), (4, .v (.int .i64 k) none)], bx := [], tb := [], sh := [], hint := [] }) (ts.length) (by first | rfl | simp) ?_ ?_
 ·
  exact ⟨0, 0, by simp⟩
 ·
  rintro j s ⟨k, c, hk, hc, rfl, rfl⟩ K5 hK5
  refine AT_seq_k fun K6 hK6 => ?_
  by_cases hkt : k < ts.length
  ·
   refine AT_seq_region fun K7 hK7 => ?_
   simp [row_map, hkt]
   repeat refine sg ?_
   refine hK7 _ ?_
   clear hK7 K7
   refine AT_cond (g := none) rfl (fun hb12 => ?_) (fun hb12 => ?_)
   ·
    try simp [row_map, hkt] at hb12
    refine AT_skip ?_
    try simp only [nrm, reduceIte, Nat.reduceEqDiff]
    refine hK6 _ ?_
    refine AT_seq_k fun K8 hK8 => ?_
    refine AT_block ?_
    refine AT_region_q fun K9 hK9 => ?_
    simp [row_map, hkt]
    repeat refine sg ?_
    refine RVn_call (c_ref04x_Count g rnd ts[k] (fits_mem hf (by simp)) c (by omega)) ?_
    simp [row_map, hkt]
    repeat refine sg ?_
    refine hK9 _ ?_
    clear hK9 K9
    try simp only [nrm, reduceIte, Nat.reduceEqDiff]
    refine hK8 _ ?_
    refine AT_region_q fun K10 hK10 => ?_
    simp [row_map, hkt]
    repeat refine sg ?_
    refine hK10 _ ?_
    clear hK10 K10
    try simp only [nrm, reduceIte, Nat.reduceEqDiff]
    refine hK5 _ (by first | rfl | simp) (ts.length - (k+1)) (by omega) ?_
    refine ⟨k+1, cnt ts[k] c, by omega, ?_, by omega, by simp⟩
    rw [hc, List.drop_eq_getElem_cons hkt, cnts_cons, if_pos (by omega)]
   ·
    try simp [row_map, hkt] at hb12
    refine AT_exit ?_
    try simp only [nrm, reduceIte, Nat.reduceEqDiff]
    refine hK3 _ ?_
    refine AT_seq_region fun K11 hK11 => ?_
    simp [row_map, hkt]
    repeat refine sg ?_
    refine hK11 _ ?_
    clear hK11 K11
    refine AT_ret ?_
    simp [row_map, Tryd.f20]
    first
    | (rw [hc, List.drop_eq_getElem_cons hkt, cnts_cons, if_neg (by omega)]; omega)
    | (rw [hc, List.drop_eq_nil_of_le (by omega), cnts]; omega)
  ·
   refine AT_seq_region fun K12 hK12 => ?_
   simp [row_map, hkt]
   repeat refine sg ?_
   refine hK12 _ ?_
   clear hK12 K12
   refine AT_cond (b := false) (g := none) (by simp [hkt]) (fun hb => ?_) (fun hb => ?_)
   ·
    cases hb
   ·
    clear hb
    refine AT_exit ?_
    try simp only [nrm, reduceIte, Nat.reduceEqDiff]
    refine hK3 _ ?_
    refine AT_seq_region fun K13 hK13 => ?_
    simp [row_map, hkt]
    repeat refine sg ?_
    refine hK13 _ ?_
    clear hK13 K13
    refine AT_ret ?_
    simp [row_map, Tryd.f20]
    first
    | (rw [hc, List.drop_eq_getElem_cons hkt, cnts_cons, if_neg (by omega)]; omega)
    | (rw [hc, List.drop_eq_nil_of_le (by omega), cnts]; omega)

end Go.Proofs.YtjkabaejabibnaaDoor
end

section
/- Contracts. -/
set_option linter.all false
set_option maxHeartbeats 1000000
set_option maxRecDepth 10000
namespace Go.Proofs.YtjkabaejabibnaaDoor
open Go Go.Pv
variable (g : Nat → Option (List AV)) (rnd : Bool)

theorem c_cmp_isNaN_string (s : Str) : Valid Tryd.prog (G0 g rnd) 97 [.str s] (.bool false) := by

 refine valid_of [] Tryd.func97 rfl (by kernel_rfl) ?_
 refine AT_seq_region fun K1 hK1 => ?_
 simp [Tryd.f97]
 repeat refine sg ?_
 refine hK1 _ ?_
 clear hK1 K1
 refine AT_seq_region fun K2 hK2 => ?_
 simp
 repeat refine sg ?_
 refine hK2 _ ?_
 clear hK2 K2
 refine AT_ret ?_
 simp [Tryd.f97]

theorem c_cmp_Compare_string (a b : Str) : Valid Tryd.prog (G0 g rnd) 92 [.str a, .str b] (.int .i64 (cmpS a b)) := by

 refine valid_of [] Tryd.func92 rfl (by kernel_rfl) ?_
 refine AT_seq_region fun K1 hK1 => ?_
 simp [Tryd.f92]
 repeat refine sg ?_
 refine hK1 _ ?_
 clear hK1 K1
 refine AT_seq_region fun K2 hK2 => ?_
 simp
 repeat refine sg ?_
 refine RVn_call (c_cmp_isNaN_string g rnd _) ?_
 simp
 repeat refine sg ?_
 refine hK2 _ ?_
 clear hK2 K2
 refine AT_seq_region fun K3 hK3 => ?_
 simp
 repeat refine sg ?_
 refine RVn_call (c_cmp_isNaN_string g rnd _) ?_
 simp
 repeat refine sg ?_
 refine hK3 _ ?_
 clear hK3 K3
 refine AT_seq_k fun K4 hK4 => ?_
 refine AT_seq_region fun K5 hK5 => ?_
 simp
 repeat refine sg ?_
 refine hK5 _ ?_
 clear hK5 K5
 refine AT_cond (b := false) (g := none) (by simp) (fun hb => ?_) (fun hb => ?_)
 ·
  cases hb
 ·
  clear hb
  refine AT_skip ?_
  try simp only [nrm, reduceIte, Nat.reduceEqDiff]
  refine hK4 _ ?_
  refine AT_seq_k fun K6 hK6 => ?_
  refine AT_seq_region fun K7 hK7 => ?_
  simp
  repeat refine sg ?_
  refine hK7 _ ?_
  clear hK7 K7
  refine AT_cond (b := false) (g := none) (by simp) (fun hb => ?_) (fun hb => ?_)
  ·
   cases hb
  ·
   clear hb
   refine AT_skip ?_
   try simp only [nrm, reduceIte, Nat.reduceEqDiff]
   refine hK6 _ ?_
   refine AT_seq_k fun K8 hK8 => ?_
   refine AT_seq_region fun K9 hK9 => ?_
   simp
   repeat refine sg ?_
   refine hK9 _ ?_
   clear hK9 K9
   refine AT_cond (g := none) rfl (fun hb16 => ?_) (fun hb16 => ?_)
   ·
    try simp at hb16
    refine AT_seq_region fun K10 hK10 => ?_
    simp [hb16]
    repeat refine sg ?_
    refine hK10 _ ?_
    clear hK10 K10
    refine AT_ret ?_
    simp [Tryd.f92]
    unfold cmpS; cases hh : Op.bytesLess a b <;> by_cases he : a = b <;> simp_all
   ·
    try simp at hb16
    refine AT_skip ?_
    try simp only [nrm, reduceIte, Nat.reduceEqDiff]
    refine hK8 _ ?_
    refine AT_seq_k fun K11 hK11 => ?_
    refine AT_seq_region fun K12 hK12 => ?_
    simp [hb16]
    repeat refine sg ?_
    refine hK12 _ ?_
    clear hK12 K12
    refine AT_cond (g := none) rfl (fun hb19 => ?_) (fun hb19 => ?_)
    ·
     try simp [hb16] at hb19
     refine AT_seq_region fun K13 hK13 => ?_
     simp [hb16, hb19]
     repeat refine sg ?_
     refine hK13 _ ?_
     clear hK13 K13
     refine AT_ret ?_
     simp [Tryd.f92]
     unfold cmpS; cases hh : Op.bytesLess a b <;> by_cases he : a = b <;> simp_all
    ·
     try simp [hb16] at hb19
     refine AT_skip ?_
     try simp only [nrm, reduceIte, Nat.reduceEqDiff]
     refine hK11 _ ?_
     refine AT_seq_region fun K14 hK14 => ?_
     simp [hb16, hb19]
     repeat refine sg ?_
     refine hK14 _ ?_
     clear hK14 K14
     refine AT_ret ?_
     simp [Tryd.f92]
     unfold cmpS; cases hh : Op.bytesLess a b <;> by_cases he : a = b <;> simp_all

theorem c_name_Compare (a b : Str) : Valid Tryd.prog (G0 g rnd) 81 [.str a, .str b] (.int .i64 (cmpS a b)) := by

 refine valid_of [] Tryd.func81 rfl (by kernel_rfl) ?_
 refine AT_seq_region fun K1 hK1 => ?_
 simp [Tryd.f81]
 repeat refine sg ?_
 refine hK1 _ ?_
 clear hK1 K1
 refine AT_seq_region fun K2 hK2 => ?_
 simp
 repeat refine sg ?_
 refine RVn_call (c_cmp_Compare_string g rnd _ _) ?_
 simp
 repeat refine sg ?_
 refine hK2 _ ?_
 clear hK2 K2
 refine AT_ret ?_
 simp [Tryd.f81]

theorem c_ref01x_Compare (a b : Str) (ha : a.length ≤ 1099511627776) : Valid Tryd.prog (G0 g rnd) 83 [.str a, .str b] (.int .i64 (cmpS a b)) := by

 refine valid_of [] Tryd.func83 rfl (by kernel_rfl) ?_
 refine AT_seq_region fun K1 hK1 => ?_
 simp [Tryd.f83]
 repeat refine sg ?_
 refine hK1 _ ?_
 clear hK1 K1
 refine AT_seq_k fun K2 hK2 => ?_
 refine AT_seq_region fun K3 hK3 => ?_
 simp
 repeat refine sg ?_
 refine hK3 _ ?_
 clear hK3 K3
 refine AT_block ?_
 refine AT_loop_q [0,1,5] [] (fun j s => ∃ k, (k ≤ a.length ∧ k ≤ b.length) ∧ cmpS a b = cmpS (a.drop k) (b.drop k) ∧ j = a.length - k ∧ s = { n := 42, tm := [(0, .v (.str a) none), (1, .v (.str b) none), (5, .v (.int .i64 k) none)], bx := [], tb := [], sh := [], hint := [] }) (a.length) (by first | rfl | simp) ?_ ?_
 ·
  exact ⟨0, by simp⟩
 ·
  rintro j s ⟨k, ⟨hk1, hk2⟩, hc, rfl, rfl⟩ K4 hK4
  refine AT_seq_k fun K5 hK5 => ?_
  by_cases hka : k < a.length
  ·
   refine AT_seq_region fun K6 hK6 => ?_
   simp [hka]
   repeat refine sg ?_
   refine hK6 _ ?_
   clear hK6 K6
   refine AT_cond (g := none) rfl (fun hb15 => ?_) (fun hb15 => ?_)
   ·
    try simp [hka] at hb15
    refine AT_skip ?_
    try simp only [nrm, reduceIte, Nat.reduceEqDiff]
    refine hK5 _ ?_
    refine AT_seq_k fun K7 hK7 => ?_
    refine AT_block ?_
    refine AT_seq_k fun K8 hK8 => ?_
    refine AT_seq_draw Pt.mixed (by kernel_rfl) fun K9 hK9 => ?_
    have hda := List.drop_eq_getElem_cons hka
    have hdb := List.drop_eq_getElem_cons hb15
    simp [hka, hb15]
    repeat refine sg ?_
    refine hK9 _ ?_
    clear hK9 K9
    refine AT_cond (g := none) rfl (fun hb24 => ?_) (fun hb24 => ?_)
    ·
     try simp [hka, hb15] at hb24
     refine AT_seq_region fun K10 hK10 => ?_
     simp [hka, hb15, hb24]
     repeat refine sg ?_
     refine hK10 _ ?_
     clear hK10 K10
     refine AT_ret ?_
     simp [Tryd.f83]
     first | (rw [hc, hda, hdb, cmpS_cons]; repeat (first | omega | split)) | (rw [hc, cmpS_end a b k (by omega) hk1 hk2]; repeat (first | omega | split))
    ·
     try simp [hka, hb15] at hb24
     refine AT_skip ?_
     try simp only [nrm, reduceIte, Nat.reduceEqDiff]
     refine hK8 _ ?_
     refine AT_seq_draw Pt.mixed (by kernel_rfl) fun K11 hK11 => ?_
     simp [hka, hb15, hb24]
     repeat refine sg ?_
     refine hK11 _ ?_
     clear hK11 K11
     refine AT_cond (g := none) rfl (fun hb31 => ?_) (fun hb31 => ?_)
     ·
      try simp [hka, hb15, hb24] at hb31
      refine AT_seq_region fun K12 hK12 => ?_
      simp [hka, hb15, hb24, hb31]
      repeat refine sg ?_
      refine hK12 _ ?_
      clear hK12 K12
      refine AT_ret ?_
      simp [Tryd.f83]
      first | (rw [hc, hda, hdb, cmpS_cons]; repeat (first | omega | split)) | (rw [hc, cmpS_end a b k (by omega) hk1 hk2]; repeat (first | omega | split))
     ·
      try simp [hka, hb15, hb24] at hb31
      refine AT_skip ?_
      try simp only [nrm, reduceIte, Nat.reduceEqDiff]
      refine hK7 _ ?_
      refine AT_region_q fun K13 hK13 => ?_
      simp [hka, hb15, hb24, hb31]
      repeat refine sg ?_
      refine hK13 _ ?_
      clear hK13 K13
      try simp only [nrm, reduceIte, Nat.reduceEqDiff]
      refine hK4 _ (by first | rfl | simp) (a.length - (k+1)) (by omega) ?_
      refine ⟨k+1, by omega, ?_, by omega, by simp⟩
      rw [hc, hda, hdb, cmpS_cons, if_neg (by omega), if_neg (by omega)]
   ·
    try simp [hka] at hb15
    refine AT_exit ?_
    try simp only [nrm, reduceIte, Nat.reduceEqDiff]
    refine hK2 _ ?_
    refine AT_seq_k fun K14 hK14 => ?_
    refine AT_seq_region fun K15 hK15 => ?_
    simp [hka, hb15]
    repeat refine sg ?_
    refine hK15 _ ?_
    clear hK15 K15
    refine AT_cond (g := none) rfl (fun hb36 => ?_) (fun hb36 => ?_)
    ·
     try simp [hka, hb15] at hb36
     refine AT_seq_region fun K16 hK16 => ?_
     simp [hka, hb15, hb36]
     repeat refine sg ?_
     refine hK16 _ ?_
     clear hK16 K16
     refine AT_ret ?_
     simp [Tryd.f83]
     first | (rw [hc, hda, hdb, cmpS_cons]; repeat (first | omega | split)) | (rw [hc, cmpS_end a b k (by omega) hk1 hk2]; repeat (first | omega | split))
    ·
     try simp [hka, hb15] at hb36
     refine AT_skip ?_
     try simp only [nrm, reduceIte, Nat.reduceEqDiff]
     refine hK14 _ ?_
     refine AT_seq_k fun K17 hK17 => ?_
     refine AT_seq_region fun K18 hK18 => ?_
     simp [hka, hb15, hb36]
     repeat refine sg ?_
     refine hK18 _ ?_
     clear hK18 K18
     refine AT_cond (g := none) rfl (fun hb41 => ?_) (fun hb41 => ?_)
     ·
      try simp [hka, hb15, hb36] at hb41
      refine AT_seq_region fun K19 hK19 => ?_
      simp [hka, hb15, hb36, hb41]
      repeat refine sg ?_
      refine hK19 _ ?_
      clear hK19 K19
      refine AT_ret ?_
      simp [Tryd.f83]
      first | (rw [hc, hda, hdb, cmpS_cons]; repeat (first | omega | split)) | (rw [hc, cmpS_end a b k (by omega) hk1 hk2]; repeat (first | omega | split))
     ·
      try simp [hka, hb15, hb36] at hb41
      refine AT_skip ?_
      try simp only [nrm, reduceIte, Nat.reduceEqDiff]
      refine hK17 _ ?_
      refine AT_seq_region fun K20 hK20 => ?_
      simp [hka, hb15, hb36, hb41]
      repeat refine sg ?_
      refine hK20 _ ?_
      clear hK20 K20
      refine AT_ret ?_
      simp [Tryd.f83]
      first | (rw [hc, hda, hdb, cmpS_cons]; repeat (first | omega | split)) | (rw [hc, cmpS_end a b k (by omega) hk1 hk2]; repeat (first | omega | split))
  ·
   refine AT_seq_region fun K21 hK21 => ?_
   simp [hka]
   repeat refine sg ?_
   refine hK21 _ ?_
   clear hK21 K21
   refine AT_cond (b := false) (g := none) (by simp [hka]) (fun hb => ?_) (fun hb => ?_)
   ·
    cases hb
   ·
    clear hb
    refine AT_exit ?_
    try simp only [nrm, reduceIte, Nat.reduceEqDiff]
    refine hK2 _ ?_
    refine AT_seq_k fun K22 hK22 => ?_
    refine AT_seq_region fun K23 hK23 => ?_
    simp [hka]
    repeat refine sg ?_
    refine hK23 _ ?_
    clear hK23 K23
    refine AT_cond (g := none) rfl (fun hb36 => ?_) (fun hb36 => ?_)
    ·
     try simp [hka] at hb36
     refine AT_seq_region fun K24 hK24 => ?_
     simp [hka, hb36]
     repeat refine sg ?_
     refine hK24 _ ?_
     clear hK24 K24
     refine AT_ret ?_
     simp [Tryd.f83]
     first | (rw [hc, hda, hdb, cmpS_cons]; repeat (first | omega | split)) | (rw [hc, cmpS_end a b k (by omega) hk1 hk2]; repeat (first | omega | split))
    ·
     try simp [hka] at hb36
     refine AT_skip ?_
     try simp only [nrm, reduceIte, Nat.reduceEqDiff]
     refine hK22 _ ?_
     refine AT_seq_k fun K25 hK25 => ?_
     refine AT_seq_region fun K26 hK26 => ?_
     simp [hka, hb36]
     repeat refine sg ?_
     refine hK26 _ ?_
     clear hK26 K26
     refine AT_cond (g := none) rfl (fun hb41 => ?_) (fun hb41 => ?_)
     ·
      try simp [hka, hb36] at hb41
      refine AT_seq_region fun K27 hK27 => ?_
      simp [hka, hb36, hb41]
      repeat refine sg ?_
      refine hK27 _ ?_
      clear hK27 K27
      refine AT_ret ?_
      simp [Tryd.f83]
      first | (rw [hc, hda, hdb, cmpS_cons]; repeat (first | omega | split)) | (rw [hc, cmpS_end a b k (by omega) hk1 hk2]; repeat (first | omega | split))
     ·
      try simp [hka, hb36] at hb41
      refine AT_skip ?_
      try simp only [nrm, reduceIte, Nat.reduceEqDiff]
      refine hK25 _ ?_
      refine AT_seq_region fun K28 hK28 => ?_
      simp [hka, hb36, hb41]
      repeat refine sg ?_
      refine hK28 _ ?_
      clear hK28 K28
      refine AT_ret ?_
      simp [Tryd.f83]
      first | (rw [hc, hda, hdb, cmpS_cons]; repeat (first | omega | split)) | (rw [hc, cmpS_end a b k (by omega) hk1 hk2]; repeat (first | omega | split))

end Go.Proofs.YtjkabaejabibnaaDoor
end

section
/- Contracts. -/
set_option linter.all false
set_option maxHeartbeats 1000000
set_option maxRecDepth 10000
namespace Go.Proofs.YtjkabaejabibnaaDoor
open Go Go.Pv
variable (g : Nat → Option (List AV)) (rnd : Bool)

theorem c_ref04x_Compare : ∀ t u : Ty, wt t ≤ 1099511627776 → Valid Tryd.prog (G0 g rnd) 67 [.agg (encTy t), .agg (encTy u)] (.int .i64 (cmpT t u)) := by
 intro t
 induction t using Ty.ind with
 | h n ts p ih =>
 intro u hw
 obtain ⟨m, us, q⟩ := u
 have hw2 : n.length + 1 + wts ts ≤ 1099511627776 := by simpa [wt] using hw
 have hln := wts_len ts
 refine valid_of [] Tryd.func67 rfl (by kernel_rfl) ?_
 refine AT_seq_region fun K1 hK1 => ?_
 simp [row_map, Tryd.f67]
 repeat refine sg ?_
 refine hK1 _ ?_
 clear hK1 K1
 refine AT_seq_k fun K2 hK2 => ?_
 refine AT_seq_region fun K3 hK3 => ?_
 simp [row_map]
 repeat refine sg ?_
 refine hK3 _ ?_
 clear hK3 K3
 refine AT_cond (g := none) rfl (fun hb11 => ?_) (fun hb11 => ?_)
 ·
  try simp [row_map] at hb11
  refine AT_seq_region fun K4 hK4 => ?_
  simp [row_map, hb11]
  repeat refine sg ?_
  refine RVn_call (c_ref01x_Compare g rnd n m (by omega)) ?_
  simp [row_map, hb11]
  repeat refine sg ?_
  refine hK4 _ ?_
  clear hK4 K4
  refine AT_ret ?_
  simp [row_map, Tryd.f67]
  first
  | (simp [cmpT, cmpS_eq, hb11]; done)
  | (rw [show cmpT (.mk n ts p) (.mk n us q) = cmpTs ts us by simp [cmpT, cmpS_eq], hc, hda, hdb, cmpTs_cons, if_neg hb43])
  | (rw [show cmpT (.mk n ts p) (.mk n us q) = cmpTs ts us by simp [cmpT, cmpS_eq], hc, cmpTs_end ts us k (by omega) hk1 hk2]; repeat (first | omega | split))
 ·
  try simp [row_map] at hb11
  subst hb11
  refine AT_skip ?_
  try simp only [nrm, reduceIte, Nat.reduceEqDiff]
  refine hK2 _ ?_
  refine AT_seq_k fun K5 hK5 => ?_
  refine AT_seq_region fun K6 hK6 => ?_
  simp [row_map]
  repeat refine sg ?_
  refine hK6 _ ?_
  clear hK6 K6
  refine AT_block ?_
  refine AT_loop_q [2,3,5] [2,3] (fun j s => ∃ k, (k ≤ ts.length ∧ k ≤ us.length) ∧ cmpTs ts us = cmpTs (ts.drop k) (us.drop k) ∧ j = ts.length - k ∧ s = { n := 59, tm := [(2, .lp 2 0), (3, .lp 3 0), (5, .v (.int .i64 k) none)], bx := [(2, encTy (.mk n ts p)), (3, encTy (.mk n us q))], tb := [], sh := [], hint := [] }) (ts.length) (by first | rfl | simp) ?_ ?_
  ·
   exact ⟨0, by simp⟩
  ·
   rintro j s ⟨k, ⟨hk1, hk2⟩, hc, rfl, rfl⟩ K7 hK7
   refine AT_seq_k fun K8 hK8 => ?_
   by_cases hka : k < ts.length
   ·
    refine AT_seq_region fun K9 hK9 => ?_
    simp [row_map, hka]
    repeat refine sg ?_
    refine hK9 _ ?_
    clear hK9 K9
    refine AT_cond (g := none) rfl (fun hb28 => ?_) (fun hb28 => ?_)
    ·
     try simp [row_map, hka] at hb28
     refine AT_skip ?_
     try simp only [nrm, reduceIte, Nat.reduceEqDiff]
     refine hK8 _ ?_
     refine AT_seq_k fun K10 hK10 => ?_
     refine AT_block ?_
     refine AT_seq_draw Pt.mixed (by kernel_rfl) fun K11 hK11 => ?_
     have hm := wts_mem (l := ts) (t := ts[k]) (by simp)
     have hda := List.drop_eq_getElem_cons hka
     have hdb := List.drop_eq_getElem_cons hb28
     simp [row_map, hka, hb28]
     repeat refine sg ?_
     refine RVdn_call (ih ts[k] (by simp) us[k] (by omega)) ?_
     simp [row_map, hka, hb28]
     repeat refine sg ?_
     refine hK11 _ ?_
     clear hK11 K11
     refine AT_seq_region fun K12 hK12 => ?_
     simp [row_map, hka, hb28]
     repeat refine sg ?_
     refine hK12 _ ?_
     clear hK12 K12
     refine AT_cond (g := none) rfl (fun hb43 => ?_) (fun hb43 => ?_)
     ·
      try simp [row_map, hka, hb28] at hb43
      refine AT_seq_region fun K13 hK13 => ?_
      simp [row_map, hka, hb28, hb43]
      repeat refine sg ?_
      refine hK13 _ ?_
      clear hK13 K13
      refine AT_ret ?_
      simp [row_map, Tryd.f67]
      first
      | (simp [cmpT, cmpS_eq, hb11]; done)
      | (rw [show cmpT (.mk n ts p) (.mk n us q) = cmpTs ts us by simp [cmpT, cmpS_eq], hc, hda, hdb, cmpTs_cons, if_neg hb43])
      | (rw [show cmpT (.mk n ts p) (.mk n us q) = cmpTs ts us by simp [cmpT, cmpS_eq], hc, cmpTs_end ts us k (by omega) hk1 hk2]; repeat (first | omega | split))
     ·
      try simp [row_map, hka, hb28] at hb43
      refine AT_skip ?_
      try simp only [nrm, reduceIte, Nat.reduceEqDiff]
      refine hK10 _ ?_
      refine AT_region_q fun K14 hK14 => ?_
      simp [row_map, hka, hb28, hb43]
      repeat refine sg ?_
      refine hK14 _ ?_
      clear hK14 K14
      try simp only [nrm, reduceIte, Nat.reduceEqDiff]
      refine hK7 _ (by first | rfl | simp) (ts.length - (k+1)) (by omega) ?_
      refine ⟨k+1, by omega, ?_, by omega, by simp⟩
      rw [hc, hda, hdb, cmpTs_cons, if_pos hb43]
    ·
     try simp [row_map, hka] at hb28
     refine AT_exit ?_
     try simp only [nrm, reduceIte, Nat.reduceEqDiff]
     refine hK5 _ ?_
     refine AT_seq_k fun K15 hK15 => ?_
     refine AT_seq_region fun K16 hK16 => ?_
     simp [row_map, hka, hb28]
     repeat refine sg ?_
     refine hK16 _ ?_
     clear hK16 K16
     refine AT_cond (g := none) rfl (fun hb51 => ?_) (fun hb51 => ?_)
     ·
      try simp [row_map, hka, hb28] at hb51
      refine AT_seq_region fun K17 hK17 => ?_
      simp [row_map, hka, hb28, hb51]
      repeat refine sg ?_
      refine hK17 _ ?_
      clear hK17 K17
      refine AT_ret ?_
      simp [row_map, Tryd.f67]
      first
      | (simp [cmpT, cmpS_eq, hb11]; done)
      | (rw [show cmpT (.mk n ts p) (.mk n us q) = cmpTs ts us by simp [cmpT, cmpS_eq], hc, hda, hdb, cmpTs_cons, if_neg hb43])
      | (rw [show cmpT (.mk n ts p) (.mk n us q) = cmpTs ts us by simp [cmpT, cmpS_eq], hc, cmpTs_end ts us k (by omega) hk1 hk2]; repeat (first | omega | split))
     ·
      try simp [row_map, hka, hb28] at hb51
      refine AT_skip ?_
      try simp only [nrm, reduceIte, Nat.reduceEqDiff]
      refine hK15 _ ?_
      refine AT_seq_k fun K18 hK18 => ?_
      refine AT_seq_region fun K19 hK19 => ?_
      simp [row_map, hka, hb28, hb51]
      repeat refine sg ?_
      refine hK19 _ ?_
      clear hK19 K19
      refine AT_cond (g := none) rfl (fun hb58 => ?_) (fun hb58 => ?_)
      ·
       try simp [row_map, hka, hb28, hb51] at hb58
       refine AT_seq_region fun K20 hK20 => ?_
       simp [row_map, hka, hb28, hb51, hb58]
       repeat refine sg ?_
       refine hK20 _ ?_
       clear hK20 K20
       refine AT_ret ?_
       simp [row_map, Tryd.f67]
       first
       | (simp [cmpT, cmpS_eq, hb11]; done)
       | (rw [show cmpT (.mk n ts p) (.mk n us q) = cmpTs ts us by simp [cmpT, cmpS_eq], hc, hda, hdb, cmpTs_cons, if_neg hb43])
       | (rw [show cmpT (.mk n ts p) (.mk n us q) = cmpTs ts us by simp [cmpT, cmpS_eq], hc, cmpTs_end ts us k (by omega) hk1 hk2]; repeat (first | omega | split))
      ·
       try simp [row_map, hka, hb28, hb51] at hb58
       refine AT_skip ?_
       try simp only [nrm, reduceIte, Nat.reduceEqDiff]
       refine hK18 _ ?_
       refine AT_seq_region fun K21 hK21 => ?_
       simp [row_map, hka, hb28, hb51, hb58]
       repeat refine sg ?_
       refine hK21 _ ?_
       clear hK21 K21
       refine AT_ret ?_
       simp [row_map, Tryd.f67]
       first
       | (simp [cmpT, cmpS_eq, hb11]; done)
       | (rw [show cmpT (.mk n ts p) (.mk n us q) = cmpTs ts us by simp [cmpT, cmpS_eq], hc, hda, hdb, cmpTs_cons, if_neg hb43])
       | (rw [show cmpT (.mk n ts p) (.mk n us q) = cmpTs ts us by simp [cmpT, cmpS_eq], hc, cmpTs_end ts us k (by omega) hk1 hk2]; repeat (first | omega | split))
   ·
    refine AT_seq_region fun K22 hK22 => ?_
    simp [row_map, hka]
    repeat refine sg ?_
    refine hK22 _ ?_
    clear hK22 K22
    refine AT_cond (b := false) (g := none) (by simp [hka]) (fun hb => ?_) (fun hb => ?_)
    ·
     cases hb
    ·
     clear hb
     refine AT_exit ?_
     try simp only [nrm, reduceIte, Nat.reduceEqDiff]
     refine hK5 _ ?_
     refine AT_seq_k fun K23 hK23 => ?_
     refine AT_seq_region fun K24 hK24 => ?_
     simp [row_map, hka]
     repeat refine sg ?_
     refine hK24 _ ?_
     clear hK24 K24
     refine AT_cond (g := none) rfl (fun hb51 => ?_) (fun hb51 => ?_)
     ·
      try simp [row_map, hka] at hb51
      refine AT_seq_region fun K25 hK25 => ?_
      simp [row_map, hka, hb51]
      repeat refine sg ?_
      refine hK25 _ ?_
      clear hK25 K25
      refine AT_ret ?_
      simp [row_map, Tryd.f67]
      first
      | (simp [cmpT, cmpS_eq, hb11]; done)
      | (rw [show cmpT (.mk n ts p) (.mk n us q) = cmpTs ts us by simp [cmpT, cmpS_eq], hc, hda, hdb, cmpTs_cons, if_neg hb43])
      | (rw [show cmpT (.mk n ts p) (.mk n us q) = cmpTs ts us by simp [cmpT, cmpS_eq], hc, cmpTs_end ts us k (by omega) hk1 hk2]; repeat (first | omega | split))
     ·
      try simp [row_map, hka] at hb51
      refine AT_skip ?_
      try simp only [nrm, reduceIte, Nat.reduceEqDiff]
      refine hK23 _ ?_
      refine AT_seq_k fun K26 hK26 => ?_
      refine AT_seq_region fun K27 hK27 => ?_
      simp [row_map, hka, hb51]
      repeat refine sg ?_
      refine hK27 _ ?_
      clear hK27 K27
      refine AT_cond (g := none) rfl (fun hb58 => ?_) (fun hb58 => ?_)
      ·
       try simp [row_map, hka, hb51] at hb58
       refine AT_seq_region fun K28 hK28 => ?_
       simp [row_map, hka, hb51, hb58]
       repeat refine sg ?_
       refine hK28 _ ?_
       clear hK28 K28
       refine AT_ret ?_
       simp [row_map, Tryd.f67]
       first
       | (simp [cmpT, cmpS_eq, hb11]; done)
       | (rw [show cmpT (.mk n ts p) (.mk n us q) = cmpTs ts us by simp [cmpT, cmpS_eq], hc, hda, hdb, cmpTs_cons, if_neg hb43])
       | (rw [show cmpT (.mk n ts p) (.mk n us q) = cmpTs ts us by simp [cmpT, cmpS_eq], hc, cmpTs_end ts us k (by omega) hk1 hk2]; repeat (first | omega | split))
      ·
       try simp [row_map, hka, hb51] at hb58
       refine AT_skip ?_
       try simp only [nrm, reduceIte, Nat.reduceEqDiff]
       refine hK26 _ ?_
       refine AT_seq_region fun K29 hK29 => ?_
       simp [row_map, hka, hb51, hb58]
       repeat refine sg ?_
       refine hK29 _ ?_
       clear hK29 K29
       refine AT_ret ?_
       simp [row_map, Tryd.f67]
       first
       | (simp [cmpT, cmpS_eq, hb11]; done)
       | (rw [show cmpT (.mk n ts p) (.mk n us q) = cmpTs ts us by simp [cmpT, cmpS_eq], hc, hda, hdb, cmpTs_cons, if_neg hb43])
       | (rw [show cmpT (.mk n ts p) (.mk n us q) = cmpTs ts us by simp [cmpT, cmpS_eq], hc, cmpTs_end ts us k (by omega) hk1 hk2]; repeat (first | omega | split))

theorem c_cmp_Or_int (l : List Int) (hl : l.length ≤ 1099511627776) : Valid Tryd.prog (G0 g rnd) 80 [.slice (l.map encI)] (.int .i64 (orI l)) := by

 refine valid_of [] Tryd.func80 rfl (by kernel_rfl) ?_
 refine AT_seq_region fun K1 hK1 => ?_
 simp [row_map, Tryd.f80]
 repeat refine sg ?_
 refine hK1 _ ?_
 clear hK1 K1
 refine AT_seq_region fun K2 hK2 => ?_
 simp [row_map]
 repeat refine sg ?_
 refine hK2 _ ?_
 clear hK2 K2
 refine AT_seq_k fun K3 hK3 => ?_
 refine AT_seq_region fun K4 hK4 => ?_
 simp [row_map]
 repeat refine sg ?_
 refine hK4 _ ?_
 clear hK4 K4
 refine AT_block ?_
 refine AT_loop_q [3,6,7,8] [] (fun j s => ∃ k, k ≤ l.length ∧ orI l = orI (l.drop k) ∧ j = l.length - k ∧ s = { n := 18, tm := [(3, .v (.int .i64 0) none), (6, .v (.slice (l.map encI)) none), (7, .v (.int .i64 l.length) none), (8, .v (.int .i64 k) none)], bx := [], tb := [], sh := [], hint := [] }) (l.length) (by first | rfl | simp) ?_ ?_
 ·
  exact ⟨0, by simp⟩
 ·
  rintro j s ⟨k, hk, hc, rfl, rfl⟩ K5 hK5
  refine AT_seq_region fun K6 hK6 => ?_
  simp [row_map]
  repeat refine sg ?_
  refine hK6 _ ?_
  clear hK6 K6
  refine AT_seq_k fun K7 hK7 => ?_
  refine AT_cond (g := none) rfl (fun hb9 => ?_) (fun hb9 => ?_)
  ·
   try simp [row_map] at hb9
   refine AT_skip ?_
   try simp only [nrm, reduceIte, Nat.reduceEqDiff]
   refine hK7 _ ?_
   refine AT_seq_k fun K8 hK8 => ?_
   refine AT_block ?_
   refine AT_seq_region fun K9 hK9 => ?_
   have hd := List.drop_eq_getElem_cons hb9
   simp [row_map, hb9]
   repeat refine sg ?_
   refine hK9 _ ?_
   clear hK9 K9
   refine AT_seq_region fun K10 hK10 => ?_
   simp [row_map, hb9]
   repeat refine sg ?_
   refine hK10 _ ?_
   clear hK10 K10
   refine AT_cond (g := none) rfl (fun hb14 => ?_) (fun hb14 => ?_)
   ·
    try simp [row_map, hb9] at hb14
    refine AT_seq_region fun K11 hK11 => ?_
    simp [row_map, hb9, hb14]
    repeat refine sg ?_
    refine hK11 _ ?_
    clear hK11 K11
    refine AT_ret ?_
    simp [row_map, Tryd.f80]
    first | (rw [hc, hd, orI, if_neg hb14]) | (rw [hc, List.drop_eq_nil_of_le hb9]; rfl)
   ·
    try simp [row_map, hb9] at hb14
    refine AT_skip ?_
    try simp only [nrm, reduceIte, Nat.reduceEqDiff]
    refine hK8 _ ?_
    refine AT_region_q fun K12 hK12 => ?_
    simp [row_map, hb9, hb14]
    repeat refine sg ?_
    refine hK12 _ ?_
    clear hK12 K12
    try simp only [nrm, reduceIte, Nat.reduceEqDiff]
    refine hK5 _ (by first | rfl | simp) (l.length - (k+1)) (by omega) ?_
    refine ⟨k+1, by omega, ?_, by omega, by simp⟩
    rw [hc, hd, orI, if_pos hb14]
  ·
   try simp [row_map] at hb9
   refine AT_exit ?_
   try simp only [nrm, reduceIte, Nat.reduceEqDiff]
   refine hK3 _ ?_
   refine AT_seq_region fun K13 hK13 => ?_
   simp [row_map, hb9]
   repeat refine sg ?_
   refine hK13 _ ?_
   clear hK13 K13
   refine AT_ret ?_
   simp [row_map, Tryd.f80]
   first | (rw [hc, hd, orI, if_neg hb14]) | (rw [hc, List.drop_eq_nil_of_le hb9]; rfl)

theorem c_cmp_Or_int_p (a b : Int) : Valid Tryd.prog (G0 g rnd) 80 [.slice [[.int .i64 a], [.int .i64 b]]] (.int .i64 (if a = 0 then b else a)) := by
  have h := c_cmp_Or_int g rnd [a, b] (by simp)
  have e : orI [a, b] = if a = 0 then b else a := by simp only [orI]; split <;> (try split) <;> simp_all
  rw [e] at h
  exact h

theorem c_slices_CompareFunc_api_Type_api_Type_api_Type_api_Type (ts us : List Ty) (hl : ts.length ≤ 1099511627776) (hcmp : ∀ t ∈ ts, ∀ u ∈ us, Valid Tryd.prog (G0 g rnd) 66 [.agg (encTy t), .agg (encTy u)] (.int .i64 (cmpT t u))) : Valid Tryd.prog (G0 g rnd) 82 [.slice (ts.map encTy), .slice (us.map encTy), .func 66 []] (.int .i64 (cmpTs ts us)) := by

 refine valid_of [] Tryd.func82 rfl (by kernel_rfl) ?_
 refine AT_seq_region fun K1 hK1 => ?_
 simp [row_map, Tryd.f82]
 repeat refine sg ?_
 refine hK1 _ ?_
 clear hK1 K1
 refine AT_seq_k fun K2 hK2 => ?_
 refine AT_seq_region fun K3 hK3 => ?_
 simp [row_map]
 repeat refine sg ?_
 refine hK3 _ ?_
 clear hK3 K3
 refine AT_block ?_
 refine AT_loop_q [0,1,2,11,12,13] [] (fun j s => ∃ k, (k ≤ ts.length ∧ k ≤ us.length) ∧ cmpTs ts us = cmpTs (ts.drop k) (us.drop k) ∧ j = ts.length - k ∧ s = { n := 39, tm := [(0, .v (.slice (ts.map encTy)) none), (1, .v (.slice (us.map encTy)) none), (2, .v (.func 66 []) none), (11, .v (.slice (ts.map encTy)) none), (12, .v (.int .i64 ts.length) none), (13, .v (.int .i64 k) none)], bx := [], tb := [], sh := [], hint := [] }) (ts.length) (by first | rfl | simp) ?_ ?_
 ·
  exact ⟨0, by simp⟩
 ·
  rintro j s ⟨k, ⟨hk1, hk2⟩, hc, rfl, rfl⟩ K4 hK4
  refine AT_seq_region fun K5 hK5 => ?_
  simp [row_map]
  repeat refine sg ?_
  refine hK5 _ ?_
  clear hK5 K5
  refine AT_seq_k fun K6 hK6 => ?_
  refine AT_cond (g := none) rfl (fun hb14 => ?_) (fun hb14 => ?_)
  ·
   try simp [row_map] at hb14
   refine AT_skip ?_
   try simp only [nrm, reduceIte, Nat.reduceEqDiff]
   refine hK6 _ ?_
   refine AT_seq_k fun K7 hK7 => ?_
   refine AT_block ?_
   refine AT_seq_region fun K8 hK8 => ?_
   simp [row_map, hb14]
   repeat refine sg ?_
   refine hK8 _ ?_
   clear hK8 K8
   refine AT_seq_k fun K9 hK9 => ?_
   refine AT_seq_region fun K10 hK10 => ?_
   simp [row_map, hb14]
   repeat refine sg ?_
   refine hK10 _ ?_
   clear hK10 K10
   refine AT_cond (g := none) rfl (fun hb21 => ?_) (fun hb21 => ?_)
   ·
    try simp [row_map, hb14] at hb21
    refine AT_seq_region fun K11 hK11 => ?_
    simp [row_map, hb14, hb21]
    repeat refine sg ?_
    refine hK11 _ ?_
    clear hK11 K11
    refine AT_ret ?_
    simp [row_map, Tryd.f82]
    first
    | (rw [hc, hda, hdb, cmpTs_cons, if_neg hb31])
    | (rw [hc, cmpTs_end ts us k (by omega) hk1 hk2]; repeat (first | omega | split))
   ·
    try simp [row_map, hb14] at hb21
    refine AT_skip ?_
    try simp only [nrm, reduceIte, Nat.reduceEqDiff]
    refine hK9 _ ?_
    refine AT_seq_region fun K12 hK12 => ?_
    have hda := List.drop_eq_getElem_cons hb14
    have hdb := List.drop_eq_getElem_cons hb21
    simp [row_map, hb14, hb21]
    repeat refine sg ?_
    refine hK12 _ ?_
    clear hK12 K12
    refine AT_seq_region fun K13 hK13 => ?_
    simp [row_map, hb14, hb21]
    repeat refine sg ?_
    refine RVn_call (hcmp ts[k] (by simp) us[k] (by simp)) ?_
    simp [row_map, hb14, hb21]
    repeat refine sg ?_
    refine hK13 _ ?_
    clear hK13 K13
    refine AT_seq_region fun K14 hK14 => ?_
    simp [row_map, hb14, hb21]
    repeat refine sg ?_
    refine hK14 _ ?_
    clear hK14 K14
    refine AT_cond (g := none) rfl (fun hb31 => ?_) (fun hb31 => ?_)
    ·
     try simp [row_map, hb14, hb21] at hb31
     refine AT_seq_region fun K15 hK15 => ?_
     simp [row_map, hb14, hb21, hb31]
     repeat refine sg ?_
     refine hK15 _ ?_
     clear hK15 K15
     refine AT_ret ?_
     simp [row_map, Tryd.f82]
     first
     | (rw [hc, hda, hdb, cmpTs_cons, if_neg hb31])
     | (rw [hc, cmpTs_end ts us k (by omega) hk1 hk2]; repeat (first | omega | split))
    ·
     try simp [row_map, hb14, hb21] at hb31
     refine AT_skip ?_
     try simp only [nrm, reduceIte, Nat.reduceEqDiff]
     refine hK7 _ ?_
     refine AT_region_q fun K16 hK16 => ?_
     simp [row_map, hb14, hb21, hb31]
     repeat refine sg ?_
     refine hK16 _ ?_
     clear hK16 K16
     try simp only [nrm, reduceIte, Nat.reduceEqDiff]
     refine hK4 _ (by first | rfl | simp) (ts.length - (k+1)) (by omega) ?_
     refine ⟨k+1, by omega, ?_, by omega, by simp⟩
     rw [hc, hda, hdb, cmpTs_cons, if_pos hb31]
  ·
   try simp [row_map] at hb14
   refine AT_exit ?_
   try simp only [nrm, reduceIte, Nat.reduceEqDiff]
   refine hK2 _ ?_
   refine AT_seq_k fun K17 hK17 => ?_
   refine AT_seq_region fun K18 hK18 => ?_
   simp [row_map, hb14]
   repeat refine sg ?_
   refine hK18 _ ?_
   clear hK18 K18
   refine AT_cond (g := none) rfl (fun hb38 => ?_) (fun hb38 => ?_)
   ·
    try simp [row_map, hb14] at hb38
    refine AT_seq_region fun K19 hK19 => ?_
    simp [row_map, hb14, hb38]
    repeat refine sg ?_
    refine hK19 _ ?_
    clear hK19 K19
    refine AT_ret ?_
    simp [row_map, Tryd.f82]
    first
    | (rw [hc, hda, hdb, cmpTs_cons, if_neg hb31])
    | (rw [hc, cmpTs_end ts us k (by omega) hk1 hk2]; repeat (first | omega | split))
   ·
    try simp [row_map, hb14] at hb38
    refine AT_skip ?_
    try simp only [nrm, reduceIte, Nat.reduceEqDiff]
    refine hK17 _ ?_
    refine AT_seq_region fun K20 hK20 => ?_
    simp [row_map, hb14, hb38]
    repeat refine sg ?_
    refine hK20 _ ?_
    clear hK20 K20
    refine AT_ret ?_
    simp [row_map, Tryd.f82]
    first
    | (rw [hc, hda, hdb, cmpTs_cons, if_neg hb31])
    | (rw [hc, cmpTs_end ts us k (by omega) hk1 hk2]; repeat (first | omega | split))

theorem c_types_Compare : ∀ t u : Ty, wt t ≤ 1099511627776 → Valid Tryd.prog (G0 g rnd) 66 [.agg (encTy t), .agg (encTy u)] (.int .i64 (cmpT t u)) := by
 intro t
 induction t using Ty.ind with
 | h n ts p ih =>
 intro u hw
 obtain ⟨m, us, q⟩ := u
 have hw2 : n.length + 1 + wts ts ≤ 1099511627776 := by simpa [wt] using hw
 have hln := wts_len ts
 refine valid_of [] Tryd.func66 rfl (by kernel_rfl) ?_
 refine AT_seq_region fun K1 hK1 => ?_
 simp [row_map, Tryd.f66]
 repeat refine sg ?_
 refine hK1 _ ?_
 clear hK1 K1
 refine AT_seq_draw Pt.mixed (by kernel_rfl) fun K2 hK2 => ?_
 simp [row_map]
 repeat refine sg ?_
 refine RVdn_call (c_name_Compare g rnd n m) ?_
 simp [row_map]
 repeat refine sg ?_
 refine RVdn_call (c_slices_CompareFunc_api_Type_api_Type_api_Type_api_Type g rnd ts us (by omega) (fun t ht u _ => ih t ht u (Nat.le_trans (wts_mem ht) (by omega)))) ?_
 simp [row_map]
 repeat refine sg ?_
 refine RVdn_call (c_cmp_Or_int_p g rnd _ _) ?_
 simp [row_map]
 repeat refine sg ?_
 refine hK2 _ ?_
 clear hK2 K2
 refine AT_ret ?_
 simp [row_map, Tryd.f66]
 simp only [cmpT, Ty.name, Ty.args]; first | rfl | (split <;> rfl)

theorem c_types_Same (t u : Ty) (hw : wt t ≤ 1099511627776) : Valid Tryd.prog (G0 g rnd) 35 [.agg (encTy t), .agg (encTy u)] (.bool (cmpT t u == 0)) := by

 refine valid_of [] Tryd.func35 rfl (by kernel_rfl) ?_
 refine AT_seq_region fun K1 hK1 => ?_
 simp [Tryd.f35]
 repeat refine sg ?_
 refine hK1 _ ?_
 clear hK1 K1
 refine AT_seq_region fun K2 hK2 => ?_
 simp
 repeat refine sg ?_
 refine RVn_call (c_types_Compare g rnd t u hw) ?_
 simp
 repeat refine sg ?_
 refine hK2 _ ?_
 clear hK2 K2
 refine AT_ret ?_
 simp [Tryd.f35]

end Go.Proofs.YtjkabaejabibnaaDoor
end

/- Contracts: right expressions. -/
import Derived.Test.YtpjkdaechknogaaDoorPt
import Derived.Test.YtpjkdaechknogaaDoorPvPb
import Derived.Test.YtpjkdaechknogaaDoorPvY
import Derived.Test.YtpjkdaechknogaaDoorXExE
import Derived.Test.YtpjkdaechknogaaDoorXExE
import Derived.Test.YtpjkdaechknogaaDoorXTyO
import Derived.Test.YtpjkdaechknogaaDoorXShelf
import Derived.Test.YtpjkdaechknogaaDoorXTyQ
import Derived.Test.YtpjkdaechknogaaDoorXTyQ
import Derived.Test.YtpjkdaechknogaaDoorXNaB
set_option linter.all false
set_option maxHeartbeats 1000000
set_option maxRecDepth 10000
namespace Go.Proofs.YtpjkdaechknogaaDoor
open Go Go.Pv
variable (g : Nat → Option (List AV)) (rnd : Bool)

theorem c_ref05x_Right (e : Exp) : wtE e ≤ 1000000000 → Valid Tryd.prog (G0 g rnd) 11 [.agg (encE e)] (.bool (rightE e)) := by
 induction e using Exp.ind with
 | h kd n t ta l p ih =>
 intro hw
 have hw2 : n.length + 1 + wt t + wts ta + wtEs l ≤ 1000000000 := by simpa [wtE_mk] using hw
 have hln := wtEs_len l
 have hla := wts_len ta
 obtain ⟨tn, tas, tp⟩ := t
 refine valid_of [] Tryd.func11 rfl (by kernel_rfl) ?_
 refine AT_seq_region fun K1 hK1 => ?_
 simp [row_map, Tryd.f11]
 repeat refine sg ?_
 refine hK1 _ ?_
 clear hK1 K1
 refine AT_seq_k fun K2 hK2 => ?_
 refine AT_seq_region fun K3 hK3 => ?_
 simp [row_map]
 repeat refine sg ?_
 refine hK3 _ ?_
 clear hK3 K3
 refine AT_block ?_
 refine AT_loop_q [1,3] [1] (fun j s => ∃ k, k ≤ l.length ∧ rightEs l = rightEs (l.drop k) ∧ j = l.length - k ∧ s = { n := 108, tm := [(1, .lp 1 0), (3, .v (.int .i64 k) none)], bx := [(1, encE (.mk kd n (.mk tn tas tp) ta l p))], tb := [], sh := [], hint := [] }) (l.length) (by first | rfl | simp) ?_ ?_
 ·
  exact ⟨0, by simp⟩
 ·
  rintro j s ⟨k, hk, hc, rfl, rfl⟩ K4 hK4
  refine AT_seq_k fun K5 hK5 => ?_
  refine AT_seq_region fun K6 hK6 => ?_
  simp [row_map]
  repeat refine sg ?_
  refine hK6 _ ?_
  clear hK6 K6
  refine AT_cond (g := none) rfl (fun hb10 => ?_) (fun hb10 => ?_)
  ·
   try simp [row_map] at hb10
   refine AT_skip ?_
   try simp only [nrm, reduceIte, Nat.reduceEqDiff]
   refine hK5 _ ?_
   refine AT_seq_k fun K7 hK7 => ?_
   refine AT_block ?_
   refine AT_seq_region fun K8 hK8 => ?_
   have hm := wtEs_mem (l := l) (e := l[k]) (by simp)
   have hda := List.drop_eq_getElem_cons hb10
   simp [row_map, hb10]
   repeat refine sg ?_
   refine RVn_call (ih l[k] (by simp) (by omega)) ?_
   simp [row_map, hb10]
   repeat refine sg ?_
   refine hK8 _ ?_
   clear hK8 K8
   refine AT_cond (g := none) rfl (fun hb19 => ?_) (fun hb19 => ?_)
   ·
    try simp [row_map, hb10] at hb19
    refine AT_seq_region fun K9 hK9 => ?_
    simp [row_map, hb10, hb19]
    repeat refine sg ?_
    refine hK9 _ ?_
    clear hK9 K9
    refine AT_ret ?_
    simp [row_map, Tryd.f11]
    first
    | (rw [rightE_ok, hc, hda, rightEs_cons, hb19]; rfl)
    | (rw [rightE_ok, hL, hc2, hdb, okT_cons, h2b]; rfl)
    | (rw [rightE_ok, hL, hc2, hdb, okT_cons, h2b, hrk]; rfl)
    | (rw [rightE_ok, hL, hT]; simp [bodyE, kidsE, typedE, e1, e2, e3, e4, e5, hr]; done)
    | (rw [rightE_ok, hL, hT]; simp [bodyE, kidsE, typedE, e1, e2, e3, e4, e5, hr, hn]; done)
    | (rw [rightE_ok, hL, hT]; simp [bodyE, kidsE, typedE, e1, e2, e3, e4, e5, rightT_ne hr]; done)
    | (rw [rightE_ok, hL, hT]; simp [bodyE, kidsE, typedE, e1, e2, e3, e4, e5, hr, hn, len_eq0, len_ge1, len_eq1]; done)
    | (rw [rightE_ok, hL, hT]; simp [bodyE, kidsE, typedE, e1, e2, e3, e4, e5, hr, ht]; done)
    | (rw [rightE_ok, hL, hT]; simp [bodyE, kidsE, typedE, e1, e2, e3, e4, e5, hr, ht, ha]; done)
    | (rw [rightE_ok, hL, hT]; simp [bodyE, kidsE, typedE, e1, e2, e3, e4, e5, hr, ht, ha, hin]; done)
    | (rw [rightE_ok, hL, hT]; simp [bodyE, kidsE, typedE, e1, e2, e3, e4, e5, hr, ht, ha, hin, len_eq0, len_ge1, len_eq1]; done)
   ·
    try simp [row_map, hb10] at hb19
    refine AT_skip ?_
    try simp only [nrm, reduceIte, Nat.reduceEqDiff]
    refine hK7 _ ?_
    refine AT_region_q fun K10 hK10 => ?_
    simp [row_map, hb10, hb19]
    repeat refine sg ?_
    refine hK10 _ ?_
    clear hK10 K10
    try simp only [nrm, reduceIte, Nat.reduceEqDiff]
    refine hK4 _ (by first | rfl | simp) (l.length - (k+1)) (by omega) ?_
    refine ⟨k+1, by omega, ?_, by omega, by simp⟩
    rw [hc, hda, rightEs_cons, hb19]; rfl
  ·
   try simp [row_map] at hb10
   refine AT_exit ?_
   try simp only [nrm, reduceIte, Nat.reduceEqDiff]
   refine hK2 _ ?_
   refine AT_seq_k fun K11 hK11 => ?_
   refine AT_seq_region fun K12 hK12 => ?_
   simp [row_map, hb10]
   repeat refine sg ?_
   refine hK12 _ ?_
   clear hK12 K12
   refine AT_block ?_
   have hL : rightEs l = true := by rw [hc, List.drop_eq_nil_of_le hb10]; simp [rightEs]
   refine AT_loop_q [1,4] [1] (fun j s => ∃ k, k ≤ ta.length ∧ okT kd ta = okT kd (ta.drop k) ∧ j = ta.length - k ∧ s = { n := 108, tm := [(1, .lp 1 0), (4, .v (.int .i64 k) none)], bx := [(1, encE (.mk kd n (.mk tn tas tp) ta l p))], tb := [], sh := [], hint := [] }) (ta.length) (by first | rfl | simp) ?_ ?_
   ·
    exact ⟨0, by simp⟩
   ·
    rintro j s ⟨k, hk2, hc2, rfl, rfl⟩ K13 hK13
    refine AT_seq_k fun K14 hK14 => ?_
    refine AT_seq_region fun K15 hK15 => ?_
    simp [row_map, hb10]
    repeat refine sg ?_
    refine hK15 _ ?_
    clear hK15 K15
    refine AT_cond (g := none) rfl (fun hb24 => ?_) (fun hb24 => ?_)
    ·
     try simp [row_map, hb10] at hb24
     refine AT_skip ?_
     try simp only [nrm, reduceIte, Nat.reduceEqDiff]
     refine hK14 _ ?_
     refine AT_seq_k fun K16 hK16 => ?_
     refine AT_block ?_
     cases h2 : (kd != 2)
     ·
      have h2b : (kd == 2) = true := by simpa using h2
      cases hrk : rightT ta[k]
      ·
       refine AT_seq_region fun K17 hK17 => ?_
       have hdb := List.drop_eq_getElem_cons hb24
       have hm2 := wts_mem (l := ta) (t := ta[k]) (by simp)
       simp [row_map, hb10, hb24, h2, hrk]
       repeat refine sg ?_
       try (
        refine RVn_call (c_ref04x_Right g rnd ta[k] (by omega)) ?_
        simp [row_map, hb10, hb24, h2, hrk]
        repeat refine sg ?_)
       refine hK17 _ ?_
       clear hK17 K17
       refine AT_cond (b := true) (g := none) (by simp [hb10, hb24, h2, hrk]) (fun hb => ?_) (fun hb => ?_)
       ·
        clear hb
        refine AT_seq_region fun K18 hK18 => ?_
        simp [row_map, hb10, hb24, h2, hrk]
        repeat refine sg ?_
        refine hK18 _ ?_
        clear hK18 K18
        refine AT_ret ?_
        simp [row_map, Tryd.f11]
        first
        | (rw [rightE_ok, hc, hda, rightEs_cons, hb19]; rfl)
        | (rw [rightE_ok, hL, hc2, hdb, okT_cons, h2b]; rfl)
        | (rw [rightE_ok, hL, hc2, hdb, okT_cons, h2b, hrk]; rfl)
        | (rw [rightE_ok, hL, hT]; simp [bodyE, kidsE, typedE, e1, e2, e3, e4, e5, hr]; done)
        | (rw [rightE_ok, hL, hT]; simp [bodyE, kidsE, typedE, e1, e2, e3, e4, e5, hr, hn]; done)
        | (rw [rightE_ok, hL, hT]; simp [bodyE, kidsE, typedE, e1, e2, e3, e4, e5, rightT_ne hr]; done)
        | (rw [rightE_ok, hL, hT]; simp [bodyE, kidsE, typedE, e1, e2, e3, e4, e5, hr, hn, len_eq0, len_ge1, len_eq1]; done)
        | (rw [rightE_ok, hL, hT]; simp [bodyE, kidsE, typedE, e1, e2, e3, e4, e5, hr, ht]; done)
        | (rw [rightE_ok, hL, hT]; simp [bodyE, kidsE, typedE, e1, e2, e3, e4, e5, hr, ht, ha]; done)
        | (rw [rightE_ok, hL, hT]; simp [bodyE, kidsE, typedE, e1, e2, e3, e4, e5, hr, ht, ha, hin]; done)
        | (rw [rightE_ok, hL, hT]; simp [bodyE, kidsE, typedE, e1, e2, e3, e4, e5, hr, ht, ha, hin, len_eq0, len_ge1, len_eq1]; done)
       ·
        cases hb
      ·
       refine AT_seq_region fun K19 hK19 => ?_
       have hdb := List.drop_eq_getElem_cons hb24
       have hm2 := wts_mem (l := ta) (t := ta[k]) (by simp)
       simp [row_map, hb10, hb24, h2, hrk]
       repeat refine sg ?_
       try (
        refine RVn_call (c_ref04x_Right g rnd ta[k] (by omega)) ?_
        simp [row_map, hb10, hb24, h2, hrk]
        repeat refine sg ?_)
       refine hK19 _ ?_
       clear hK19 K19
       refine AT_cond (b := false) (g := none) (by simp [hb10, hb24, h2, hrk]) (fun hb => ?_) (fun hb => ?_)
       ·
        cases hb
       ·
        clear hb
        refine AT_skip ?_
        try simp only [nrm, reduceIte, Nat.reduceEqDiff]
        refine hK16 _ ?_
        refine AT_region_q fun K20 hK20 => ?_
        simp [row_map, hb10, hb24, h2, hrk]
        repeat refine sg ?_
        refine hK20 _ ?_
        clear hK20 K20
        try simp only [nrm, reduceIte, Nat.reduceEqDiff]
        refine hK13 _ (by first | rfl | simp) (ta.length - (k+1)) (by omega) ?_
        refine ⟨k+1, by omega, ?_, by omega, by simp⟩
        rw [hc2, hdb, okT_cons, h2b, hrk]; rfl
     ·
      have h2b : (kd == 2) = false := by simpa using h2
      refine AT_seq_region fun K21 hK21 => ?_
      have hdb := List.drop_eq_getElem_cons hb24
      have hm2 := wts_mem (l := ta) (t := ta[k]) (by simp)
      simp [row_map, hb10, hb24, h2]
      repeat refine sg ?_
      try (
       refine RVn_call (c_ref04x_Right g rnd ta[k] (by omega)) ?_
       simp [row_map, hb10, hb24, h2]
       repeat refine sg ?_)
      refine hK21 _ ?_
      clear hK21 K21
      refine AT_cond (b := true) (g := none) (by simp [hb10, hb24, h2]) (fun hb => ?_) (fun hb => ?_)
      ·
       clear hb
       refine AT_seq_region fun K22 hK22 => ?_
       simp [row_map, hb10, hb24, h2]
       repeat refine sg ?_
       refine hK22 _ ?_
       clear hK22 K22
       refine AT_ret ?_
       simp [row_map, Tryd.f11]
       first
       | (rw [rightE_ok, hc, hda, rightEs_cons, hb19]; rfl)
       | (rw [rightE_ok, hL, hc2, hdb, okT_cons, h2b]; rfl)
       | (rw [rightE_ok, hL, hc2, hdb, okT_cons, h2b, hrk]; rfl)
       | (rw [rightE_ok, hL, hT]; simp [bodyE, kidsE, typedE, e1, e2, e3, e4, e5, hr]; done)
       | (rw [rightE_ok, hL, hT]; simp [bodyE, kidsE, typedE, e1, e2, e3, e4, e5, hr, hn]; done)
       | (rw [rightE_ok, hL, hT]; simp [bodyE, kidsE, typedE, e1, e2, e3, e4, e5, rightT_ne hr]; done)
       | (rw [rightE_ok, hL, hT]; simp [bodyE, kidsE, typedE, e1, e2, e3, e4, e5, hr, hn, len_eq0, len_ge1, len_eq1]; done)
       | (rw [rightE_ok, hL, hT]; simp [bodyE, kidsE, typedE, e1, e2, e3, e4, e5, hr, ht]; done)
       | (rw [rightE_ok, hL, hT]; simp [bodyE, kidsE, typedE, e1, e2, e3, e4, e5, hr, ht, ha]; done)
       | (rw [rightE_ok, hL, hT]; simp [bodyE, kidsE, typedE, e1, e2, e3, e4, e5, hr, ht, ha, hin]; done)
       | (rw [rightE_ok, hL, hT]; simp [bodyE, kidsE, typedE, e1, e2, e3, e4, e5, hr, ht, ha, hin, len_eq0, len_ge1, len_eq1]; done)
      ·
       cases hb
    ·
     try simp [row_map, hb10] at hb24
     refine AT_exit ?_
     try simp only [nrm, reduceIte, Nat.reduceEqDiff]
     refine hK11 _ ?_
     rcases kd_cases kd with hk | hk | hk | hk | hk | ⟨e1, e2, e3, e4, e5⟩
     ·
      have e1 : (kd == 1) = true := by rw [hk]; rfl
      have e2 : (kd == 2) = false := by rw [hk]; rfl
      have e3 : (kd == 3) = false := by rw [hk]; rfl
      have e4 : (kd == 4) = false := by rw [hk]; rfl
      have e5 : (kd == 5) = false := by rw [hk]; rfl
      cases hr : (rightT (.mk tn tas tp))
      ·
       cases ht : tn.isEmpty
       ·
        refine AT_seq_region fun K23 hK23 => ?_
        have hT : okT kd ta = true := by rw [hc2, List.drop_eq_nil_of_le hb24]; rfl
        simp [row_map, hb10, hb24, e1, e2, e3, e4, e5, hr, ht]
        repeat refine sg ?_
        refine hK23 _ ?_
        clear hK23 K23
        refine AT_seq_k fun K24 hK24 => ?_
        refine AT_seq_region fun K25 hK25 => ?_
        simp [row_map, hb10, hb24, e1, e2, e3, e4, e5, hr, ht]
        repeat refine sg ?_
        refine RVn_call (c_ref04x_Right g rnd (.mk tn tas tp) (by omega)) ?_
        simp [row_map, hb10, hb24, e1, e2, e3, e4, e5, hr, ht]
        repeat refine sg ?_
        refine hK25 _ ?_
        clear hK25 K25
        refine AT_cond (b := true) (g := none) (by simp [hb10, hb24, e1, e2, e3, e4, e5, hr, ht]) (fun hb => ?_) (fun hb => ?_)
        ·
         clear hb
         refine AT_seq_region fun K26 hK26 => ?_
         simp [row_map, hb10, hb24, e1, e2, e3, e4, e5, hr, ht]
         repeat refine sg ?_
         refine hK26 _ ?_
         clear hK26 K26
         refine AT_ret ?_
         simp [row_map, Tryd.f11]
         first
         | (rw [rightE_ok, hc, hda, rightEs_cons, hb19]; rfl)
         | (rw [rightE_ok, hL, hc2, hdb, okT_cons, h2b]; rfl)
         | (rw [rightE_ok, hL, hc2, hdb, okT_cons, h2b, hrk]; rfl)
         | (rw [rightE_ok, hL, hT]; simp [bodyE, kidsE, typedE, e1, e2, e3, e4, e5, hr]; done)
         | (rw [rightE_ok, hL, hT]; simp [bodyE, kidsE, typedE, e1, e2, e3, e4, e5, hr, hn]; done)
         | (rw [rightE_ok, hL, hT]; simp [bodyE, kidsE, typedE, e1, e2, e3, e4, e5, rightT_ne hr]; done)
         | (rw [rightE_ok, hL, hT]; simp [bodyE, kidsE, typedE, e1, e2, e3, e4, e5, hr, hn, len_eq0, len_ge1, len_eq1]; done)
         | (rw [rightE_ok, hL, hT]; simp [bodyE, kidsE, typedE, e1, e2, e3, e4, e5, hr, ht]; done)
         | (rw [rightE_ok, hL, hT]; simp [bodyE, kidsE, typedE, e1, e2, e3, e4, e5, hr, ht, ha]; done)
         | (rw [rightE_ok, hL, hT]; simp [bodyE, kidsE, typedE, e1, e2, e3, e4, e5, hr, ht, ha, hin]; done)
         | (rw [rightE_ok, hL, hT]; simp [bodyE, kidsE, typedE, e1, e2, e3, e4, e5, hr, ht, ha, hin, len_eq0, len_ge1, len_eq1]; done)
        ·
         cases hb
       ·
        cases ha : tas.isEmpty
        ·
         have ha0 : 0 < tas.length := by cases tas with | nil => cases ha | cons x r => simp
         refine AT_seq_region fun K27 hK27 => ?_
         have hT : okT kd ta = true := by rw [hc2, List.drop_eq_nil_of_le hb24]; rfl
         simp [row_map, hb10, hb24, e1, e2, e3, e4, e5, hr, ht, ha0]
         repeat refine sg ?_
         refine hK27 _ ?_
         clear hK27 K27
         refine AT_seq_k fun K28 hK28 => ?_
         refine AT_seq_region fun K29 hK29 => ?_
         simp [row_map, hb10, hb24, e1, e2, e3, e4, e5, hr, ht, ha0]
         repeat refine sg ?_
         refine RVn_call (c_ref04x_Right g rnd (.mk tn tas tp) (by omega)) ?_
         simp [row_map, hb10, hb24, e1, e2, e3, e4, e5, hr, ht, ha0]
         repeat refine sg ?_
         refine hK29 _ ?_
         clear hK29 K29
         refine AT_cond (b := true) (g := none) (by simp [hb10, hb24, e1, e2, e3, e4, e5, hr, ht, ha0]) (fun hb => ?_) (fun hb => ?_)
         ·
          clear hb
          refine AT_seq_region fun K30 hK30 => ?_
          simp [row_map, hb10, hb24, e1, e2, e3, e4, e5, hr, ht, ha0]
          repeat refine sg ?_
          refine hK30 _ ?_
          clear hK30 K30
          refine AT_ret ?_
          simp [row_map, Tryd.f11]
          first
          | (rw [rightE_ok, hc, hda, rightEs_cons, hb19]; rfl)
          | (rw [rightE_ok, hL, hc2, hdb, okT_cons, h2b]; rfl)
          | (rw [rightE_ok, hL, hc2, hdb, okT_cons, h2b, hrk]; rfl)
          | (rw [rightE_ok, hL, hT]; simp [bodyE, kidsE, typedE, e1, e2, e3, e4, e5, hr]; done)
          | (rw [rightE_ok, hL, hT]; simp [bodyE, kidsE, typedE, e1, e2, e3, e4, e5, hr, hn]; done)
          | (rw [rightE_ok, hL, hT]; simp [bodyE, kidsE, typedE, e1, e2, e3, e4, e5, rightT_ne hr]; done)
          | (rw [rightE_ok, hL, hT]; simp [bodyE, kidsE, typedE, e1, e2, e3, e4, e5, hr, hn, len_eq0, len_ge1, len_eq1]; done)
          | (rw [rightE_ok, hL, hT]; simp [bodyE, kidsE, typedE, e1, e2, e3, e4, e5, hr, ht]; done)
          | (rw [rightE_ok, hL, hT]; simp [bodyE, kidsE, typedE, e1, e2, e3, e4, e5, hr, ht, ha]; done)
          | (rw [rightE_ok, hL, hT]; simp [bodyE, kidsE, typedE, e1, e2, e3, e4, e5, hr, ht, ha, hin]; done)
          | (rw [rightE_ok, hL, hT]; simp [bodyE, kidsE, typedE, e1, e2, e3, e4, e5, hr, ht, ha, hin, len_eq0, len_ge1, len_eq1]; done)
         ·
          cases hb
        ·
         have ha0 : ¬ 0 < tas.length := by rw [List.isEmpty_iff.1 ha]; decide
         cases hin : (isName n)
         ·
          refine AT_seq_region fun K31 hK31 => ?_
          have hT : okT kd ta = true := by rw [hc2, List.drop_eq_nil_of_le hb24]; rfl
          simp [row_map, hb10, hb24, e1, e2, e3, e4, e5, hr, ht, ha0, hin]
          repeat refine sg ?_
          refine hK31 _ ?_
          clear hK31 K31
          refine AT_seq_k fun K32 hK32 => ?_
          refine AT_seq_region fun K33 hK33 => ?_
          simp [row_map, hb10, hb24, e1, e2, e3, e4, e5, hr, ht, ha0, hin]
          repeat refine sg ?_
          refine RVn_call (c_ref04x_Right g rnd (.mk tn tas tp) (by omega)) ?_
          simp [row_map, hb10, hb24, e1, e2, e3, e4, e5, hr, ht, ha0, hin]
          repeat refine sg ?_
          refine hK33 _ ?_
          clear hK33 K33
          refine AT_cond (b := false) (g := none) (by simp [hb10, hb24, e1, e2, e3, e4, e5, hr, ht, ha0, hin]) (fun hb => ?_) (fun hb => ?_)
          ·
           cases hb
          ·
           clear hb
           refine AT_skip ?_
           try simp only [nrm, reduceIte, Nat.reduceEqDiff]
           refine hK32 _ ?_
           refine AT_seq_k fun K34 hK34 => ?_
           refine AT_seq_region fun K35 hK35 => ?_
           simp [row_map, hb10, hb24, e1, e2, e3, e4, e5, hr, ht, ha0, hin]
           repeat refine sg ?_
           try (
            refine RVn_call (c_ref01x_Is g rnd n (by omega)) ?_
            simp [row_map, hb10, hb24, e1, e2, e3, e4, e5, hr, ht, ha0, hin]
            repeat refine sg ?_)
           refine hK35 _ ?_
           clear hK35 K35
           refine AT_cond (b := true) (g := none) (by simp [hb10, hb24, e1, e2, e3, e4, e5, hr, ht, ha0, hin]) (fun hb => ?_) (fun hb => ?_)
           ·
            clear hb
            refine AT_seq_region fun K36 hK36 => ?_
            simp [row_map, hb10, hb24, e1, e2, e3, e4, e5, hr, ht, ha0, hin]
            repeat refine sg ?_
            refine hK36 _ ?_
            clear hK36 K36
            refine AT_ret ?_
            simp [row_map, Tryd.f11]
            first
            | (rw [rightE_ok, hc, hda, rightEs_cons, hb19]; rfl)
            | (rw [rightE_ok, hL, hc2, hdb, okT_cons, h2b]; rfl)
            | (rw [rightE_ok, hL, hc2, hdb, okT_cons, h2b, hrk]; rfl)
            | (rw [rightE_ok, hL, hT]; simp [bodyE, kidsE, typedE, e1, e2, e3, e4, e5, hr]; done)
            | (rw [rightE_ok, hL, hT]; simp [bodyE, kidsE, typedE, e1, e2, e3, e4, e5, hr, hn]; done)
            | (rw [rightE_ok, hL, hT]; simp [bodyE, kidsE, typedE, e1, e2, e3, e4, e5, rightT_ne hr]; done)
            | (rw [rightE_ok, hL, hT]; simp [bodyE, kidsE, typedE, e1, e2, e3, e4, e5, hr, hn, len_eq0, len_ge1, len_eq1]; done)
            | (rw [rightE_ok, hL, hT]; simp [bodyE, kidsE, typedE, e1, e2, e3, e4, e5, hr, ht]; done)
            | (rw [rightE_ok, hL, hT]; simp [bodyE, kidsE, typedE, e1, e2, e3, e4, e5, hr, ht, ha]; done)
            | (rw [rightE_ok, hL, hT]; simp [bodyE, kidsE, typedE, e1, e2, e3, e4, e5, hr, ht, ha, hin]; done)
            | (rw [rightE_ok, hL, hT]; simp [bodyE, kidsE, typedE, e1, e2, e3, e4, e5, hr, ht, ha, hin, len_eq0, len_ge1, len_eq1]; done)
           ·
            cases hb
         ·
          refine AT_seq_region fun K37 hK37 => ?_
          have hT : okT kd ta = true := by rw [hc2, List.drop_eq_nil_of_le hb24]; rfl
          simp [row_map, hb10, hb24, e1, e2, e3, e4, e5, hr, ht, ha0, hin]
          repeat refine sg ?_
          refine hK37 _ ?_
          clear hK37 K37
          refine AT_seq_k fun K38 hK38 => ?_
          refine AT_seq_region fun K39 hK39 => ?_
          simp [row_map, hb10, hb24, e1, e2, e3, e4, e5, hr, ht, ha0, hin]
          repeat refine sg ?_
          refine RVn_call (c_ref04x_Right g rnd (.mk tn tas tp) (by omega)) ?_
          simp [row_map, hb10, hb24, e1, e2, e3, e4, e5, hr, ht, ha0, hin]
          repeat refine sg ?_
          refine hK39 _ ?_
          clear hK39 K39
          refine AT_cond (b := false) (g := none) (by simp [hb10, hb24, e1, e2, e3, e4, e5, hr, ht, ha0, hin]) (fun hb => ?_) (fun hb => ?_)
          ·
           cases hb
          ·
           clear hb
           refine AT_skip ?_
           try simp only [nrm, reduceIte, Nat.reduceEqDiff]
           refine hK38 _ ?_
           refine AT_seq_k fun K40 hK40 => ?_
           refine AT_seq_region fun K41 hK41 => ?_
           simp [row_map, hb10, hb24, e1, e2, e3, e4, e5, hr, ht, ha0, hin]
           repeat refine sg ?_
           try (
            refine RVn_call (c_ref01x_Is g rnd n (by omega)) ?_
            simp [row_map, hb10, hb24, e1, e2, e3, e4, e5, hr, ht, ha0, hin]
            repeat refine sg ?_)
           refine hK41 _ ?_
           clear hK41 K41
           refine AT_cond (b := false) (g := none) (by simp [hb10, hb24, e1, e2, e3, e4, e5, hr, ht, ha0, hin]) (fun hb => ?_) (fun hb => ?_)
           ·
            cases hb
           ·
            clear hb
            refine AT_skip ?_
            try simp only [nrm, reduceIte, Nat.reduceEqDiff]
            refine hK40 _ ?_
            refine AT_seq_k fun K42 hK42 => ?_
            refine AT_seq_region fun K43 hK43 => ?_
            simp [row_map, hb10, hb24, e1, e2, e3, e4, e5, hr, ht, ha0, hin]
            repeat refine sg ?_
            refine hK43 _ ?_
            clear hK43 K43
            refine AT_block ?_
            refine AT_seq_region fun K44 hK44 => ?_
            simp [row_map, hb10, hb24, e1, e2, e3, e4, e5, hr, ht, ha0, hin]
            repeat refine sg ?_
            refine hK44 _ ?_
            clear hK44 K44
            refine AT_cond (b := true) (g := none) (by simp [hb10, hb24, e1, e2, e3, e4, e5, hr, ht, ha0, hin]) (fun hb => ?_) (fun hb => ?_)
            ·
             clear hb
             refine AT_seq_region fun K45 hK45 => ?_
             simp [row_map, hb10, hb24, e1, e2, e3, e4, e5, hr, ht, ha0, hin]
             repeat refine sg ?_
             refine hK45 _ ?_
             clear hK45 K45
             refine AT_ret ?_
             simp [row_map, Tryd.f11]
             first
             | (rw [rightE_ok, hc, hda, rightEs_cons, hb19]; rfl)
             | (rw [rightE_ok, hL, hc2, hdb, okT_cons, h2b]; rfl)
             | (rw [rightE_ok, hL, hc2, hdb, okT_cons, h2b, hrk]; rfl)
             | (rw [rightE_ok, hL, hT]; simp [bodyE, kidsE, typedE, e1, e2, e3, e4, e5, hr]; done)
             | (rw [rightE_ok, hL, hT]; simp [bodyE, kidsE, typedE, e1, e2, e3, e4, e5, hr, hn]; done)
             | (rw [rightE_ok, hL, hT]; simp [bodyE, kidsE, typedE, e1, e2, e3, e4, e5, rightT_ne hr]; done)
             | (rw [rightE_ok, hL, hT]; simp [bodyE, kidsE, typedE, e1, e2, e3, e4, e5, hr, hn, len_eq0, len_ge1, len_eq1]; done)
             | (rw [rightE_ok, hL, hT]; simp [bodyE, kidsE, typedE, e1, e2, e3, e4, e5, hr, ht]; done)
             | (rw [rightE_ok, hL, hT]; simp [bodyE, kidsE, typedE, e1, e2, e3, e4, e5, hr, ht, ha]; done)
             | (rw [rightE_ok, hL, hT]; simp [bodyE, kidsE, typedE, e1, e2, e3, e4, e5, hr, ht, ha, hin]; done)
             | (rw [rightE_ok, hL, hT]; simp [bodyE, kidsE, typedE, e1, e2, e3, e4, e5, hr, ht, ha, hin, len_eq0, len_ge1, len_eq1]; done)
            ·
             cases hb
      ·
       refine AT_seq_region fun K46 hK46 => ?_
       have hT : okT kd ta = true := by rw [hc2, List.drop_eq_nil_of_le hb24]; rfl
       simp [row_map, hb10, hb24, e1, e2, e3, e4, e5, hr]
       repeat refine sg ?_
       refine hK46 _ ?_
       clear hK46 K46
       refine AT_seq_k fun K47 hK47 => ?_
       refine AT_seq_region fun K48 hK48 => ?_
       simp [row_map, hb10, hb24, e1, e2, e3, e4, e5, hr]
       repeat refine sg ?_
       refine RVn_call (c_ref04x_Right g rnd (.mk tn tas tp) (by omega)) ?_
       simp [row_map, hb10, hb24, e1, e2, e3, e4, e5, hr]
       repeat refine sg ?_
       refine hK48 _ ?_
       clear hK48 K48
       refine AT_cond (b := true) (g := none) (by simp [hb10, hb24, e1, e2, e3, e4, e5, hr]) (fun hb => ?_) (fun hb => ?_)
       ·
        clear hb
        refine AT_seq_region fun K49 hK49 => ?_
        simp [row_map, hb10, hb24, e1, e2, e3, e4, e5, hr]
        repeat refine sg ?_
        refine hK49 _ ?_
        clear hK49 K49
        refine AT_ret ?_
        simp [row_map, Tryd.f11]
        first
        | (rw [rightE_ok, hc, hda, rightEs_cons, hb19]; rfl)
        | (rw [rightE_ok, hL, hc2, hdb, okT_cons, h2b]; rfl)
        | (rw [rightE_ok, hL, hc2, hdb, okT_cons, h2b, hrk]; rfl)
        | (rw [rightE_ok, hL, hT]; simp [bodyE, kidsE, typedE, e1, e2, e3, e4, e5, hr]; done)
        | (rw [rightE_ok, hL, hT]; simp [bodyE, kidsE, typedE, e1, e2, e3, e4, e5, hr, hn]; done)
        | (rw [rightE_ok, hL, hT]; simp [bodyE, kidsE, typedE, e1, e2, e3, e4, e5, rightT_ne hr]; done)
        | (rw [rightE_ok, hL, hT]; simp [bodyE, kidsE, typedE, e1, e2, e3, e4, e5, hr, hn, len_eq0, len_ge1, len_eq1]; done)
        | (rw [rightE_ok, hL, hT]; simp [bodyE, kidsE, typedE, e1, e2, e3, e4, e5, hr, ht]; done)
        | (rw [rightE_ok, hL, hT]; simp [bodyE, kidsE, typedE, e1, e2, e3, e4, e5, hr, ht, ha]; done)
        | (rw [rightE_ok, hL, hT]; simp [bodyE, kidsE, typedE, e1, e2, e3, e4, e5, hr, ht, ha, hin]; done)
        | (rw [rightE_ok, hL, hT]; simp [bodyE, kidsE, typedE, e1, e2, e3, e4, e5, hr, ht, ha, hin, len_eq0, len_ge1, len_eq1]; done)
       ·
        cases hb
     ·
      have e1 : (kd == 1) = false := by rw [hk]; rfl
      have e2 : (kd == 2) = true := by rw [hk]; rfl
      have e3 : (kd == 3) = false := by rw [hk]; rfl
      have e4 : (kd == 4) = false := by rw [hk]; rfl
      have e5 : (kd == 5) = false := by rw [hk]; rfl
      cases hr : (rightT (.mk tn tas tp))
      ·
       cases ht : tn.isEmpty
       ·
        refine AT_seq_region fun K50 hK50 => ?_
        have hT : okT kd ta = true := by rw [hc2, List.drop_eq_nil_of_le hb24]; rfl
        simp [row_map, hb10, hb24, e1, e2, e3, e4, e5, hr, ht]
        repeat refine sg ?_
        refine hK50 _ ?_
        clear hK50 K50
        refine AT_seq_k fun K51 hK51 => ?_
        refine AT_seq_region fun K52 hK52 => ?_
        simp [row_map, hb10, hb24, e1, e2, e3, e4, e5, hr, ht]
        repeat refine sg ?_
        refine RVn_call (c_ref04x_Right g rnd (.mk tn tas tp) (by omega)) ?_
        simp [row_map, hb10, hb24, e1, e2, e3, e4, e5, hr, ht]
        repeat refine sg ?_
        refine hK52 _ ?_
        clear hK52 K52
        refine AT_cond (b := true) (g := none) (by simp [hb10, hb24, e1, e2, e3, e4, e5, hr, ht]) (fun hb => ?_) (fun hb => ?_)
        ·
         clear hb
         refine AT_seq_region fun K53 hK53 => ?_
         simp [row_map, hb10, hb24, e1, e2, e3, e4, e5, hr, ht]
         repeat refine sg ?_
         refine hK53 _ ?_
         clear hK53 K53
         refine AT_ret ?_
         simp [row_map, Tryd.f11]
         first
         | (rw [rightE_ok, hc, hda, rightEs_cons, hb19]; rfl)
         | (rw [rightE_ok, hL, hc2, hdb, okT_cons, h2b]; rfl)
         | (rw [rightE_ok, hL, hc2, hdb, okT_cons, h2b, hrk]; rfl)
         | (rw [rightE_ok, hL, hT]; simp [bodyE, kidsE, typedE, e1, e2, e3, e4, e5, hr]; done)
         | (rw [rightE_ok, hL, hT]; simp [bodyE, kidsE, typedE, e1, e2, e3, e4, e5, hr, hn]; done)
         | (rw [rightE_ok, hL, hT]; simp [bodyE, kidsE, typedE, e1, e2, e3, e4, e5, rightT_ne hr]; done)
         | (rw [rightE_ok, hL, hT]; simp [bodyE, kidsE, typedE, e1, e2, e3, e4, e5, hr, hn, len_eq0, len_ge1, len_eq1]; done)
         | (rw [rightE_ok, hL, hT]; simp [bodyE, kidsE, typedE, e1, e2, e3, e4, e5, hr, ht]; done)
         | (rw [rightE_ok, hL, hT]; simp [bodyE, kidsE, typedE, e1, e2, e3, e4, e5, hr, ht, ha]; done)
         | (rw [rightE_ok, hL, hT]; simp [bodyE, kidsE, typedE, e1, e2, e3, e4, e5, hr, ht, ha, hin]; done)
         | (rw [rightE_ok, hL, hT]; simp [bodyE, kidsE, typedE, e1, e2, e3, e4, e5, hr, ht, ha, hin, len_eq0, len_ge1, len_eq1]; done)
        ·
         cases hb
       ·
        cases ha : tas.isEmpty
        ·
         have ha0 : 0 < tas.length := by cases tas with | nil => cases ha | cons x r => simp
         refine AT_seq_region fun K54 hK54 => ?_
         have hT : okT kd ta = true := by rw [hc2, List.drop_eq_nil_of_le hb24]; rfl
         simp [row_map, hb10, hb24, e1, e2, e3, e4, e5, hr, ht, ha0]
         repeat refine sg ?_
         refine hK54 _ ?_
         clear hK54 K54
         refine AT_seq_k fun K55 hK55 => ?_
         refine AT_seq_region fun K56 hK56 => ?_
         simp [row_map, hb10, hb24, e1, e2, e3, e4, e5, hr, ht, ha0]
         repeat refine sg ?_
         refine RVn_call (c_ref04x_Right g rnd (.mk tn tas tp) (by omega)) ?_
         simp [row_map, hb10, hb24, e1, e2, e3, e4, e5, hr, ht, ha0]
         repeat refine sg ?_
         refine hK56 _ ?_
         clear hK56 K56
         refine AT_cond (b := true) (g := none) (by simp [hb10, hb24, e1, e2, e3, e4, e5, hr, ht, ha0]) (fun hb => ?_) (fun hb => ?_)
         ·
          clear hb
          refine AT_seq_region fun K57 hK57 => ?_
          simp [row_map, hb10, hb24, e1, e2, e3, e4, e5, hr, ht, ha0]
          repeat refine sg ?_
          refine hK57 _ ?_
          clear hK57 K57
          refine AT_ret ?_
          simp [row_map, Tryd.f11]
          first
          | (rw [rightE_ok, hc, hda, rightEs_cons, hb19]; rfl)
          | (rw [rightE_ok, hL, hc2, hdb, okT_cons, h2b]; rfl)
          | (rw [rightE_ok, hL, hc2, hdb, okT_cons, h2b, hrk]; rfl)
          | (rw [rightE_ok, hL, hT]; simp [bodyE, kidsE, typedE, e1, e2, e3, e4, e5, hr]; done)
          | (rw [rightE_ok, hL, hT]; simp [bodyE, kidsE, typedE, e1, e2, e3, e4, e5, hr, hn]; done)
          | (rw [rightE_ok, hL, hT]; simp [bodyE, kidsE, typedE, e1, e2, e3, e4, e5, rightT_ne hr]; done)
          | (rw [rightE_ok, hL, hT]; simp [bodyE, kidsE, typedE, e1, e2, e3, e4, e5, hr, hn, len_eq0, len_ge1, len_eq1]; done)
          | (rw [rightE_ok, hL, hT]; simp [bodyE, kidsE, typedE, e1, e2, e3, e4, e5, hr, ht]; done)
          | (rw [rightE_ok, hL, hT]; simp [bodyE, kidsE, typedE, e1, e2, e3, e4, e5, hr, ht, ha]; done)
          | (rw [rightE_ok, hL, hT]; simp [bodyE, kidsE, typedE, e1, e2, e3, e4, e5, hr, ht, ha, hin]; done)
          | (rw [rightE_ok, hL, hT]; simp [bodyE, kidsE, typedE, e1, e2, e3, e4, e5, hr, ht, ha, hin, len_eq0, len_ge1, len_eq1]; done)
         ·
          cases hb
        ·
         have ha0 : ¬ 0 < tas.length := by rw [List.isEmpty_iff.1 ha]; decide
         cases hin : (isName n)
         ·
          refine AT_seq_region fun K58 hK58 => ?_
          have hT : okT kd ta = true := by rw [hc2, List.drop_eq_nil_of_le hb24]; rfl
          simp [row_map, hb10, hb24, e1, e2, e3, e4, e5, hr, ht, ha0, hin]
          repeat refine sg ?_
          refine hK58 _ ?_
          clear hK58 K58
          refine AT_seq_k fun K59 hK59 => ?_
          refine AT_seq_region fun K60 hK60 => ?_
          simp [row_map, hb10, hb24, e1, e2, e3, e4, e5, hr, ht, ha0, hin]
          repeat refine sg ?_
          refine RVn_call (c_ref04x_Right g rnd (.mk tn tas tp) (by omega)) ?_
          simp [row_map, hb10, hb24, e1, e2, e3, e4, e5, hr, ht, ha0, hin]
          repeat refine sg ?_
          refine hK60 _ ?_
          clear hK60 K60
          refine AT_cond (b := false) (g := none) (by simp [hb10, hb24, e1, e2, e3, e4, e5, hr, ht, ha0, hin]) (fun hb => ?_) (fun hb => ?_)
          ·
           cases hb
          ·
           clear hb
           refine AT_skip ?_
           try simp only [nrm, reduceIte, Nat.reduceEqDiff]
           refine hK59 _ ?_
           refine AT_seq_k fun K61 hK61 => ?_
           refine AT_seq_region fun K62 hK62 => ?_
           simp [row_map, hb10, hb24, e1, e2, e3, e4, e5, hr, ht, ha0, hin]
           repeat refine sg ?_
           try (
            refine RVn_call (c_ref01x_Is g rnd n (by omega)) ?_
            simp [row_map, hb10, hb24, e1, e2, e3, e4, e5, hr, ht, ha0, hin]
            repeat refine sg ?_)
           refine hK62 _ ?_
           clear hK62 K62
           refine AT_cond (b := true) (g := none) (by simp [hb10, hb24, e1, e2, e3, e4, e5, hr, ht, ha0, hin]) (fun hb => ?_) (fun hb => ?_)
           ·
            clear hb
            refine AT_seq_region fun K63 hK63 => ?_
            simp [row_map, hb10, hb24, e1, e2, e3, e4, e5, hr, ht, ha0, hin]
            repeat refine sg ?_
            refine hK63 _ ?_
            clear hK63 K63
            refine AT_ret ?_
            simp [row_map, Tryd.f11]
            first
            | (rw [rightE_ok, hc, hda, rightEs_cons, hb19]; rfl)
            | (rw [rightE_ok, hL, hc2, hdb, okT_cons, h2b]; rfl)
            | (rw [rightE_ok, hL, hc2, hdb, okT_cons, h2b, hrk]; rfl)
            | (rw [rightE_ok, hL, hT]; simp [bodyE, kidsE, typedE, e1, e2, e3, e4, e5, hr]; done)
            | (rw [rightE_ok, hL, hT]; simp [bodyE, kidsE, typedE, e1, e2, e3, e4, e5, hr, hn]; done)
            | (rw [rightE_ok, hL, hT]; simp [bodyE, kidsE, typedE, e1, e2, e3, e4, e5, rightT_ne hr]; done)
            | (rw [rightE_ok, hL, hT]; simp [bodyE, kidsE, typedE, e1, e2, e3, e4, e5, hr, hn, len_eq0, len_ge1, len_eq1]; done)
            | (rw [rightE_ok, hL, hT]; simp [bodyE, kidsE, typedE, e1, e2, e3, e4, e5, hr, ht]; done)
            | (rw [rightE_ok, hL, hT]; simp [bodyE, kidsE, typedE, e1, e2, e3, e4, e5, hr, ht, ha]; done)
            | (rw [rightE_ok, hL, hT]; simp [bodyE, kidsE, typedE, e1, e2, e3, e4, e5, hr, ht, ha, hin]; done)
            | (rw [rightE_ok, hL, hT]; simp [bodyE, kidsE, typedE, e1, e2, e3, e4, e5, hr, ht, ha, hin, len_eq0, len_ge1, len_eq1]; done)
           ·
            cases hb
         ·
          refine AT_seq_region fun K64 hK64 => ?_
          have hT : okT kd ta = true := by rw [hc2, List.drop_eq_nil_of_le hb24]; rfl
          simp [row_map, hb10, hb24, e1, e2, e3, e4, e5, hr, ht, ha0, hin]
          repeat refine sg ?_
          refine hK64 _ ?_
          clear hK64 K64
          refine AT_seq_k fun K65 hK65 => ?_
          refine AT_seq_region fun K66 hK66 => ?_
          simp [row_map, hb10, hb24, e1, e2, e3, e4, e5, hr, ht, ha0, hin]
          repeat refine sg ?_
          refine RVn_call (c_ref04x_Right g rnd (.mk tn tas tp) (by omega)) ?_
          simp [row_map, hb10, hb24, e1, e2, e3, e4, e5, hr, ht, ha0, hin]
          repeat refine sg ?_
          refine hK66 _ ?_
          clear hK66 K66
          refine AT_cond (b := false) (g := none) (by simp [hb10, hb24, e1, e2, e3, e4, e5, hr, ht, ha0, hin]) (fun hb => ?_) (fun hb => ?_)
          ·
           cases hb
          ·
           clear hb
           refine AT_skip ?_
           try simp only [nrm, reduceIte, Nat.reduceEqDiff]
           refine hK65 _ ?_
           refine AT_seq_k fun K67 hK67 => ?_
           refine AT_seq_region fun K68 hK68 => ?_
           simp [row_map, hb10, hb24, e1, e2, e3, e4, e5, hr, ht, ha0, hin]
           repeat refine sg ?_
           try (
            refine RVn_call (c_ref01x_Is g rnd n (by omega)) ?_
            simp [row_map, hb10, hb24, e1, e2, e3, e4, e5, hr, ht, ha0, hin]
            repeat refine sg ?_)
           refine hK68 _ ?_
           clear hK68 K68
           refine AT_cond (b := false) (g := none) (by simp [hb10, hb24, e1, e2, e3, e4, e5, hr, ht, ha0, hin]) (fun hb => ?_) (fun hb => ?_)
           ·
            cases hb
           ·
            clear hb
            refine AT_skip ?_
            try simp only [nrm, reduceIte, Nat.reduceEqDiff]
            refine hK67 _ ?_
            refine AT_seq_k fun K69 hK69 => ?_
            refine AT_seq_region fun K70 hK70 => ?_
            simp [row_map, hb10, hb24, e1, e2, e3, e4, e5, hr, ht, ha0, hin]
            repeat refine sg ?_
            refine hK70 _ ?_
            clear hK70 K70
            refine AT_block ?_
            refine AT_seq_region fun K71 hK71 => ?_
            simp [row_map, hb10, hb24, e1, e2, e3, e4, e5, hr, ht, ha0, hin]
            repeat refine sg ?_
            refine hK71 _ ?_
            clear hK71 K71
            refine AT_cond (b := false) (g := none) (by simp [hb10, hb24, e1, e2, e3, e4, e5, hr, ht, ha0, hin]) (fun hb => ?_) (fun hb => ?_)
            ·
             cases hb
            ·
             clear hb
             refine AT_seq_region fun K72 hK72 => ?_
             simp [row_map, hb10, hb24, e1, e2, e3, e4, e5, hr, ht, ha0, hin]
             repeat refine sg ?_
             refine hK72 _ ?_
             clear hK72 K72
             refine AT_cond (b := true) (g := none) (by simp [hb10, hb24, e1, e2, e3, e4, e5, hr, ht, ha0, hin]) (fun hb => ?_) (fun hb => ?_)
             ·
              clear hb
              refine AT_seq_region fun K73 hK73 => ?_
              simp [row_map, hb10, hb24, e1, e2, e3, e4, e5, hr, ht, ha0, hin]
              repeat refine sg ?_
              refine hK73 _ ?_
              clear hK73 K73
              refine AT_ret ?_
              simp [row_map, Tryd.f11]
              first
              | (rw [rightE_ok, hc, hda, rightEs_cons, hb19]; rfl)
              | (rw [rightE_ok, hL, hc2, hdb, okT_cons, h2b]; rfl)
              | (rw [rightE_ok, hL, hc2, hdb, okT_cons, h2b, hrk]; rfl)
              | (rw [rightE_ok, hL, hT]; simp [bodyE, kidsE, typedE, e1, e2, e3, e4, e5, hr]; done)
              | (rw [rightE_ok, hL, hT]; simp [bodyE, kidsE, typedE, e1, e2, e3, e4, e5, hr, hn]; done)
              | (rw [rightE_ok, hL, hT]; simp [bodyE, kidsE, typedE, e1, e2, e3, e4, e5, rightT_ne hr]; done)
              | (rw [rightE_ok, hL, hT]; simp [bodyE, kidsE, typedE, e1, e2, e3, e4, e5, hr, hn, len_eq0, len_ge1, len_eq1]; done)
              | (rw [rightE_ok, hL, hT]; simp [bodyE, kidsE, typedE, e1, e2, e3, e4, e5, hr, ht]; done)
              | (rw [rightE_ok, hL, hT]; simp [bodyE, kidsE, typedE, e1, e2, e3, e4, e5, hr, ht, ha]; done)
              | (rw [rightE_ok, hL, hT]; simp [bodyE, kidsE, typedE, e1, e2, e3, e4, e5, hr, ht, ha, hin]; done)
              | (rw [rightE_ok, hL, hT]; simp [bodyE, kidsE, typedE, e1, e2, e3, e4, e5, hr, ht, ha, hin, len_eq0, len_ge1, len_eq1]; done)
             ·
              cases hb
      ·
       refine AT_seq_region fun K74 hK74 => ?_
       have hT : okT kd ta = true := by rw [hc2, List.drop_eq_nil_of_le hb24]; rfl
       simp [row_map, hb10, hb24, e1, e2, e3, e4, e5, hr]
       repeat refine sg ?_
       refine hK74 _ ?_
       clear hK74 K74
       refine AT_seq_k fun K75 hK75 => ?_
       refine AT_seq_region fun K76 hK76 => ?_
       simp [row_map, hb10, hb24, e1, e2, e3, e4, e5, hr]
       repeat refine sg ?_
       refine RVn_call (c_ref04x_Right g rnd (.mk tn tas tp) (by omega)) ?_
       simp [row_map, hb10, hb24, e1, e2, e3, e4, e5, hr]
       repeat refine sg ?_
       refine hK76 _ ?_
       clear hK76 K76
       refine AT_cond (b := true) (g := none) (by simp [hb10, hb24, e1, e2, e3, e4, e5, hr]) (fun hb => ?_) (fun hb => ?_)
       ·
        clear hb
        refine AT_seq_region fun K77 hK77 => ?_
        simp [row_map, hb10, hb24, e1, e2, e3, e4, e5, hr]
        repeat refine sg ?_
        refine hK77 _ ?_
        clear hK77 K77
        refine AT_ret ?_
        simp [row_map, Tryd.f11]
        first
        | (rw [rightE_ok, hc, hda, rightEs_cons, hb19]; rfl)
        | (rw [rightE_ok, hL, hc2, hdb, okT_cons, h2b]; rfl)
        | (rw [rightE_ok, hL, hc2, hdb, okT_cons, h2b, hrk]; rfl)
        | (rw [rightE_ok, hL, hT]; simp [bodyE, kidsE, typedE, e1, e2, e3, e4, e5, hr]; done)
        | (rw [rightE_ok, hL, hT]; simp [bodyE, kidsE, typedE, e1, e2, e3, e4, e5, hr, hn]; done)
        | (rw [rightE_ok, hL, hT]; simp [bodyE, kidsE, typedE, e1, e2, e3, e4, e5, rightT_ne hr]; done)
        | (rw [rightE_ok, hL, hT]; simp [bodyE, kidsE, typedE, e1, e2, e3, e4, e5, hr, hn, len_eq0, len_ge1, len_eq1]; done)
        | (rw [rightE_ok, hL, hT]; simp [bodyE, kidsE, typedE, e1, e2, e3, e4, e5, hr, ht]; done)
        | (rw [rightE_ok, hL, hT]; simp [bodyE, kidsE, typedE, e1, e2, e3, e4, e5, hr, ht, ha]; done)
        | (rw [rightE_ok, hL, hT]; simp [bodyE, kidsE, typedE, e1, e2, e3, e4, e5, hr, ht, ha, hin]; done)
        | (rw [rightE_ok, hL, hT]; simp [bodyE, kidsE, typedE, e1, e2, e3, e4, e5, hr, ht, ha, hin, len_eq0, len_ge1, len_eq1]; done)
       ·
        cases hb
     ·
      have e1 : (kd == 1) = false := by rw [hk]; rfl
      have e2 : (kd == 2) = false := by rw [hk]; rfl
      have e3 : (kd == 3) = true := by rw [hk]; rfl
      have e4 : (kd == 4) = false := by rw [hk]; rfl
      have e5 : (kd == 5) = false := by rw [hk]; rfl
      cases hr : (rightT (.mk tn tas tp))
      ·
       refine AT_seq_region fun K78 hK78 => ?_
       have hT : okT kd ta = true := by rw [hc2, List.drop_eq_nil_of_le hb24]; rfl
       simp [row_map, hb10, hb24, e1, e2, e3, e4, e5, hr]
       repeat refine sg ?_
       refine hK78 _ ?_
       clear hK78 K78
       refine AT_seq_k fun K79 hK79 => ?_
       refine AT_seq_region fun K80 hK80 => ?_
       simp [row_map, hb10, hb24, e1, e2, e3, e4, e5, hr]
       repeat refine sg ?_
       refine RVn_call (c_ref04x_Right g rnd (.mk tn tas tp) (by omega)) ?_
       simp [row_map, hb10, hb24, e1, e2, e3, e4, e5, hr]
       repeat refine sg ?_
       refine hK80 _ ?_
       clear hK80 K80
       refine AT_cond (b := true) (g := none) (by simp [hb10, hb24, e1, e2, e3, e4, e5, hr]) (fun hb => ?_) (fun hb => ?_)
       ·
        clear hb
        refine AT_seq_region fun K81 hK81 => ?_
        simp [row_map, hb10, hb24, e1, e2, e3, e4, e5, hr]
        repeat refine sg ?_
        refine hK81 _ ?_
        clear hK81 K81
        refine AT_ret ?_
        simp [row_map, Tryd.f11]
        first
        | (rw [rightE_ok, hc, hda, rightEs_cons, hb19]; rfl)
        | (rw [rightE_ok, hL, hc2, hdb, okT_cons, h2b]; rfl)
        | (rw [rightE_ok, hL, hc2, hdb, okT_cons, h2b, hrk]; rfl)
        | (rw [rightE_ok, hL, hT]; simp [bodyE, kidsE, typedE, e1, e2, e3, e4, e5, hr]; done)
        | (rw [rightE_ok, hL, hT]; simp [bodyE, kidsE, typedE, e1, e2, e3, e4, e5, hr, hn]; done)
        | (rw [rightE_ok, hL, hT]; simp [bodyE, kidsE, typedE, e1, e2, e3, e4, e5, rightT_ne hr]; done)
        | (rw [rightE_ok, hL, hT]; simp [bodyE, kidsE, typedE, e1, e2, e3, e4, e5, hr, hn, len_eq0, len_ge1, len_eq1]; done)
        | (rw [rightE_ok, hL, hT]; simp [bodyE, kidsE, typedE, e1, e2, e3, e4, e5, hr, ht]; done)
        | (rw [rightE_ok, hL, hT]; simp [bodyE, kidsE, typedE, e1, e2, e3, e4, e5, hr, ht, ha]; done)
        | (rw [rightE_ok, hL, hT]; simp [bodyE, kidsE, typedE, e1, e2, e3, e4, e5, hr, ht, ha, hin]; done)
        | (rw [rightE_ok, hL, hT]; simp [bodyE, kidsE, typedE, e1, e2, e3, e4, e5, hr, ht, ha, hin, len_eq0, len_ge1, len_eq1]; done)
       ·
        cases hb
      ·
       cases hn : (n.isEmpty)
       ·
        have hn0 : ¬ n = [] := by rw [← List.isEmpty_iff, hn]; decide
        refine AT_seq_region fun K82 hK82 => ?_
        have hT : okT kd ta = true := by rw [hc2, List.drop_eq_nil_of_le hb24]; rfl
        simp [row_map, hb10, hb24, e1, e2, e3, e4, e5, hr, hn]
        repeat refine sg ?_
        refine hK82 _ ?_
        clear hK82 K82
        refine AT_seq_k fun K83 hK83 => ?_
        refine AT_seq_region fun K84 hK84 => ?_
        simp [row_map, hb10, hb24, e1, e2, e3, e4, e5, hr, hn]
        repeat refine sg ?_
        refine RVn_call (c_ref04x_Right g rnd (.mk tn tas tp) (by omega)) ?_
        simp [row_map, hb10, hb24, e1, e2, e3, e4, e5, hr, hn]
        repeat refine sg ?_
        refine hK84 _ ?_
        clear hK84 K84
        refine AT_cond (b := false) (g := none) (by simp [hb10, hb24, e1, e2, e3, e4, e5, hr, hn]) (fun hb => ?_) (fun hb => ?_)
        ·
         cases hb
        ·
         clear hb
         refine AT_skip ?_
         try simp only [nrm, reduceIte, Nat.reduceEqDiff]
         refine hK83 _ ?_
         refine AT_seq_k fun K85 hK85 => ?_
         refine AT_seq_region fun K86 hK86 => ?_
         simp [row_map, hb10, hb24, e1, e2, e3, e4, e5, hr, hn]
         repeat refine sg ?_
         try (
          refine RVn_call (c_ref01x_Is g rnd n (by omega)) ?_
          simp [row_map, hb10, hb24, e1, e2, e3, e4, e5, hr, hn]
          repeat refine sg ?_)
         refine hK86 _ ?_
         clear hK86 K86
         refine AT_cond (b := true) (g := none) (by simp [hb10, hb24, e1, e2, e3, e4, e5, hr, hn]) (fun hb => ?_) (fun hb => ?_)
         ·
          clear hb
          refine AT_seq_region fun K87 hK87 => ?_
          simp [row_map, hb10, hb24, e1, e2, e3, e4, e5, hr, hn]
          repeat refine sg ?_
          refine hK87 _ ?_
          clear hK87 K87
          refine AT_ret ?_
          simp [row_map, Tryd.f11]
          first
          | (rw [rightE_ok, hc, hda, rightEs_cons, hb19]; rfl)
          | (rw [rightE_ok, hL, hc2, hdb, okT_cons, h2b]; rfl)
          | (rw [rightE_ok, hL, hc2, hdb, okT_cons, h2b, hrk]; rfl)
          | (rw [rightE_ok, hL, hT]; simp [bodyE, kidsE, typedE, e1, e2, e3, e4, e5, hr]; done)
          | (rw [rightE_ok, hL, hT]; simp [bodyE, kidsE, typedE, e1, e2, e3, e4, e5, hr, hn]; done)
          | (rw [rightE_ok, hL, hT]; simp [bodyE, kidsE, typedE, e1, e2, e3, e4, e5, rightT_ne hr]; done)
          | (rw [rightE_ok, hL, hT]; simp [bodyE, kidsE, typedE, e1, e2, e3, e4, e5, hr, hn, len_eq0, len_ge1, len_eq1]; done)
          | (rw [rightE_ok, hL, hT]; simp [bodyE, kidsE, typedE, e1, e2, e3, e4, e5, hr, ht]; done)
          | (rw [rightE_ok, hL, hT]; simp [bodyE, kidsE, typedE, e1, e2, e3, e4, e5, hr, ht, ha]; done)
          | (rw [rightE_ok, hL, hT]; simp [bodyE, kidsE, typedE, e1, e2, e3, e4, e5, hr, ht, ha, hin]; done)
          | (rw [rightE_ok, hL, hT]; simp [bodyE, kidsE, typedE, e1, e2, e3, e4, e5, hr, ht, ha, hin, len_eq0, len_ge1, len_eq1]; done)
         ·
          cases hb
       ·
        have hn0 : n = [] := List.isEmpty_iff.1 hn
        refine AT_seq_region fun K88 hK88 => ?_
        have hT : okT kd ta = true := by rw [hc2, List.drop_eq_nil_of_le hb24]; rfl
        simp [row_map, hb10, hb24, e1, e2, e3, e4, e5, hr, hn]
        repeat refine sg ?_
        refine hK88 _ ?_
        clear hK88 K88
        refine AT_seq_k fun K89 hK89 => ?_
        refine AT_seq_region fun K90 hK90 => ?_
        simp [row_map, hb10, hb24, e1, e2, e3, e4, e5, hr, hn]
        repeat refine sg ?_
        refine RVn_call (c_ref04x_Right g rnd (.mk tn tas tp) (by omega)) ?_
        simp [row_map, hb10, hb24, e1, e2, e3, e4, e5, hr, hn]
        repeat refine sg ?_
        refine hK90 _ ?_
        clear hK90 K90
        refine AT_cond (b := false) (g := none) (by simp [hb10, hb24, e1, e2, e3, e4, e5, hr, hn]) (fun hb => ?_) (fun hb => ?_)
        ·
         cases hb
        ·
         clear hb
         refine AT_skip ?_
         try simp only [nrm, reduceIte, Nat.reduceEqDiff]
         refine hK89 _ ?_
         refine AT_seq_k fun K91 hK91 => ?_
         refine AT_seq_region fun K92 hK92 => ?_
         simp [row_map, hb10, hb24, e1, e2, e3, e4, e5, hr, hn]
         repeat refine sg ?_
         try (
          refine RVn_call (c_ref01x_Is g rnd n (by omega)) ?_
          simp [row_map, hb10, hb24, e1, e2, e3, e4, e5, hr, hn]
          repeat refine sg ?_)
         refine hK92 _ ?_
         clear hK92 K92
         refine AT_cond (b := false) (g := none) (by simp [hb10, hb24, e1, e2, e3, e4, e5, hr, hn]) (fun hb => ?_) (fun hb => ?_)
         ·
          cases hb
         ·
          clear hb
          refine AT_skip ?_
          try simp only [nrm, reduceIte, Nat.reduceEqDiff]
          refine hK91 _ ?_
          refine AT_seq_k fun K93 hK93 => ?_
          refine AT_seq_region fun K94 hK94 => ?_
          simp [row_map, hb10, hb24, e1, e2, e3, e4, e5, hr, hn]
          repeat refine sg ?_
          refine hK94 _ ?_
          clear hK94 K94
          refine AT_block ?_
          refine AT_seq_region fun K95 hK95 => ?_
          simp [row_map, hb10, hb24, e1, e2, e3, e4, e5, hr, hn]
          repeat refine sg ?_
          refine hK95 _ ?_
          clear hK95 K95
          refine AT_cond (b := false) (g := none) (by simp [hb10, hb24, e1, e2, e3, e4, e5, hr, hn]) (fun hb => ?_) (fun hb => ?_)
          ·
           cases hb
          ·
           clear hb
           refine AT_seq_region fun K96 hK96 => ?_
           simp [row_map, hb10, hb24, e1, e2, e3, e4, e5, hr, hn]
           repeat refine sg ?_
           refine hK96 _ ?_
           clear hK96 K96
           refine AT_cond (b := false) (g := none) (by simp [hb10, hb24, e1, e2, e3, e4, e5, hr, hn]) (fun hb => ?_) (fun hb => ?_)
           ·
            cases hb
           ·
            clear hb
            refine AT_seq_region fun K97 hK97 => ?_
            simp [row_map, hb10, hb24, e1, e2, e3, e4, e5, hr, hn]
            repeat refine sg ?_
            refine hK97 _ ?_
            clear hK97 K97
            refine AT_cond (b := true) (g := none) (by simp [hb10, hb24, e1, e2, e3, e4, e5, hr, hn]) (fun hb => ?_) (fun hb => ?_)
            ·
             clear hb
             refine AT_seq_region fun K98 hK98 => ?_
             simp [row_map, hb10, hb24, e1, e2, e3, e4, e5, hr, hn]
             repeat refine sg ?_
             refine hK98 _ ?_
             clear hK98 K98
             refine AT_ret ?_
             simp [row_map, Tryd.f11]
             first
             | (rw [rightE_ok, hc, hda, rightEs_cons, hb19]; rfl)
             | (rw [rightE_ok, hL, hc2, hdb, okT_cons, h2b]; rfl)
             | (rw [rightE_ok, hL, hc2, hdb, okT_cons, h2b, hrk]; rfl)
             | (rw [rightE_ok, hL, hT]; simp [bodyE, kidsE, typedE, e1, e2, e3, e4, e5, hr]; done)
             | (rw [rightE_ok, hL, hT]; simp [bodyE, kidsE, typedE, e1, e2, e3, e4, e5, hr, hn]; done)
             | (rw [rightE_ok, hL, hT]; simp [bodyE, kidsE, typedE, e1, e2, e3, e4, e5, rightT_ne hr]; done)
             | (rw [rightE_ok, hL, hT]; simp [bodyE, kidsE, typedE, e1, e2, e3, e4, e5, hr, hn, len_eq0, len_ge1, len_eq1]; done)
             | (rw [rightE_ok, hL, hT]; simp [bodyE, kidsE, typedE, e1, e2, e3, e4, e5, hr, ht]; done)
             | (rw [rightE_ok, hL, hT]; simp [bodyE, kidsE, typedE, e1, e2, e3, e4, e5, hr, ht, ha]; done)
             | (rw [rightE_ok, hL, hT]; simp [bodyE, kidsE, typedE, e1, e2, e3, e4, e5, hr, ht, ha, hin]; done)
             | (rw [rightE_ok, hL, hT]; simp [bodyE, kidsE, typedE, e1, e2, e3, e4, e5, hr, ht, ha, hin, len_eq0, len_ge1, len_eq1]; done)
            ·
             cases hb
     ·
      have e1 : (kd == 1) = false := by rw [hk]; rfl
      have e2 : (kd == 2) = false := by rw [hk]; rfl
      have e3 : (kd == 3) = false := by rw [hk]; rfl
      have e4 : (kd == 4) = true := by rw [hk]; rfl
      have e5 : (kd == 5) = false := by rw [hk]; rfl
      cases hr : (rightT (.mk tn tas tp))
      ·
       cases ht : tn.isEmpty
       ·
        refine AT_seq_region fun K99 hK99 => ?_
        have hT : okT kd ta = true := by rw [hc2, List.drop_eq_nil_of_le hb24]; rfl
        simp [row_map, hb10, hb24, e1, e2, e3, e4, e5, hr, ht]
        repeat refine sg ?_
        refine hK99 _ ?_
        clear hK99 K99
        refine AT_seq_k fun K100 hK100 => ?_
        refine AT_seq_region fun K101 hK101 => ?_
        simp [row_map, hb10, hb24, e1, e2, e3, e4, e5, hr, ht]
        repeat refine sg ?_
        refine RVn_call (c_ref04x_Right g rnd (.mk tn tas tp) (by omega)) ?_
        simp [row_map, hb10, hb24, e1, e2, e3, e4, e5, hr, ht]
        repeat refine sg ?_
        refine hK101 _ ?_
        clear hK101 K101
        refine AT_cond (b := true) (g := none) (by simp [hb10, hb24, e1, e2, e3, e4, e5, hr, ht]) (fun hb => ?_) (fun hb => ?_)
        ·
         clear hb
         refine AT_seq_region fun K102 hK102 => ?_
         simp [row_map, hb10, hb24, e1, e2, e3, e4, e5, hr, ht]
         repeat refine sg ?_
         refine hK102 _ ?_
         clear hK102 K102
         refine AT_ret ?_
         simp [row_map, Tryd.f11]
         first
         | (rw [rightE_ok, hc, hda, rightEs_cons, hb19]; rfl)
         | (rw [rightE_ok, hL, hc2, hdb, okT_cons, h2b]; rfl)
         | (rw [rightE_ok, hL, hc2, hdb, okT_cons, h2b, hrk]; rfl)
         | (rw [rightE_ok, hL, hT]; simp [bodyE, kidsE, typedE, e1, e2, e3, e4, e5, hr]; done)
         | (rw [rightE_ok, hL, hT]; simp [bodyE, kidsE, typedE, e1, e2, e3, e4, e5, hr, hn]; done)
         | (rw [rightE_ok, hL, hT]; simp [bodyE, kidsE, typedE, e1, e2, e3, e4, e5, rightT_ne hr]; done)
         | (rw [rightE_ok, hL, hT]; simp [bodyE, kidsE, typedE, e1, e2, e3, e4, e5, hr, hn, len_eq0, len_ge1, len_eq1]; done)
         | (rw [rightE_ok, hL, hT]; simp [bodyE, kidsE, typedE, e1, e2, e3, e4, e5, hr, ht]; done)
         | (rw [rightE_ok, hL, hT]; simp [bodyE, kidsE, typedE, e1, e2, e3, e4, e5, hr, ht, ha]; done)
         | (rw [rightE_ok, hL, hT]; simp [bodyE, kidsE, typedE, e1, e2, e3, e4, e5, hr, ht, ha, hin]; done)
         | (rw [rightE_ok, hL, hT]; simp [bodyE, kidsE, typedE, e1, e2, e3, e4, e5, hr, ht, ha, hin, len_eq0, len_ge1, len_eq1]; done)
        ·
         cases hb
       ·
        cases ha : tas.isEmpty
        ·
         have ha0 : 0 < tas.length := by cases tas with | nil => cases ha | cons x r => simp
         refine AT_seq_region fun K103 hK103 => ?_
         have hT : okT kd ta = true := by rw [hc2, List.drop_eq_nil_of_le hb24]; rfl
         simp [row_map, hb10, hb24, e1, e2, e3, e4, e5, hr, ht, ha0]
         repeat refine sg ?_
         refine hK103 _ ?_
         clear hK103 K103
         refine AT_seq_k fun K104 hK104 => ?_
         refine AT_seq_region fun K105 hK105 => ?_
         simp [row_map, hb10, hb24, e1, e2, e3, e4, e5, hr, ht, ha0]
         repeat refine sg ?_
         refine RVn_call (c_ref04x_Right g rnd (.mk tn tas tp) (by omega)) ?_
         simp [row_map, hb10, hb24, e1, e2, e3, e4, e5, hr, ht, ha0]
         repeat refine sg ?_
         refine hK105 _ ?_
         clear hK105 K105
         refine AT_cond (b := true) (g := none) (by simp [hb10, hb24, e1, e2, e3, e4, e5, hr, ht, ha0]) (fun hb => ?_) (fun hb => ?_)
         ·
          clear hb
          refine AT_seq_region fun K106 hK106 => ?_
          simp [row_map, hb10, hb24, e1, e2, e3, e4, e5, hr, ht, ha0]
          repeat refine sg ?_
          refine hK106 _ ?_
          clear hK106 K106
          refine AT_ret ?_
          simp [row_map, Tryd.f11]
          first
          | (rw [rightE_ok, hc, hda, rightEs_cons, hb19]; rfl)
          | (rw [rightE_ok, hL, hc2, hdb, okT_cons, h2b]; rfl)
          | (rw [rightE_ok, hL, hc2, hdb, okT_cons, h2b, hrk]; rfl)
          | (rw [rightE_ok, hL, hT]; simp [bodyE, kidsE, typedE, e1, e2, e3, e4, e5, hr]; done)
          | (rw [rightE_ok, hL, hT]; simp [bodyE, kidsE, typedE, e1, e2, e3, e4, e5, hr, hn]; done)
          | (rw [rightE_ok, hL, hT]; simp [bodyE, kidsE, typedE, e1, e2, e3, e4, e5, rightT_ne hr]; done)
          | (rw [rightE_ok, hL, hT]; simp [bodyE, kidsE, typedE, e1, e2, e3, e4, e5, hr, hn, len_eq0, len_ge1, len_eq1]; done)
          | (rw [rightE_ok, hL, hT]; simp [bodyE, kidsE, typedE, e1, e2, e3, e4, e5, hr, ht]; done)
          | (rw [rightE_ok, hL, hT]; simp [bodyE, kidsE, typedE, e1, e2, e3, e4, e5, hr, ht, ha]; done)
          | (rw [rightE_ok, hL, hT]; simp [bodyE, kidsE, typedE, e1, e2, e3, e4, e5, hr, ht, ha, hin]; done)
          | (rw [rightE_ok, hL, hT]; simp [bodyE, kidsE, typedE, e1, e2, e3, e4, e5, hr, ht, ha, hin, len_eq0, len_ge1, len_eq1]; done)
         ·
          cases hb
        ·
         have ha0 : ¬ 0 < tas.length := by rw [List.isEmpty_iff.1 ha]; decide
         cases hin : (isName n)
         ·
          refine AT_seq_region fun K107 hK107 => ?_
          have hT : okT kd ta = true := by rw [hc2, List.drop_eq_nil_of_le hb24]; rfl
          simp [row_map, hb10, hb24, e1, e2, e3, e4, e5, hr, ht, ha0, hin]
          repeat refine sg ?_
          refine hK107 _ ?_
          clear hK107 K107
          refine AT_seq_k fun K108 hK108 => ?_
          refine AT_seq_region fun K109 hK109 => ?_
          simp [row_map, hb10, hb24, e1, e2, e3, e4, e5, hr, ht, ha0, hin]
          repeat refine sg ?_
          refine RVn_call (c_ref04x_Right g rnd (.mk tn tas tp) (by omega)) ?_
          simp [row_map, hb10, hb24, e1, e2, e3, e4, e5, hr, ht, ha0, hin]
          repeat refine sg ?_
          refine hK109 _ ?_
          clear hK109 K109
          refine AT_cond (b := false) (g := none) (by simp [hb10, hb24, e1, e2, e3, e4, e5, hr, ht, ha0, hin]) (fun hb => ?_) (fun hb => ?_)
          ·
           cases hb
          ·
           clear hb
           refine AT_skip ?_
           try simp only [nrm, reduceIte, Nat.reduceEqDiff]
           refine hK108 _ ?_
           refine AT_seq_k fun K110 hK110 => ?_
           refine AT_seq_region fun K111 hK111 => ?_
           simp [row_map, hb10, hb24, e1, e2, e3, e4, e5, hr, ht, ha0, hin]
           repeat refine sg ?_
           try (
            refine RVn_call (c_ref01x_Is g rnd n (by omega)) ?_
            simp [row_map, hb10, hb24, e1, e2, e3, e4, e5, hr, ht, ha0, hin]
            repeat refine sg ?_)
           refine hK111 _ ?_
           clear hK111 K111
           refine AT_cond (b := true) (g := none) (by simp [hb10, hb24, e1, e2, e3, e4, e5, hr, ht, ha0, hin]) (fun hb => ?_) (fun hb => ?_)
           ·
            clear hb
            refine AT_seq_region fun K112 hK112 => ?_
            simp [row_map, hb10, hb24, e1, e2, e3, e4, e5, hr, ht, ha0, hin]
            repeat refine sg ?_
            refine hK112 _ ?_
            clear hK112 K112
            refine AT_ret ?_
            simp [row_map, Tryd.f11]
            first
            | (rw [rightE_ok, hc, hda, rightEs_cons, hb19]; rfl)
            | (rw [rightE_ok, hL, hc2, hdb, okT_cons, h2b]; rfl)
            | (rw [rightE_ok, hL, hc2, hdb, okT_cons, h2b, hrk]; rfl)
            | (rw [rightE_ok, hL, hT]; simp [bodyE, kidsE, typedE, e1, e2, e3, e4, e5, hr]; done)
            | (rw [rightE_ok, hL, hT]; simp [bodyE, kidsE, typedE, e1, e2, e3, e4, e5, hr, hn]; done)
            | (rw [rightE_ok, hL, hT]; simp [bodyE, kidsE, typedE, e1, e2, e3, e4, e5, rightT_ne hr]; done)
            | (rw [rightE_ok, hL, hT]; simp [bodyE, kidsE, typedE, e1, e2, e3, e4, e5, hr, hn, len_eq0, len_ge1, len_eq1]; done)
            | (rw [rightE_ok, hL, hT]; simp [bodyE, kidsE, typedE, e1, e2, e3, e4, e5, hr, ht]; done)
            | (rw [rightE_ok, hL, hT]; simp [bodyE, kidsE, typedE, e1, e2, e3, e4, e5, hr, ht, ha]; done)
            | (rw [rightE_ok, hL, hT]; simp [bodyE, kidsE, typedE, e1, e2, e3, e4, e5, hr, ht, ha, hin]; done)
            | (rw [rightE_ok, hL, hT]; simp [bodyE, kidsE, typedE, e1, e2, e3, e4, e5, hr, ht, ha, hin, len_eq0, len_ge1, len_eq1]; done)
           ·
            cases hb
         ·
          refine AT_seq_region fun K113 hK113 => ?_
          have hT : okT kd ta = true := by rw [hc2, List.drop_eq_nil_of_le hb24]; rfl
          simp [row_map, hb10, hb24, e1, e2, e3, e4, e5, hr, ht, ha0, hin]
          repeat refine sg ?_
          refine hK113 _ ?_
          clear hK113 K113
          refine AT_seq_k fun K114 hK114 => ?_
          refine AT_seq_region fun K115 hK115 => ?_
          simp [row_map, hb10, hb24, e1, e2, e3, e4, e5, hr, ht, ha0, hin]
          repeat refine sg ?_
          refine RVn_call (c_ref04x_Right g rnd (.mk tn tas tp) (by omega)) ?_
          simp [row_map, hb10, hb24, e1, e2, e3, e4, e5, hr, ht, ha0, hin]
          repeat refine sg ?_
          refine hK115 _ ?_
          clear hK115 K115
          refine AT_cond (b := false) (g := none) (by simp [hb10, hb24, e1, e2, e3, e4, e5, hr, ht, ha0, hin]) (fun hb => ?_) (fun hb => ?_)
          ·
           cases hb
          ·
           clear hb
           refine AT_skip ?_
           try simp only [nrm, reduceIte, Nat.reduceEqDiff]
           refine hK114 _ ?_
           refine AT_seq_k fun K116 hK116 => ?_
           refine AT_seq_region fun K117 hK117 => ?_
           simp [row_map, hb10, hb24, e1, e2, e3, e4, e5, hr, ht, ha0, hin]
           repeat refine sg ?_
           try (
            refine RVn_call (c_ref01x_Is g rnd n (by omega)) ?_
            simp [row_map, hb10, hb24, e1, e2, e3, e4, e5, hr, ht, ha0, hin]
            repeat refine sg ?_)
           refine hK117 _ ?_
           clear hK117 K117
           refine AT_cond (b := false) (g := none) (by simp [hb10, hb24, e1, e2, e3, e4, e5, hr, ht, ha0, hin]) (fun hb => ?_) (fun hb => ?_)
           ·
            cases hb
           ·
            clear hb
            refine AT_skip ?_
            try simp only [nrm, reduceIte, Nat.reduceEqDiff]
            refine hK116 _ ?_
            refine AT_seq_k fun K118 hK118 => ?_
            refine AT_seq_region fun K119 hK119 => ?_
            simp [row_map, hb10, hb24, e1, e2, e3, e4, e5, hr, ht, ha0, hin]
            repeat refine sg ?_
            refine hK119 _ ?_
            clear hK119 K119
            refine AT_block ?_
            refine AT_seq_region fun K120 hK120 => ?_
            simp [row_map, hb10, hb24, e1, e2, e3, e4, e5, hr, ht, ha0, hin]
            repeat refine sg ?_
            refine hK120 _ ?_
            clear hK120 K120
            refine AT_cond (b := false) (g := none) (by simp [hb10, hb24, e1, e2, e3, e4, e5, hr, ht, ha0, hin]) (fun hb => ?_) (fun hb => ?_)
            ·
             cases hb
            ·
             clear hb
             refine AT_seq_region fun K121 hK121 => ?_
             simp [row_map, hb10, hb24, e1, e2, e3, e4, e5, hr, ht, ha0, hin]
             repeat refine sg ?_
             refine hK121 _ ?_
             clear hK121 K121
             refine AT_cond (b := false) (g := none) (by simp [hb10, hb24, e1, e2, e3, e4, e5, hr, ht, ha0, hin]) (fun hb => ?_) (fun hb => ?_)
             ·
              cases hb
             ·
              clear hb
              refine AT_seq_region fun K122 hK122 => ?_
              simp [row_map, hb10, hb24, e1, e2, e3, e4, e5, hr, ht, ha0, hin]
              repeat refine sg ?_
              refine hK122 _ ?_
              clear hK122 K122
              refine AT_cond (b := false) (g := none) (by simp [hb10, hb24, e1, e2, e3, e4, e5, hr, ht, ha0, hin]) (fun hb => ?_) (fun hb => ?_)
              ·
               cases hb
              ·
               clear hb
               refine AT_seq_k fun K123 hK123 => ?_
               refine AT_seq_region fun K124 hK124 => ?_
               simp [row_map, hb10, hb24, e1, e2, e3, e4, e5, hr, ht, ha0, hin]
               repeat refine sg ?_
               refine hK124 _ ?_
               clear hK124 K124
               refine AT_cond (b := true) (g := none) (by simp [hb10, hb24, e1, e2, e3, e4, e5, hr, ht, ha0, hin]) (fun hb => ?_) (fun hb => ?_)
               ·
                clear hb
                refine AT_skip ?_
                try simp only [nrm, reduceIte, Nat.reduceEqDiff]
                refine hK123 _ ?_
                refine AT_cond (b := true) (g := none) (by simp [hb10, hb24, e1, e2, e3, e4, e5, hr, ht, ha0, hin]) (fun hb => ?_) (fun hb => ?_)
                ·
                 clear hb
                 refine AT_seq_region fun K125 hK125 => ?_
                 simp [row_map, hb10, hb24, e1, e2, e3, e4, e5, hr, ht, ha0, hin]
                 repeat refine sg ?_
                 refine hK125 _ ?_
                 clear hK125 K125
                 refine AT_ret ?_
                 simp [row_map, Tryd.f11]
                 first
                 | (rw [rightE_ok, hc, hda, rightEs_cons, hb19]; rfl)
                 | (rw [rightE_ok, hL, hc2, hdb, okT_cons, h2b]; rfl)
                 | (rw [rightE_ok, hL, hc2, hdb, okT_cons, h2b, hrk]; rfl)
                 | (rw [rightE_ok, hL, hT]; simp [bodyE, kidsE, typedE, e1, e2, e3, e4, e5, hr]; done)
                 | (rw [rightE_ok, hL, hT]; simp [bodyE, kidsE, typedE, e1, e2, e3, e4, e5, hr, hn]; done)
                 | (rw [rightE_ok, hL, hT]; simp [bodyE, kidsE, typedE, e1, e2, e3, e4, e5, rightT_ne hr]; done)
                 | (rw [rightE_ok, hL, hT]; simp [bodyE, kidsE, typedE, e1, e2, e3, e4, e5, hr, hn, len_eq0, len_ge1, len_eq1]; done)
                 | (rw [rightE_ok, hL, hT]; simp [bodyE, kidsE, typedE, e1, e2, e3, e4, e5, hr, ht]; done)
                 | (rw [rightE_ok, hL, hT]; simp [bodyE, kidsE, typedE, e1, e2, e3, e4, e5, hr, ht, ha]; done)
                 | (rw [rightE_ok, hL, hT]; simp [bodyE, kidsE, typedE, e1, e2, e3, e4, e5, hr, ht, ha, hin]; done)
                 | (rw [rightE_ok, hL, hT]; simp [bodyE, kidsE, typedE, e1, e2, e3, e4, e5, hr, ht, ha, hin, len_eq0, len_ge1, len_eq1]; done)
                ·
                 cases hb
               ·
                cases hb
      ·
       refine AT_seq_region fun K126 hK126 => ?_
       have hT : okT kd ta = true := by rw [hc2, List.drop_eq_nil_of_le hb24]; rfl
       simp [row_map, hb10, hb24, e1, e2, e3, e4, e5, hr]
       repeat refine sg ?_
       refine hK126 _ ?_
       clear hK126 K126
       refine AT_seq_k fun K127 hK127 => ?_
       refine AT_seq_region fun K128 hK128 => ?_
       simp [row_map, hb10, hb24, e1, e2, e3, e4, e5, hr]
       repeat refine sg ?_
       refine RVn_call (c_ref04x_Right g rnd (.mk tn tas tp) (by omega)) ?_
       simp [row_map, hb10, hb24, e1, e2, e3, e4, e5, hr]
       repeat refine sg ?_
       refine hK128 _ ?_
       clear hK128 K128
       refine AT_cond (b := true) (g := none) (by simp [hb10, hb24, e1, e2, e3, e4, e5, hr]) (fun hb => ?_) (fun hb => ?_)
       ·
        clear hb
        refine AT_seq_region fun K129 hK129 => ?_
        simp [row_map, hb10, hb24, e1, e2, e3, e4, e5, hr]
        repeat refine sg ?_
        refine hK129 _ ?_
        clear hK129 K129
        refine AT_ret ?_
        simp [row_map, Tryd.f11]
        first
        | (rw [rightE_ok, hc, hda, rightEs_cons, hb19]; rfl)
        | (rw [rightE_ok, hL, hc2, hdb, okT_cons, h2b]; rfl)
        | (rw [rightE_ok, hL, hc2, hdb, okT_cons, h2b, hrk]; rfl)
        | (rw [rightE_ok, hL, hT]; simp [bodyE, kidsE, typedE, e1, e2, e3, e4, e5, hr]; done)
        | (rw [rightE_ok, hL, hT]; simp [bodyE, kidsE, typedE, e1, e2, e3, e4, e5, hr, hn]; done)
        | (rw [rightE_ok, hL, hT]; simp [bodyE, kidsE, typedE, e1, e2, e3, e4, e5, rightT_ne hr]; done)
        | (rw [rightE_ok, hL, hT]; simp [bodyE, kidsE, typedE, e1, e2, e3, e4, e5, hr, hn, len_eq0, len_ge1, len_eq1]; done)
        | (rw [rightE_ok, hL, hT]; simp [bodyE, kidsE, typedE, e1, e2, e3, e4, e5, hr, ht]; done)
        | (rw [rightE_ok, hL, hT]; simp [bodyE, kidsE, typedE, e1, e2, e3, e4, e5, hr, ht, ha]; done)
        | (rw [rightE_ok, hL, hT]; simp [bodyE, kidsE, typedE, e1, e2, e3, e4, e5, hr, ht, ha, hin]; done)
        | (rw [rightE_ok, hL, hT]; simp [bodyE, kidsE, typedE, e1, e2, e3, e4, e5, hr, ht, ha, hin, len_eq0, len_ge1, len_eq1]; done)
       ·
        cases hb
     ·
      have e1 : (kd == 1) = false := by rw [hk]; rfl
      have e2 : (kd == 2) = false := by rw [hk]; rfl
      have e3 : (kd == 3) = false := by rw [hk]; rfl
      have e4 : (kd == 4) = false := by rw [hk]; rfl
      have e5 : (kd == 5) = true := by rw [hk]; rfl
      cases hr : (rightT (.mk tn tas tp))
      ·
       refine AT_seq_region fun K130 hK130 => ?_
       have hT : okT kd ta = true := by rw [hc2, List.drop_eq_nil_of_le hb24]; rfl
       simp [row_map, hb10, hb24, e1, e2, e3, e4, e5, hr]
       repeat refine sg ?_
       refine hK130 _ ?_
       clear hK130 K130
       refine AT_seq_k fun K131 hK131 => ?_
       refine AT_seq_region fun K132 hK132 => ?_
       simp [row_map, hb10, hb24, e1, e2, e3, e4, e5, hr]
       repeat refine sg ?_
       refine RVn_call (c_ref04x_Right g rnd (.mk tn tas tp) (by omega)) ?_
       simp [row_map, hb10, hb24, e1, e2, e3, e4, e5, hr]
       repeat refine sg ?_
       refine hK132 _ ?_
       clear hK132 K132
       refine AT_cond (b := true) (g := none) (by simp [hb10, hb24, e1, e2, e3, e4, e5, hr]) (fun hb => ?_) (fun hb => ?_)
       ·
        clear hb
        refine AT_seq_region fun K133 hK133 => ?_
        simp [row_map, hb10, hb24, e1, e2, e3, e4, e5, hr]
        repeat refine sg ?_
        refine hK133 _ ?_
        clear hK133 K133
        refine AT_ret ?_
        simp [row_map, Tryd.f11]
        first
        | (rw [rightE_ok, hc, hda, rightEs_cons, hb19]; rfl)
        | (rw [rightE_ok, hL, hc2, hdb, okT_cons, h2b]; rfl)
        | (rw [rightE_ok, hL, hc2, hdb, okT_cons, h2b, hrk]; rfl)
        | (rw [rightE_ok, hL, hT]; simp [bodyE, kidsE, typedE, e1, e2, e3, e4, e5, hr]; done)
        | (rw [rightE_ok, hL, hT]; simp [bodyE, kidsE, typedE, e1, e2, e3, e4, e5, hr, hn]; done)
        | (rw [rightE_ok, hL, hT]; simp [bodyE, kidsE, typedE, e1, e2, e3, e4, e5, rightT_ne hr]; done)
        | (rw [rightE_ok, hL, hT]; simp [bodyE, kidsE, typedE, e1, e2, e3, e4, e5, hr, hn, len_eq0, len_ge1, len_eq1]; done)
        | (rw [rightE_ok, hL, hT]; simp [bodyE, kidsE, typedE, e1, e2, e3, e4, e5, hr, ht]; done)
        | (rw [rightE_ok, hL, hT]; simp [bodyE, kidsE, typedE, e1, e2, e3, e4, e5, hr, ht, ha]; done)
        | (rw [rightE_ok, hL, hT]; simp [bodyE, kidsE, typedE, e1, e2, e3, e4, e5, hr, ht, ha, hin]; done)
        | (rw [rightE_ok, hL, hT]; simp [bodyE, kidsE, typedE, e1, e2, e3, e4, e5, hr, ht, ha, hin, len_eq0, len_ge1, len_eq1]; done)
       ·
        cases hb
      ·
       cases hn : (n.isEmpty)
       ·
        have hn0 : ¬ n = [] := by rw [← List.isEmpty_iff, hn]; decide
        refine AT_seq_region fun K134 hK134 => ?_
        have hT : okT kd ta = true := by rw [hc2, List.drop_eq_nil_of_le hb24]; rfl
        simp [row_map, hb10, hb24, e1, e2, e3, e4, e5, hr, hn]
        repeat refine sg ?_
        refine hK134 _ ?_
        clear hK134 K134
        refine AT_seq_k fun K135 hK135 => ?_
        refine AT_seq_region fun K136 hK136 => ?_
        simp [row_map, hb10, hb24, e1, e2, e3, e4, e5, hr, hn]
        repeat refine sg ?_
        refine RVn_call (c_ref04x_Right g rnd (.mk tn tas tp) (by omega)) ?_
        simp [row_map, hb10, hb24, e1, e2, e3, e4, e5, hr, hn]
        repeat refine sg ?_
        refine hK136 _ ?_
        clear hK136 K136
        refine AT_cond (b := false) (g := none) (by simp [hb10, hb24, e1, e2, e3, e4, e5, hr, hn]) (fun hb => ?_) (fun hb => ?_)
        ·
         cases hb
        ·
         clear hb
         refine AT_skip ?_
         try simp only [nrm, reduceIte, Nat.reduceEqDiff]
         refine hK135 _ ?_
         refine AT_seq_k fun K137 hK137 => ?_
         refine AT_seq_region fun K138 hK138 => ?_
         simp [row_map, hb10, hb24, e1, e2, e3, e4, e5, hr, hn]
         repeat refine sg ?_
         try (
          refine RVn_call (c_ref01x_Is g rnd n (by omega)) ?_
          simp [row_map, hb10, hb24, e1, e2, e3, e4, e5, hr, hn]
          repeat refine sg ?_)
         refine hK138 _ ?_
         clear hK138 K138
         refine AT_cond (b := true) (g := none) (by simp [hb10, hb24, e1, e2, e3, e4, e5, hr, hn]) (fun hb => ?_) (fun hb => ?_)
         ·
          clear hb
          refine AT_seq_region fun K139 hK139 => ?_
          simp [row_map, hb10, hb24, e1, e2, e3, e4, e5, hr, hn]
          repeat refine sg ?_
          refine hK139 _ ?_
          clear hK139 K139
          refine AT_ret ?_
          simp [row_map, Tryd.f11]
          first
          | (rw [rightE_ok, hc, hda, rightEs_cons, hb19]; rfl)
          | (rw [rightE_ok, hL, hc2, hdb, okT_cons, h2b]; rfl)
          | (rw [rightE_ok, hL, hc2, hdb, okT_cons, h2b, hrk]; rfl)
          | (rw [rightE_ok, hL, hT]; simp [bodyE, kidsE, typedE, e1, e2, e3, e4, e5, hr]; done)
          | (rw [rightE_ok, hL, hT]; simp [bodyE, kidsE, typedE, e1, e2, e3, e4, e5, hr, hn]; done)
          | (rw [rightE_ok, hL, hT]; simp [bodyE, kidsE, typedE, e1, e2, e3, e4, e5, rightT_ne hr]; done)
          | (rw [rightE_ok, hL, hT]; simp [bodyE, kidsE, typedE, e1, e2, e3, e4, e5, hr, hn, len_eq0, len_ge1, len_eq1]; done)
          | (rw [rightE_ok, hL, hT]; simp [bodyE, kidsE, typedE, e1, e2, e3, e4, e5, hr, ht]; done)
          | (rw [rightE_ok, hL, hT]; simp [bodyE, kidsE, typedE, e1, e2, e3, e4, e5, hr, ht, ha]; done)
          | (rw [rightE_ok, hL, hT]; simp [bodyE, kidsE, typedE, e1, e2, e3, e4, e5, hr, ht, ha, hin]; done)
          | (rw [rightE_ok, hL, hT]; simp [bodyE, kidsE, typedE, e1, e2, e3, e4, e5, hr, ht, ha, hin, len_eq0, len_ge1, len_eq1]; done)
         ·
          cases hb
       ·
        have hn0 : n = [] := List.isEmpty_iff.1 hn
        refine AT_seq_region fun K140 hK140 => ?_
        have hT : okT kd ta = true := by rw [hc2, List.drop_eq_nil_of_le hb24]; rfl
        simp [row_map, hb10, hb24, e1, e2, e3, e4, e5, hr, hn]
        repeat refine sg ?_
        refine hK140 _ ?_
        clear hK140 K140
        refine AT_seq_k fun K141 hK141 => ?_
        refine AT_seq_region fun K142 hK142 => ?_
        simp [row_map, hb10, hb24, e1, e2, e3, e4, e5, hr, hn]
        repeat refine sg ?_
        refine RVn_call (c_ref04x_Right g rnd (.mk tn tas tp) (by omega)) ?_
        simp [row_map, hb10, hb24, e1, e2, e3, e4, e5, hr, hn]
        repeat refine sg ?_
        refine hK142 _ ?_
        clear hK142 K142
        refine AT_cond (b := false) (g := none) (by simp [hb10, hb24, e1, e2, e3, e4, e5, hr, hn]) (fun hb => ?_) (fun hb => ?_)
        ·
         cases hb
        ·
         clear hb
         refine AT_skip ?_
         try simp only [nrm, reduceIte, Nat.reduceEqDiff]
         refine hK141 _ ?_
         refine AT_seq_k fun K143 hK143 => ?_
         refine AT_seq_region fun K144 hK144 => ?_
         simp [row_map, hb10, hb24, e1, e2, e3, e4, e5, hr, hn]
         repeat refine sg ?_
         try (
          refine RVn_call (c_ref01x_Is g rnd n (by omega)) ?_
          simp [row_map, hb10, hb24, e1, e2, e3, e4, e5, hr, hn]
          repeat refine sg ?_)
         refine hK144 _ ?_
         clear hK144 K144
         refine AT_cond (b := false) (g := none) (by simp [hb10, hb24, e1, e2, e3, e4, e5, hr, hn]) (fun hb => ?_) (fun hb => ?_)
         ·
          cases hb
         ·
          clear hb
          refine AT_skip ?_
          try simp only [nrm, reduceIte, Nat.reduceEqDiff]
          refine hK143 _ ?_
          refine AT_seq_k fun K145 hK145 => ?_
          refine AT_seq_region fun K146 hK146 => ?_
          simp [row_map, hb10, hb24, e1, e2, e3, e4, e5, hr, hn]
          repeat refine sg ?_
          refine hK146 _ ?_
          clear hK146 K146
          refine AT_block ?_
          refine AT_seq_region fun K147 hK147 => ?_
          simp [row_map, hb10, hb24, e1, e2, e3, e4, e5, hr, hn]
          repeat refine sg ?_
          refine hK147 _ ?_
          clear hK147 K147
          refine AT_cond (b := false) (g := none) (by simp [hb10, hb24, e1, e2, e3, e4, e5, hr, hn]) (fun hb => ?_) (fun hb => ?_)
          ·
           cases hb
          ·
           clear hb
           refine AT_seq_region fun K148 hK148 => ?_
           simp [row_map, hb10, hb24, e1, e2, e3, e4, e5, hr, hn]
           repeat refine sg ?_
           refine hK148 _ ?_
           clear hK148 K148
           refine AT_cond (b := false) (g := none) (by simp [hb10, hb24, e1, e2, e3, e4, e5, hr, hn]) (fun hb => ?_) (fun hb => ?_)
           ·
            cases hb
           ·
            clear hb
            refine AT_seq_region fun K149 hK149 => ?_
            simp [row_map, hb10, hb24, e1, e2, e3, e4, e5, hr, hn]
            repeat refine sg ?_
            refine hK149 _ ?_
            clear hK149 K149
            refine AT_cond (b := false) (g := none) (by simp [hb10, hb24, e1, e2, e3, e4, e5, hr, hn]) (fun hb => ?_) (fun hb => ?_)
            ·
             cases hb
            ·
             clear hb
             refine AT_seq_k fun K150 hK150 => ?_
             refine AT_seq_region fun K151 hK151 => ?_
             simp [row_map, hb10, hb24, e1, e2, e3, e4, e5, hr, hn]
             repeat refine sg ?_
             refine hK151 _ ?_
             clear hK151 K151
             refine AT_cond (b := false) (g := none) (by simp [hb10, hb24, e1, e2, e3, e4, e5, hr, hn]) (fun hb => ?_) (fun hb => ?_)
             ·
              cases hb
             ·
              clear hb
              refine AT_region_q fun K152 hK152 => ?_
              simp [row_map, hb10, hb24, e1, e2, e3, e4, e5, hr, hn]
              repeat refine sg ?_
              refine hK152 _ ?_
              clear hK152 K152
              try simp only [nrm, reduceIte, Nat.reduceEqDiff]
              refine hK150 _ ?_
              refine AT_cond (b := true) (g := none) (by simp [hb10, hb24, e1, e2, e3, e4, e5, hr, hn]) (fun hb => ?_) (fun hb => ?_)
              ·
               clear hb
               refine AT_seq_region fun K153 hK153 => ?_
               simp [row_map, hb10, hb24, e1, e2, e3, e4, e5, hr, hn]
               repeat refine sg ?_
               refine hK153 _ ?_
               clear hK153 K153
               refine AT_ret ?_
               simp [row_map, Tryd.f11]
               first
               | (rw [rightE_ok, hc, hda, rightEs_cons, hb19]; rfl)
               | (rw [rightE_ok, hL, hc2, hdb, okT_cons, h2b]; rfl)
               | (rw [rightE_ok, hL, hc2, hdb, okT_cons, h2b, hrk]; rfl)
               | (rw [rightE_ok, hL, hT]; simp [bodyE, kidsE, typedE, e1, e2, e3, e4, e5, hr]; done)
               | (rw [rightE_ok, hL, hT]; simp [bodyE, kidsE, typedE, e1, e2, e3, e4, e5, hr, hn]; done)
               | (rw [rightE_ok, hL, hT]; simp [bodyE, kidsE, typedE, e1, e2, e3, e4, e5, rightT_ne hr]; done)
               | (rw [rightE_ok, hL, hT]; simp [bodyE, kidsE, typedE, e1, e2, e3, e4, e5, hr, hn, len_eq0, len_ge1, len_eq1]; done)
               | (rw [rightE_ok, hL, hT]; simp [bodyE, kidsE, typedE, e1, e2, e3, e4, e5, hr, ht]; done)
               | (rw [rightE_ok, hL, hT]; simp [bodyE, kidsE, typedE, e1, e2, e3, e4, e5, hr, ht, ha]; done)
               | (rw [rightE_ok, hL, hT]; simp [bodyE, kidsE, typedE, e1, e2, e3, e4, e5, hr, ht, ha, hin]; done)
               | (rw [rightE_ok, hL, hT]; simp [bodyE, kidsE, typedE, e1, e2, e3, e4, e5, hr, ht, ha, hin, len_eq0, len_ge1, len_eq1]; done)
              ·
               cases hb
     ·
      cases hr : (rightT (.mk tn tas tp))
      ·
       cases ht : tn.isEmpty
       ·
        refine AT_seq_region fun K154 hK154 => ?_
        have hT : okT kd ta = true := by rw [hc2, List.drop_eq_nil_of_le hb24]; rfl
        simp [row_map, hb10, hb24, e1, e2, e3, e4, e5, hr, ht]
        repeat refine sg ?_
        refine hK154 _ ?_
        clear hK154 K154
        refine AT_seq_k fun K155 hK155 => ?_
        refine AT_seq_region fun K156 hK156 => ?_
        simp [row_map, hb10, hb24, e1, e2, e3, e4, e5, hr, ht]
        repeat refine sg ?_
        refine RVn_call (c_ref04x_Right g rnd (.mk tn tas tp) (by omega)) ?_
        simp [row_map, hb10, hb24, e1, e2, e3, e4, e5, hr, ht]
        repeat refine sg ?_
        refine hK156 _ ?_
        clear hK156 K156
        refine AT_cond (b := true) (g := none) (by simp [hb10, hb24, e1, e2, e3, e4, e5, hr, ht]) (fun hb => ?_) (fun hb => ?_)
        ·
         clear hb
         refine AT_seq_region fun K157 hK157 => ?_
         simp [row_map, hb10, hb24, e1, e2, e3, e4, e5, hr, ht]
         repeat refine sg ?_
         refine hK157 _ ?_
         clear hK157 K157
         refine AT_ret ?_
         simp [row_map, Tryd.f11]
         first
         | (rw [rightE_ok, hc, hda, rightEs_cons, hb19]; rfl)
         | (rw [rightE_ok, hL, hc2, hdb, okT_cons, h2b]; rfl)
         | (rw [rightE_ok, hL, hc2, hdb, okT_cons, h2b, hrk]; rfl)
         | (rw [rightE_ok, hL, hT]; simp [bodyE, kidsE, typedE, e1, e2, e3, e4, e5, hr]; done)
         | (rw [rightE_ok, hL, hT]; simp [bodyE, kidsE, typedE, e1, e2, e3, e4, e5, hr, hn]; done)
         | (rw [rightE_ok, hL, hT]; simp [bodyE, kidsE, typedE, e1, e2, e3, e4, e5, rightT_ne hr]; done)
         | (rw [rightE_ok, hL, hT]; simp [bodyE, kidsE, typedE, e1, e2, e3, e4, e5, hr, hn, len_eq0, len_ge1, len_eq1]; done)
         | (rw [rightE_ok, hL, hT]; simp [bodyE, kidsE, typedE, e1, e2, e3, e4, e5, hr, ht]; done)
         | (rw [rightE_ok, hL, hT]; simp [bodyE, kidsE, typedE, e1, e2, e3, e4, e5, hr, ht, ha]; done)
         | (rw [rightE_ok, hL, hT]; simp [bodyE, kidsE, typedE, e1, e2, e3, e4, e5, hr, ht, ha, hin]; done)
         | (rw [rightE_ok, hL, hT]; simp [bodyE, kidsE, typedE, e1, e2, e3, e4, e5, hr, ht, ha, hin, len_eq0, len_ge1, len_eq1]; done)
        ·
         cases hb
       ·
        cases ha : tas.isEmpty
        ·
         have ha0 : 0 < tas.length := by cases tas with | nil => cases ha | cons x r => simp
         refine AT_seq_region fun K158 hK158 => ?_
         have hT : okT kd ta = true := by rw [hc2, List.drop_eq_nil_of_le hb24]; rfl
         simp [row_map, hb10, hb24, e1, e2, e3, e4, e5, hr, ht, ha0]
         repeat refine sg ?_
         refine hK158 _ ?_
         clear hK158 K158
         refine AT_seq_k fun K159 hK159 => ?_
         refine AT_seq_region fun K160 hK160 => ?_
         simp [row_map, hb10, hb24, e1, e2, e3, e4, e5, hr, ht, ha0]
         repeat refine sg ?_
         refine RVn_call (c_ref04x_Right g rnd (.mk tn tas tp) (by omega)) ?_
         simp [row_map, hb10, hb24, e1, e2, e3, e4, e5, hr, ht, ha0]
         repeat refine sg ?_
         refine hK160 _ ?_
         clear hK160 K160
         refine AT_cond (b := true) (g := none) (by simp [hb10, hb24, e1, e2, e3, e4, e5, hr, ht, ha0]) (fun hb => ?_) (fun hb => ?_)
         ·
          clear hb
          refine AT_seq_region fun K161 hK161 => ?_
          simp [row_map, hb10, hb24, e1, e2, e3, e4, e5, hr, ht, ha0]
          repeat refine sg ?_
          refine hK161 _ ?_
          clear hK161 K161
          refine AT_ret ?_
          simp [row_map, Tryd.f11]
          first
          | (rw [rightE_ok, hc, hda, rightEs_cons, hb19]; rfl)
          | (rw [rightE_ok, hL, hc2, hdb, okT_cons, h2b]; rfl)
          | (rw [rightE_ok, hL, hc2, hdb, okT_cons, h2b, hrk]; rfl)
          | (rw [rightE_ok, hL, hT]; simp [bodyE, kidsE, typedE, e1, e2, e3, e4, e5, hr]; done)
          | (rw [rightE_ok, hL, hT]; simp [bodyE, kidsE, typedE, e1, e2, e3, e4, e5, hr, hn]; done)
          | (rw [rightE_ok, hL, hT]; simp [bodyE, kidsE, typedE, e1, e2, e3, e4, e5, rightT_ne hr]; done)
          | (rw [rightE_ok, hL, hT]; simp [bodyE, kidsE, typedE, e1, e2, e3, e4, e5, hr, hn, len_eq0, len_ge1, len_eq1]; done)
          | (rw [rightE_ok, hL, hT]; simp [bodyE, kidsE, typedE, e1, e2, e3, e4, e5, hr, ht]; done)
          | (rw [rightE_ok, hL, hT]; simp [bodyE, kidsE, typedE, e1, e2, e3, e4, e5, hr, ht, ha]; done)
          | (rw [rightE_ok, hL, hT]; simp [bodyE, kidsE, typedE, e1, e2, e3, e4, e5, hr, ht, ha, hin]; done)
          | (rw [rightE_ok, hL, hT]; simp [bodyE, kidsE, typedE, e1, e2, e3, e4, e5, hr, ht, ha, hin, len_eq0, len_ge1, len_eq1]; done)
         ·
          cases hb
        ·
         have ha0 : ¬ 0 < tas.length := by rw [List.isEmpty_iff.1 ha]; decide
         cases hin : (isName n)
         ·
          refine AT_seq_region fun K162 hK162 => ?_
          have hT : okT kd ta = true := by rw [hc2, List.drop_eq_nil_of_le hb24]; rfl
          simp [row_map, hb10, hb24, e1, e2, e3, e4, e5, hr, ht, ha0, hin]
          repeat refine sg ?_
          refine hK162 _ ?_
          clear hK162 K162
          refine AT_seq_k fun K163 hK163 => ?_
          refine AT_seq_region fun K164 hK164 => ?_
          simp [row_map, hb10, hb24, e1, e2, e3, e4, e5, hr, ht, ha0, hin]
          repeat refine sg ?_
          refine RVn_call (c_ref04x_Right g rnd (.mk tn tas tp) (by omega)) ?_
          simp [row_map, hb10, hb24, e1, e2, e3, e4, e5, hr, ht, ha0, hin]
          repeat refine sg ?_
          refine hK164 _ ?_
          clear hK164 K164
          refine AT_cond (b := false) (g := none) (by simp [hb10, hb24, e1, e2, e3, e4, e5, hr, ht, ha0, hin]) (fun hb => ?_) (fun hb => ?_)
          ·
           cases hb
          ·
           clear hb
           refine AT_skip ?_
           try simp only [nrm, reduceIte, Nat.reduceEqDiff]
           refine hK163 _ ?_
           refine AT_seq_k fun K165 hK165 => ?_
           refine AT_seq_region fun K166 hK166 => ?_
           simp [row_map, hb10, hb24, e1, e2, e3, e4, e5, hr, ht, ha0, hin]
           repeat refine sg ?_
           try (
            refine RVn_call (c_ref01x_Is g rnd n (by omega)) ?_
            simp [row_map, hb10, hb24, e1, e2, e3, e4, e5, hr, ht, ha0, hin]
            repeat refine sg ?_)
           refine hK166 _ ?_
           clear hK166 K166
           refine AT_cond (b := true) (g := none) (by simp [hb10, hb24, e1, e2, e3, e4, e5, hr, ht, ha0, hin]) (fun hb => ?_) (fun hb => ?_)
           ·
            clear hb
            refine AT_seq_region fun K167 hK167 => ?_
            simp [row_map, hb10, hb24, e1, e2, e3, e4, e5, hr, ht, ha0, hin]
            repeat refine sg ?_
            refine hK167 _ ?_
            clear hK167 K167
            refine AT_ret ?_
            simp [row_map, Tryd.f11]
            first
            | (rw [rightE_ok, hc, hda, rightEs_cons, hb19]; rfl)
            | (rw [rightE_ok, hL, hc2, hdb, okT_cons, h2b]; rfl)
            | (rw [rightE_ok, hL, hc2, hdb, okT_cons, h2b, hrk]; rfl)
            | (rw [rightE_ok, hL, hT]; simp [bodyE, kidsE, typedE, e1, e2, e3, e4, e5, hr]; done)
            | (rw [rightE_ok, hL, hT]; simp [bodyE, kidsE, typedE, e1, e2, e3, e4, e5, hr, hn]; done)
            | (rw [rightE_ok, hL, hT]; simp [bodyE, kidsE, typedE, e1, e2, e3, e4, e5, rightT_ne hr]; done)
            | (rw [rightE_ok, hL, hT]; simp [bodyE, kidsE, typedE, e1, e2, e3, e4, e5, hr, hn, len_eq0, len_ge1, len_eq1]; done)
            | (rw [rightE_ok, hL, hT]; simp [bodyE, kidsE, typedE, e1, e2, e3, e4, e5, hr, ht]; done)
            | (rw [rightE_ok, hL, hT]; simp [bodyE, kidsE, typedE, e1, e2, e3, e4, e5, hr, ht, ha]; done)
            | (rw [rightE_ok, hL, hT]; simp [bodyE, kidsE, typedE, e1, e2, e3, e4, e5, hr, ht, ha, hin]; done)
            | (rw [rightE_ok, hL, hT]; simp [bodyE, kidsE, typedE, e1, e2, e3, e4, e5, hr, ht, ha, hin, len_eq0, len_ge1, len_eq1]; done)
           ·
            cases hb
         ·
          refine AT_seq_region fun K168 hK168 => ?_
          have hT : okT kd ta = true := by rw [hc2, List.drop_eq_nil_of_le hb24]; rfl
          simp [row_map, hb10, hb24, e1, e2, e3, e4, e5, hr, ht, ha0, hin]
          repeat refine sg ?_
          refine hK168 _ ?_
          clear hK168 K168
          refine AT_seq_k fun K169 hK169 => ?_
          refine AT_seq_region fun K170 hK170 => ?_
          simp [row_map, hb10, hb24, e1, e2, e3, e4, e5, hr, ht, ha0, hin]
          repeat refine sg ?_
          refine RVn_call (c_ref04x_Right g rnd (.mk tn tas tp) (by omega)) ?_
          simp [row_map, hb10, hb24, e1, e2, e3, e4, e5, hr, ht, ha0, hin]
          repeat refine sg ?_
          refine hK170 _ ?_
          clear hK170 K170
          refine AT_cond (b := false) (g := none) (by simp [hb10, hb24, e1, e2, e3, e4, e5, hr, ht, ha0, hin]) (fun hb => ?_) (fun hb => ?_)
          ·
           cases hb
          ·
           clear hb
           refine AT_skip ?_
           try simp only [nrm, reduceIte, Nat.reduceEqDiff]
           refine hK169 _ ?_
           refine AT_seq_k fun K171 hK171 => ?_
           refine AT_seq_region fun K172 hK172 => ?_
           simp [row_map, hb10, hb24, e1, e2, e3, e4, e5, hr, ht, ha0, hin]
           repeat refine sg ?_
           try (
            refine RVn_call (c_ref01x_Is g rnd n (by omega)) ?_
            simp [row_map, hb10, hb24, e1, e2, e3, e4, e5, hr, ht, ha0, hin]
            repeat refine sg ?_)
           refine hK172 _ ?_
           clear hK172 K172
           refine AT_cond (b := false) (g := none) (by simp [hb10, hb24, e1, e2, e3, e4, e5, hr, ht, ha0, hin]) (fun hb => ?_) (fun hb => ?_)
           ·
            cases hb
           ·
            clear hb
            refine AT_skip ?_
            try simp only [nrm, reduceIte, Nat.reduceEqDiff]
            refine hK171 _ ?_
            refine AT_seq_k fun K173 hK173 => ?_
            refine AT_seq_region fun K174 hK174 => ?_
            simp [row_map, hb10, hb24, e1, e2, e3, e4, e5, hr, ht, ha0, hin]
            repeat refine sg ?_
            refine hK174 _ ?_
            clear hK174 K174
            refine AT_block ?_
            refine AT_seq_region fun K175 hK175 => ?_
            simp [row_map, hb10, hb24, e1, e2, e3, e4, e5, hr, ht, ha0, hin]
            repeat refine sg ?_
            refine hK175 _ ?_
            clear hK175 K175
            refine AT_cond (b := false) (g := none) (by simp [hb10, hb24, e1, e2, e3, e4, e5, hr, ht, ha0, hin]) (fun hb => ?_) (fun hb => ?_)
            ·
             cases hb
            ·
             clear hb
             refine AT_seq_region fun K176 hK176 => ?_
             simp [row_map, hb10, hb24, e1, e2, e3, e4, e5, hr, ht, ha0, hin]
             repeat refine sg ?_
             refine hK176 _ ?_
             clear hK176 K176
             refine AT_cond (b := false) (g := none) (by simp [hb10, hb24, e1, e2, e3, e4, e5, hr, ht, ha0, hin]) (fun hb => ?_) (fun hb => ?_)
             ·
              cases hb
             ·
              clear hb
              refine AT_seq_region fun K177 hK177 => ?_
              simp [row_map, hb10, hb24, e1, e2, e3, e4, e5, hr, ht, ha0, hin]
              repeat refine sg ?_
              refine hK177 _ ?_
              clear hK177 K177
              refine AT_cond (b := false) (g := none) (by simp [hb10, hb24, e1, e2, e3, e4, e5, hr, ht, ha0, hin]) (fun hb => ?_) (fun hb => ?_)
              ·
               cases hb
              ·
               clear hb
               refine AT_seq_k fun K178 hK178 => ?_
               refine AT_seq_region fun K179 hK179 => ?_
               simp [row_map, hb10, hb24, e1, e2, e3, e4, e5, hr, ht, ha0, hin]
               repeat refine sg ?_
               refine hK179 _ ?_
               clear hK179 K179
               refine AT_cond (b := false) (g := none) (by simp [hb10, hb24, e1, e2, e3, e4, e5, hr, ht, ha0, hin]) (fun hb => ?_) (fun hb => ?_)
               ·
                cases hb
               ·
                clear hb
                refine AT_region_q fun K180 hK180 => ?_
                simp [row_map, hb10, hb24, e1, e2, e3, e4, e5, hr, ht, ha0, hin]
                repeat refine sg ?_
                refine hK180 _ ?_
                clear hK180 K180
                try simp only [nrm, reduceIte, Nat.reduceEqDiff]
                refine hK178 _ ?_
                refine AT_cond (b := false) (g := none) (by simp [hb10, hb24, e1, e2, e3, e4, e5, hr, ht, ha0, hin]) (fun hb => ?_) (fun hb => ?_)
                ·
                 cases hb
                ·
                 clear hb
                 refine AT_skip ?_
                 try simp only [nrm, reduceIte, Nat.reduceEqDiff]
                 refine hK173 _ ?_
                 refine AT_seq_region fun K181 hK181 => ?_
                 simp [row_map, hb10, hb24, e1, e2, e3, e4, e5, hr, ht, ha0, hin]
                 repeat refine sg ?_
                 refine hK181 _ ?_
                 clear hK181 K181
                 refine AT_ret ?_
                 simp [row_map, Tryd.f11]
                 first
                 | (rw [rightE_ok, hc, hda, rightEs_cons, hb19]; rfl)
                 | (rw [rightE_ok, hL, hc2, hdb, okT_cons, h2b]; rfl)
                 | (rw [rightE_ok, hL, hc2, hdb, okT_cons, h2b, hrk]; rfl)
                 | (rw [rightE_ok, hL, hT]; simp [bodyE, kidsE, typedE, e1, e2, e3, e4, e5, hr]; done)
                 | (rw [rightE_ok, hL, hT]; simp [bodyE, kidsE, typedE, e1, e2, e3, e4, e5, hr, hn]; done)
                 | (rw [rightE_ok, hL, hT]; simp [bodyE, kidsE, typedE, e1, e2, e3, e4, e5, rightT_ne hr]; done)
                 | (rw [rightE_ok, hL, hT]; simp [bodyE, kidsE, typedE, e1, e2, e3, e4, e5, hr, hn, len_eq0, len_ge1, len_eq1]; done)
                 | (rw [rightE_ok, hL, hT]; simp [bodyE, kidsE, typedE, e1, e2, e3, e4, e5, hr, ht]; done)
                 | (rw [rightE_ok, hL, hT]; simp [bodyE, kidsE, typedE, e1, e2, e3, e4, e5, hr, ht, ha]; done)
                 | (rw [rightE_ok, hL, hT]; simp [bodyE, kidsE, typedE, e1, e2, e3, e4, e5, hr, ht, ha, hin]; done)
                 | (rw [rightE_ok, hL, hT]; simp [bodyE, kidsE, typedE, e1, e2, e3, e4, e5, hr, ht, ha, hin, len_eq0, len_ge1, len_eq1]; done)
      ·
       refine AT_seq_region fun K182 hK182 => ?_
       have hT : okT kd ta = true := by rw [hc2, List.drop_eq_nil_of_le hb24]; rfl
       simp [row_map, hb10, hb24, e1, e2, e3, e4, e5, hr]
       repeat refine sg ?_
       refine hK182 _ ?_
       clear hK182 K182
       refine AT_seq_k fun K183 hK183 => ?_
       refine AT_seq_region fun K184 hK184 => ?_
       simp [row_map, hb10, hb24, e1, e2, e3, e4, e5, hr]
       repeat refine sg ?_
       refine RVn_call (c_ref04x_Right g rnd (.mk tn tas tp) (by omega)) ?_
       simp [row_map, hb10, hb24, e1, e2, e3, e4, e5, hr]
       repeat refine sg ?_
       refine hK184 _ ?_
       clear hK184 K184
       refine AT_cond (b := true) (g := none) (by simp [hb10, hb24, e1, e2, e3, e4, e5, hr]) (fun hb => ?_) (fun hb => ?_)
       ·
        clear hb
        refine AT_seq_region fun K185 hK185 => ?_
        simp [row_map, hb10, hb24, e1, e2, e3, e4, e5, hr]
        repeat refine sg ?_
        refine hK185 _ ?_
        clear hK185 K185
        refine AT_ret ?_
        simp [row_map, Tryd.f11]
        first
        | (rw [rightE_ok, hc, hda, rightEs_cons, hb19]; rfl)
        | (rw [rightE_ok, hL, hc2, hdb, okT_cons, h2b]; rfl)
        | (rw [rightE_ok, hL, hc2, hdb, okT_cons, h2b, hrk]; rfl)
        | (rw [rightE_ok, hL, hT]; simp [bodyE, kidsE, typedE, e1, e2, e3, e4, e5, hr]; done)
        | (rw [rightE_ok, hL, hT]; simp [bodyE, kidsE, typedE, e1, e2, e3, e4, e5, hr, hn]; done)
        | (rw [rightE_ok, hL, hT]; simp [bodyE, kidsE, typedE, e1, e2, e3, e4, e5, rightT_ne hr]; done)
        | (rw [rightE_ok, hL, hT]; simp [bodyE, kidsE, typedE, e1, e2, e3, e4, e5, hr, hn, len_eq0, len_ge1, len_eq1]; done)
        | (rw [rightE_ok, hL, hT]; simp [bodyE, kidsE, typedE, e1, e2, e3, e4, e5, hr, ht]; done)
        | (rw [rightE_ok, hL, hT]; simp [bodyE, kidsE, typedE, e1, e2, e3, e4, e5, hr, ht, ha]; done)
        | (rw [rightE_ok, hL, hT]; simp [bodyE, kidsE, typedE, e1, e2, e3, e4, e5, hr, ht, ha, hin]; done)
        | (rw [rightE_ok, hL, hT]; simp [bodyE, kidsE, typedE, e1, e2, e3, e4, e5, hr, ht, ha, hin, len_eq0, len_ge1, len_eq1]; done)
       ·
        cases hb

end Go.Proofs.YtpjkdaechknogaaDoor

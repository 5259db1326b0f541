/- Contracts: expressions, shown and measured. -/
import Derived.Test.YtjkabaejabibnaaDoorPt
import Derived.Test.YtjkabaejabibnaaDoorPvPa
import Derived.Test.YtjkabaejabibnaaDoorPvZ
import Derived.Test.YtjkabaejabibnaaDoorXExA
import Derived.Test.YtjkabaejabibnaaDoorXTyG
import Derived.Test.YtjkabaejabibnaaDoorXTyG
set_option linter.all false
set_option maxHeartbeats 1000000
set_option maxRecDepth 10000
namespace Go.Proofs.YtjkabaejabibnaaDoor
open Go Go.Pv
variable (g : Nat → Option (List AV)) (rnd : Bool)

theorem c_ref05x_Equal : ∀ e f : Exp, wtE e ≤ 1000000000 → Valid Tryd.prog (G0 g rnd) 21 [.agg (encE e), .agg (encE f)] (.bool (eqE e f)) := by
 intro e
 induction e using Exp.ind with
 | h kd n t ta l p ih =>
 intro f hw
 obtain ⟨kf, m, u, ua, ul, q⟩ := f
 have hw2 : n.length + 1 + wt t + wts ta + wtEs l ≤ 1000000000 := by simpa [wtE_mk] using hw
 have hln := wtEs_len l
 have hla := wts_len ta
 refine valid_of [] Tryd.func21 rfl (by kernel_rfl) ?_
 refine AT_seq_region fun K1 hK1 => ?_
 simp [row_map, Tryd.f21]
 repeat refine sg ?_
 refine hK1 _ ?_
 clear hK1 K1
 refine AT_seq_k fun K2 hK2 => ?_
 cases h1 : (p != q)
 ·
  cases h2 : (kd != kf)
  ·
   cases h3 : (n == m)
   ·
    refine AT_seq_region fun K3 hK3 => ?_
    simp [row_map, h1, h2, h3]
    repeat refine sg ?_
    try (
     refine RVn_call (c_ref04x_Equal g rnd t u (by omega)) ?_
     simp [row_map, h1, h2, h3]
     repeat refine sg ?_)
    refine hK3 _ ?_
    clear hK3 K3
    refine AT_cond (b := true) (g := none) (by simp [h1, h2, h3]) (fun hb => ?_) (fun hb => ?_)
    ·
     clear hb
     refine AT_seq_region fun K4 hK4 => ?_
     simp [row_map, h1, h2, h3]
     repeat refine sg ?_
     refine hK4 _ ?_
     clear hK4 K4
     refine AT_ret ?_
     simp [row_map, Tryd.f21]
     first
     | (simp [eqE, show (p == q) = false by simpa using h1]; done)
     | (simp [eqE, show (kd == kf) = false by simpa using h2]; done)
     | (simp [eqE, h3]; done)
     | (simp [eqE, h4]; done)
     | (simp [eqE, eqTs_len (show ta.length ≠ ua.length by omega)]; done)
     | (simp [eqE, eqEs_len (show l.length ≠ ul.length by omega)]; done)
     | (have he : eqE (.mk kd n t ta l p) (.mk kf m u ua ul q) = (eqTs ta ua && eqEs l ul) := by simp [eqE, show (p == q) = true by simpa using h1, show (kd == kf) = true by simpa using h2, h3, h4]
        rw [he, hT, hc2, hda, hdb, eqEs_cons]; simp [hb89]; done)
     | (have he : eqE (.mk kd n t ta l p) (.mk kf m u ua ul q) = (eqTs ta ua && eqEs l ul) := by simp [eqE, show (p == q) = true by simpa using h1, show (kd == kf) = true by simpa using h2, h3, h4]
        rw [he, hT, hc2, List.drop_eq_nil_of_le hb75, List.drop_eq_nil_of_le (show ul.length ≤ k by omega)]; simp [eqEs]; done)
     | (have he : eqE (.mk kd n t ta l p) (.mk kf m u ua ul q) = (eqTs ta ua && eqEs l ul) := by simp [eqE, show (p == q) = true by simpa using h1, show (kd == kf) = true by simpa using h2, h3, h4]
        rw [he, hc, hda, hdb, eqTs_cons]; simp [hb70]; done)
    ·
     cases hb
   ·
    cases h4 : (eqT t u)
    ·
     refine AT_seq_region fun K5 hK5 => ?_
     simp [row_map, h1, h2, h3, h4]
     repeat refine sg ?_
     try (
      refine RVn_call (c_ref04x_Equal g rnd t u (by omega)) ?_
      simp [row_map, h1, h2, h3, h4]
      repeat refine sg ?_)
     refine hK5 _ ?_
     clear hK5 K5
     refine AT_cond (b := true) (g := none) (by simp [h1, h2, h3, h4]) (fun hb => ?_) (fun hb => ?_)
     ·
      clear hb
      refine AT_seq_region fun K6 hK6 => ?_
      simp [row_map, h1, h2, h3, h4]
      repeat refine sg ?_
      refine hK6 _ ?_
      clear hK6 K6
      refine AT_ret ?_
      simp [row_map, Tryd.f21]
      first
      | (simp [eqE, show (p == q) = false by simpa using h1]; done)
      | (simp [eqE, show (kd == kf) = false by simpa using h2]; done)
      | (simp [eqE, h3]; done)
      | (simp [eqE, h4]; done)
      | (simp [eqE, eqTs_len (show ta.length ≠ ua.length by omega)]; done)
      | (simp [eqE, eqEs_len (show l.length ≠ ul.length by omega)]; done)
      | (have he : eqE (.mk kd n t ta l p) (.mk kf m u ua ul q) = (eqTs ta ua && eqEs l ul) := by simp [eqE, show (p == q) = true by simpa using h1, show (kd == kf) = true by simpa using h2, h3, h4]
         rw [he, hT, hc2, hda, hdb, eqEs_cons]; simp [hb89]; done)
      | (have he : eqE (.mk kd n t ta l p) (.mk kf m u ua ul q) = (eqTs ta ua && eqEs l ul) := by simp [eqE, show (p == q) = true by simpa using h1, show (kd == kf) = true by simpa using h2, h3, h4]
         rw [he, hT, hc2, List.drop_eq_nil_of_le hb75, List.drop_eq_nil_of_le (show ul.length ≤ k by omega)]; simp [eqEs]; done)
      | (have he : eqE (.mk kd n t ta l p) (.mk kf m u ua ul q) = (eqTs ta ua && eqEs l ul) := by simp [eqE, show (p == q) = true by simpa using h1, show (kd == kf) = true by simpa using h2, h3, h4]
         rw [he, hc, hda, hdb, eqTs_cons]; simp [hb70]; done)
     ·
      cases hb
    ·
     by_cases h5 : (ta.length : Int) = ua.length
     ·
      have h5b : ((ta.length : Int) != ua.length) = false := by simpa using h5
      by_cases h6 : (l.length : Int) = ul.length
      ·
       have h6b : ((l.length : Int) != ul.length) = false := by simpa using h6
       refine AT_seq_region fun K7 hK7 => ?_
       simp [row_map, h1, h2, h3, h4, h5b, h6b]
       repeat refine sg ?_
       try (
        refine RVn_call (c_ref04x_Equal g rnd t u (by omega)) ?_
        simp [row_map, h1, h2, h3, h4, h5b, h6b]
        repeat refine sg ?_)
       refine hK7 _ ?_
       clear hK7 K7
       refine AT_cond (b := false) (g := none) (by simp [h1, h2, h3, h4, h5b, h6b]) (fun hb => ?_) (fun hb => ?_)
       ·
        cases hb
       ·
        clear hb
        refine AT_skip ?_
        try simp only [nrm, reduceIte, Nat.reduceEqDiff]
        refine hK2 _ ?_
        refine AT_seq_k fun K8 hK8 => ?_
        refine AT_seq_region fun K9 hK9 => ?_
        simp [row_map, h1, h2, h3, h4, h5b, h6b]
        repeat refine sg ?_
        refine hK9 _ ?_
        clear hK9 K9
        refine AT_block ?_
        refine AT_loop_q [2,3,5] [2,3] (fun j s => ∃ k, k ≤ ta.length ∧ eqTs ta ua = eqTs (ta.drop k) (ua.drop k) ∧ j = ta.length - k ∧ s = { n := 90, tm := [(2, .lp 2 0), (3, .lp 3 0), (5, .v (.int .i64 k) none)], bx := [(2, encE (.mk kd n t ta l p)), (3, encE (.mk kf m u ua ul q))], tb := [], sh := [], hint := [] }) (ta.length) (by first | rfl | simp) ?_ ?_
        ·
         exact ⟨0, by simp⟩
        ·
         rintro j s ⟨k, hk, hc, rfl, rfl⟩ K10 hK10
         refine AT_seq_k fun K11 hK11 => ?_
         refine AT_seq_region fun K12 hK12 => ?_
         simp [row_map, h1, h2, h3, h4, h5b, h6b]
         repeat refine sg ?_
         refine hK12 _ ?_
         clear hK12 K12
         refine AT_cond (g := none) rfl (fun hb56 => ?_) (fun hb56 => ?_)
         ·
          try simp [row_map, h1, h2, h3, h4, h5b, h6b] at hb56
          refine AT_skip ?_
          try simp only [nrm, reduceIte, Nat.reduceEqDiff]
          refine hK11 _ ?_
          refine AT_seq_k fun K13 hK13 => ?_
          refine AT_block ?_
          refine AT_seq_draw Pt.mixed (by kernel_rfl) fun K14 hK14 => ?_
          have hku : k < ua.length := by omega
          have hm := wts_mem (l := ta) (t := ta[k]) (by simp)
          have hda := List.drop_eq_getElem_cons hb56
          have hdb := List.drop_eq_getElem_cons hku
          simp [row_map, hku, h1, h2, h3, h4, h5b, h6b, hb56]
          repeat refine sg ?_
          refine RVdn_call (c_ref04x_Equal g rnd ta[k] ua[k] (by omega)) ?_
          simp [row_map, hku, h1, h2, h3, h4, h5b, h6b, hb56]
          repeat refine sg ?_
          refine hK14 _ ?_
          clear hK14 K14
          refine AT_cond (g := none) rfl (fun hb70 => ?_) (fun hb70 => ?_)
          ·
           try simp [row_map, h1, h2, h3, h4, h5b, h6b, hb56] at hb70
           refine AT_seq_region fun K15 hK15 => ?_
           simp [row_map, h1, h2, h3, h4, h5b, h6b, hb56, hb70]
           repeat refine sg ?_
           refine hK15 _ ?_
           clear hK15 K15
           refine AT_ret ?_
           simp [row_map, Tryd.f21]
           first
           | (simp [eqE, show (p == q) = false by simpa using h1]; done)
           | (simp [eqE, show (kd == kf) = false by simpa using h2]; done)
           | (simp [eqE, h3]; done)
           | (simp [eqE, h4]; done)
           | (simp [eqE, eqTs_len (show ta.length ≠ ua.length by omega)]; done)
           | (simp [eqE, eqEs_len (show l.length ≠ ul.length by omega)]; done)
           | (have he : eqE (.mk kd n t ta l p) (.mk kf m u ua ul q) = (eqTs ta ua && eqEs l ul) := by simp [eqE, show (p == q) = true by simpa using h1, show (kd == kf) = true by simpa using h2, h3, h4]
              rw [he, hT, hc2, hda, hdb, eqEs_cons]; simp [hb89]; done)
           | (have he : eqE (.mk kd n t ta l p) (.mk kf m u ua ul q) = (eqTs ta ua && eqEs l ul) := by simp [eqE, show (p == q) = true by simpa using h1, show (kd == kf) = true by simpa using h2, h3, h4]
              rw [he, hT, hc2, List.drop_eq_nil_of_le hb75, List.drop_eq_nil_of_le (show ul.length ≤ k by omega)]; simp [eqEs]; done)
           | (have he : eqE (.mk kd n t ta l p) (.mk kf m u ua ul q) = (eqTs ta ua && eqEs l ul) := by simp [eqE, show (p == q) = true by simpa using h1, show (kd == kf) = true by simpa using h2, h3, h4]
              rw [he, hc, hda, hdb, eqTs_cons]; simp [hb70]; done)
          ·
           try simp [row_map, h1, h2, h3, h4, h5b, h6b, hb56] at hb70
           refine AT_skip ?_
           try simp only [nrm, reduceIte, Nat.reduceEqDiff]
           refine hK13 _ ?_
           refine AT_region_q fun K16 hK16 => ?_
           simp [row_map, h1, h2, h3, h4, h5b, h6b, hb56, hb70]
           repeat refine sg ?_
           refine hK16 _ ?_
           clear hK16 K16
           try simp only [nrm, reduceIte, Nat.reduceEqDiff]
           refine hK10 _ (by first | rfl | simp) (ta.length - (k+1)) (by omega) ?_
           refine ⟨k+1, by omega, ?_, by omega, by simp⟩
           rw [hc, hda, hdb, eqTs_cons]; simp [hb70]
         ·
          try simp [row_map, h1, h2, h3, h4, h5b, h6b] at hb56
          refine AT_exit ?_
          try simp only [nrm, reduceIte, Nat.reduceEqDiff]
          refine hK8 _ ?_
          refine AT_seq_k fun K17 hK17 => ?_
          refine AT_seq_region fun K18 hK18 => ?_
          simp [row_map, h1, h2, h3, h4, h5b, h6b, hb56]
          repeat refine sg ?_
          refine hK18 _ ?_
          clear hK18 K18
          refine AT_block ?_
          have hT : eqTs ta ua = true := by rw [hc, List.drop_eq_nil_of_le hb56, List.drop_eq_nil_of_le (show ua.length ≤ k by omega)]; simp [eqTs]
          refine AT_loop_q [2,3,6] [2,3] (fun j s => ∃ k, k ≤ l.length ∧ eqEs l ul = eqEs (l.drop k) (ul.drop k) ∧ j = l.length - k ∧ s = { n := 90, tm := [(2, .lp 2 0), (3, .lp 3 0), (6, .v (.int .i64 k) none)], bx := [(2, encE (.mk kd n t ta l p)), (3, encE (.mk kf m u ua ul q))], tb := [], sh := [], hint := [] }) (l.length) (by first | rfl | simp) ?_ ?_
          ·
           have hT : eqTs ta ua = true := by rw [hc, List.drop_eq_nil_of_le hb56, List.drop_eq_nil_of_le (show ua.length ≤ k by omega)]; simp [eqTs]
           exact ⟨0, by simp⟩
          ·
           rintro j s ⟨k, hk, hc2, rfl, rfl⟩ K19 hK19
           refine AT_seq_k fun K20 hK20 => ?_
           refine AT_seq_region fun K21 hK21 => ?_
           simp [row_map, h1, h2, h3, h4, h5b, h6b, hb56]
           repeat refine sg ?_
           refine hK21 _ ?_
           clear hK21 K21
           refine AT_cond (g := none) rfl (fun hb75 => ?_) (fun hb75 => ?_)
           ·
            try simp [row_map, h1, h2, h3, h4, h5b, h6b, hb56] at hb75
            refine AT_skip ?_
            try simp only [nrm, reduceIte, Nat.reduceEqDiff]
            refine hK20 _ ?_
            refine AT_seq_k fun K22 hK22 => ?_
            refine AT_block ?_
            refine AT_seq_draw Pt.mixed (by kernel_rfl) fun K23 hK23 => ?_
            have hku : k < ul.length := by omega
            have hm := wtEs_mem (l := l) (e := l[k]) (by simp)
            have hda := List.drop_eq_getElem_cons hb75
            have hdb := List.drop_eq_getElem_cons hku
            simp [row_map, hku, h1, h2, h3, h4, h5b, h6b, hb56, hb75]
            repeat refine sg ?_
            refine RVdn_call (ih l[k] (by simp) ul[k] (by omega)) ?_
            simp [row_map, hku, h1, h2, h3, h4, h5b, h6b, hb56, hb75]
            repeat refine sg ?_
            refine hK23 _ ?_
            clear hK23 K23
            refine AT_cond (g := none) rfl (fun hb89 => ?_) (fun hb89 => ?_)
            ·
             try simp [row_map, h1, h2, h3, h4, h5b, h6b, hb56, hb75] at hb89
             refine AT_seq_region fun K24 hK24 => ?_
             simp [row_map, h1, h2, h3, h4, h5b, h6b, hb56, hb75, hb89]
             repeat refine sg ?_
             refine hK24 _ ?_
             clear hK24 K24
             refine AT_ret ?_
             simp [row_map, Tryd.f21]
             first
             | (simp [eqE, show (p == q) = false by simpa using h1]; done)
             | (simp [eqE, show (kd == kf) = false by simpa using h2]; done)
             | (simp [eqE, h3]; done)
             | (simp [eqE, h4]; done)
             | (simp [eqE, eqTs_len (show ta.length ≠ ua.length by omega)]; done)
             | (simp [eqE, eqEs_len (show l.length ≠ ul.length by omega)]; done)
             | (have he : eqE (.mk kd n t ta l p) (.mk kf m u ua ul q) = (eqTs ta ua && eqEs l ul) := by simp [eqE, show (p == q) = true by simpa using h1, show (kd == kf) = true by simpa using h2, h3, h4]
                rw [he, hT, hc2, hda, hdb, eqEs_cons]; simp [hb89]; done)
             | (have he : eqE (.mk kd n t ta l p) (.mk kf m u ua ul q) = (eqTs ta ua && eqEs l ul) := by simp [eqE, show (p == q) = true by simpa using h1, show (kd == kf) = true by simpa using h2, h3, h4]
                rw [he, hT, hc2, List.drop_eq_nil_of_le hb75, List.drop_eq_nil_of_le (show ul.length ≤ k by omega)]; simp [eqEs]; done)
             | (have he : eqE (.mk kd n t ta l p) (.mk kf m u ua ul q) = (eqTs ta ua && eqEs l ul) := by simp [eqE, show (p == q) = true by simpa using h1, show (kd == kf) = true by simpa using h2, h3, h4]
                rw [he, hc, hda, hdb, eqTs_cons]; simp [hb70]; done)
            ·
             try simp [row_map, h1, h2, h3, h4, h5b, h6b, hb56, hb75] at hb89
             refine AT_skip ?_
             try simp only [nrm, reduceIte, Nat.reduceEqDiff]
             refine hK22 _ ?_
             refine AT_region_q fun K25 hK25 => ?_
             simp [row_map, h1, h2, h3, h4, h5b, h6b, hb56, hb75, hb89]
             repeat refine sg ?_
             refine hK25 _ ?_
             clear hK25 K25
             try simp only [nrm, reduceIte, Nat.reduceEqDiff]
             refine hK19 _ (by first | rfl | simp) (l.length - (k+1)) (by omega) ?_
             refine ⟨k+1, by omega, ?_, by omega, by simp⟩
             rw [hc2, hda, hdb, eqEs_cons]; simp [hb89]
           ·
            try simp [row_map, h1, h2, h3, h4, h5b, h6b, hb56] at hb75
            refine AT_exit ?_
            try simp only [nrm, reduceIte, Nat.reduceEqDiff]
            refine hK17 _ ?_
            refine AT_seq_region fun K26 hK26 => ?_
            simp [row_map, h1, h2, h3, h4, h5b, h6b, hb56, hb75]
            repeat refine sg ?_
            refine hK26 _ ?_
            clear hK26 K26
            refine AT_ret ?_
            simp [row_map, Tryd.f21]
            first
            | (simp [eqE, show (p == q) = false by simpa using h1]; done)
            | (simp [eqE, show (kd == kf) = false by simpa using h2]; done)
            | (simp [eqE, h3]; done)
            | (simp [eqE, h4]; done)
            | (simp [eqE, eqTs_len (show ta.length ≠ ua.length by omega)]; done)
            | (simp [eqE, eqEs_len (show l.length ≠ ul.length by omega)]; done)
            | (have he : eqE (.mk kd n t ta l p) (.mk kf m u ua ul q) = (eqTs ta ua && eqEs l ul) := by simp [eqE, show (p == q) = true by simpa using h1, show (kd == kf) = true by simpa using h2, h3, h4]
               rw [he, hT, hc2, hda, hdb, eqEs_cons]; simp [hb89]; done)
            | (have he : eqE (.mk kd n t ta l p) (.mk kf m u ua ul q) = (eqTs ta ua && eqEs l ul) := by simp [eqE, show (p == q) = true by simpa using h1, show (kd == kf) = true by simpa using h2, h3, h4]
               rw [he, hT, hc2, List.drop_eq_nil_of_le hb75, List.drop_eq_nil_of_le (show ul.length ≤ k by omega)]; simp [eqEs]; done)
            | (have he : eqE (.mk kd n t ta l p) (.mk kf m u ua ul q) = (eqTs ta ua && eqEs l ul) := by simp [eqE, show (p == q) = true by simpa using h1, show (kd == kf) = true by simpa using h2, h3, h4]
               rw [he, hc, hda, hdb, eqTs_cons]; simp [hb70]; done)
      ·
       have h6b : ((l.length : Int) != ul.length) = true := by simpa using h6
       refine AT_seq_region fun K27 hK27 => ?_
       simp [row_map, h1, h2, h3, h4, h5b, h6b]
       repeat refine sg ?_
       try (
        refine RVn_call (c_ref04x_Equal g rnd t u (by omega)) ?_
        simp [row_map, h1, h2, h3, h4, h5b, h6b]
        repeat refine sg ?_)
       refine hK27 _ ?_
       clear hK27 K27
       refine AT_cond (b := true) (g := none) (by simp [h1, h2, h3, h4, h5b, h6b]) (fun hb => ?_) (fun hb => ?_)
       ·
        clear hb
        refine AT_seq_region fun K28 hK28 => ?_
        simp [row_map, h1, h2, h3, h4, h5b, h6b]
        repeat refine sg ?_
        refine hK28 _ ?_
        clear hK28 K28
        refine AT_ret ?_
        simp [row_map, Tryd.f21]
        first
        | (simp [eqE, show (p == q) = false by simpa using h1]; done)
        | (simp [eqE, show (kd == kf) = false by simpa using h2]; done)
        | (simp [eqE, h3]; done)
        | (simp [eqE, h4]; done)
        | (simp [eqE, eqTs_len (show ta.length ≠ ua.length by omega)]; done)
        | (simp [eqE, eqEs_len (show l.length ≠ ul.length by omega)]; done)
        | (have he : eqE (.mk kd n t ta l p) (.mk kf m u ua ul q) = (eqTs ta ua && eqEs l ul) := by simp [eqE, show (p == q) = true by simpa using h1, show (kd == kf) = true by simpa using h2, h3, h4]
           rw [he, hT, hc2, hda, hdb, eqEs_cons]; simp [hb89]; done)
        | (have he : eqE (.mk kd n t ta l p) (.mk kf m u ua ul q) = (eqTs ta ua && eqEs l ul) := by simp [eqE, show (p == q) = true by simpa using h1, show (kd == kf) = true by simpa using h2, h3, h4]
           rw [he, hT, hc2, List.drop_eq_nil_of_le hb75, List.drop_eq_nil_of_le (show ul.length ≤ k by omega)]; simp [eqEs]; done)
        | (have he : eqE (.mk kd n t ta l p) (.mk kf m u ua ul q) = (eqTs ta ua && eqEs l ul) := by simp [eqE, show (p == q) = true by simpa using h1, show (kd == kf) = true by simpa using h2, h3, h4]
           rw [he, hc, hda, hdb, eqTs_cons]; simp [hb70]; done)
       ·
        cases hb
     ·
      have h5b : ((ta.length : Int) != ua.length) = true := by simpa using h5
      refine AT_seq_region fun K29 hK29 => ?_
      simp [row_map, h1, h2, h3, h4, h5b]
      repeat refine sg ?_
      try (
       refine RVn_call (c_ref04x_Equal g rnd t u (by omega)) ?_
       simp [row_map, h1, h2, h3, h4, h5b]
       repeat refine sg ?_)
      refine hK29 _ ?_
      clear hK29 K29
      refine AT_cond (b := true) (g := none) (by simp [h1, h2, h3, h4, h5b]) (fun hb => ?_) (fun hb => ?_)
      ·
       clear hb
       refine AT_seq_region fun K30 hK30 => ?_
       simp [row_map, h1, h2, h3, h4, h5b]
       repeat refine sg ?_
       refine hK30 _ ?_
       clear hK30 K30
       refine AT_ret ?_
       simp [row_map, Tryd.f21]
       first
       | (simp [eqE, show (p == q) = false by simpa using h1]; done)
       | (simp [eqE, show (kd == kf) = false by simpa using h2]; done)
       | (simp [eqE, h3]; done)
       | (simp [eqE, h4]; done)
       | (simp [eqE, eqTs_len (show ta.length ≠ ua.length by omega)]; done)
       | (simp [eqE, eqEs_len (show l.length ≠ ul.length by omega)]; done)
       | (have he : eqE (.mk kd n t ta l p) (.mk kf m u ua ul q) = (eqTs ta ua && eqEs l ul) := by simp [eqE, show (p == q) = true by simpa using h1, show (kd == kf) = true by simpa using h2, h3, h4]
          rw [he, hT, hc2, hda, hdb, eqEs_cons]; simp [hb89]; done)
       | (have he : eqE (.mk kd n t ta l p) (.mk kf m u ua ul q) = (eqTs ta ua && eqEs l ul) := by simp [eqE, show (p == q) = true by simpa using h1, show (kd == kf) = true by simpa using h2, h3, h4]
          rw [he, hT, hc2, List.drop_eq_nil_of_le hb75, List.drop_eq_nil_of_le (show ul.length ≤ k by omega)]; simp [eqEs]; done)
       | (have he : eqE (.mk kd n t ta l p) (.mk kf m u ua ul q) = (eqTs ta ua && eqEs l ul) := by simp [eqE, show (p == q) = true by simpa using h1, show (kd == kf) = true by simpa using h2, h3, h4]
          rw [he, hc, hda, hdb, eqTs_cons]; simp [hb70]; done)
      ·
       cases hb
  ·
   refine AT_seq_region fun K31 hK31 => ?_
   simp [row_map, h1, h2]
   repeat refine sg ?_
   try (
    refine RVn_call (c_ref04x_Equal g rnd t u (by omega)) ?_
    simp [row_map, h1, h2]
    repeat refine sg ?_)
   refine hK31 _ ?_
   clear hK31 K31
   refine AT_cond (b := true) (g := none) (by simp [h1, h2]) (fun hb => ?_) (fun hb => ?_)
   ·
    clear hb
    refine AT_seq_region fun K32 hK32 => ?_
    simp [row_map, h1, h2]
    repeat refine sg ?_
    refine hK32 _ ?_
    clear hK32 K32
    refine AT_ret ?_
    simp [row_map, Tryd.f21]
    first
    | (simp [eqE, show (p == q) = false by simpa using h1]; done)
    | (simp [eqE, show (kd == kf) = false by simpa using h2]; done)
    | (simp [eqE, h3]; done)
    | (simp [eqE, h4]; done)
    | (simp [eqE, eqTs_len (show ta.length ≠ ua.length by omega)]; done)
    | (simp [eqE, eqEs_len (show l.length ≠ ul.length by omega)]; done)
    | (have he : eqE (.mk kd n t ta l p) (.mk kf m u ua ul q) = (eqTs ta ua && eqEs l ul) := by simp [eqE, show (p == q) = true by simpa using h1, show (kd == kf) = true by simpa using h2, h3, h4]
       rw [he, hT, hc2, hda, hdb, eqEs_cons]; simp [hb89]; done)
    | (have he : eqE (.mk kd n t ta l p) (.mk kf m u ua ul q) = (eqTs ta ua && eqEs l ul) := by simp [eqE, show (p == q) = true by simpa using h1, show (kd == kf) = true by simpa using h2, h3, h4]
       rw [he, hT, hc2, List.drop_eq_nil_of_le hb75, List.drop_eq_nil_of_le (show ul.length ≤ k by omega)]; simp [eqEs]; done)
    | (have he : eqE (.mk kd n t ta l p) (.mk kf m u ua ul q) = (eqTs ta ua && eqEs l ul) := by simp [eqE, show (p == q) = true by simpa using h1, show (kd == kf) = true by simpa using h2, h3, h4]
       rw [he, hc, hda, hdb, eqTs_cons]; simp [hb70]; done)
   ·
    cases hb
 ·
  refine AT_seq_region fun K33 hK33 => ?_
  simp [row_map, h1]
  repeat refine sg ?_
  try (
   refine RVn_call (c_ref04x_Equal g rnd t u (by omega)) ?_
   simp [row_map, h1]
   repeat refine sg ?_)
  refine hK33 _ ?_
  clear hK33 K33
  refine AT_cond (b := true) (g := none) (by simp [h1]) (fun hb => ?_) (fun hb => ?_)
  ·
   clear hb
   refine AT_seq_region fun K34 hK34 => ?_
   simp [row_map, h1]
   repeat refine sg ?_
   refine hK34 _ ?_
   clear hK34 K34
   refine AT_ret ?_
   simp [row_map, Tryd.f21]
   first
   | (simp [eqE, show (p == q) = false by simpa using h1]; done)
   | (simp [eqE, show (kd == kf) = false by simpa using h2]; done)
   | (simp [eqE, h3]; done)
   | (simp [eqE, h4]; done)
   | (simp [eqE, eqTs_len (show ta.length ≠ ua.length by omega)]; done)
   | (simp [eqE, eqEs_len (show l.length ≠ ul.length by omega)]; done)
   | (have he : eqE (.mk kd n t ta l p) (.mk kf m u ua ul q) = (eqTs ta ua && eqEs l ul) := by simp [eqE, show (p == q) = true by simpa using h1, show (kd == kf) = true by simpa using h2, h3, h4]
      rw [he, hT, hc2, hda, hdb, eqEs_cons]; simp [hb89]; done)
   | (have he : eqE (.mk kd n t ta l p) (.mk kf m u ua ul q) = (eqTs ta ua && eqEs l ul) := by simp [eqE, show (p == q) = true by simpa using h1, show (kd == kf) = true by simpa using h2, h3, h4]
      rw [he, hT, hc2, List.drop_eq_nil_of_le hb75, List.drop_eq_nil_of_le (show ul.length ≤ k by omega)]; simp [eqEs]; done)
   | (have he : eqE (.mk kd n t ta l p) (.mk kf m u ua ul q) = (eqTs ta ua && eqEs l ul) := by simp [eqE, show (p == q) = true by simpa using h1, show (kd == kf) = true by simpa using h2, h3, h4]
      rw [he, hc, hda, hdb, eqTs_cons]; simp [hb70]; done)
  ·
   cases hb

theorem c_ref05x_Value (e : Exp) : wtE e ≤ 1000000000 → Valid Tryd.prog (G0 g rnd) 19 [.agg (encE e)] (.bool (valE e)) := by
 induction e using Exp.ind with
 | h kd n t ta l p ih =>
 intro hw
 have hw2 : n.length + 1 + wt t + wts ta + wtEs l ≤ 1000000000 := by simpa [wtE_mk] using hw
 have hln := wtEs_len l
 have hla := wts_len ta
 refine valid_of [] Tryd.func19 rfl (by kernel_rfl) ?_
 refine AT_seq_region fun K1 hK1 => ?_
 simp [row_map, Tryd.f19]
 repeat refine sg ?_
 refine hK1 _ ?_
 clear hK1 K1
 refine AT_seq_k fun K2 hK2 => ?_
 refine AT_seq_region fun K3 hK3 => ?_
 simp [row_map]
 repeat refine sg ?_
 refine hK3 _ ?_
 clear hK3 K3
 refine AT_block ?_
 refine AT_loop_q [1,3] [1] (fun j s => ∃ k, k ≤ l.length ∧ valEs l = valEs (l.drop k) ∧ j = l.length - k ∧ s = { n := 21, tm := [(1, .lp 1 0), (3, .v (.int .i64 k) none)], bx := [(1, encE (.mk kd n t ta l p))], tb := [], sh := [], hint := [] }) (l.length) (by first | rfl | simp) ?_ ?_
 ·
  exact ⟨0, by simp⟩
 ·
  rintro j s ⟨k, hk, hc, rfl, rfl⟩ K4 hK4
  refine AT_seq_k fun K5 hK5 => ?_
  refine AT_seq_region fun K6 hK6 => ?_
  simp [row_map]
  repeat refine sg ?_
  refine hK6 _ ?_
  clear hK6 K6
  refine AT_cond (g := none) rfl (fun hb8 => ?_) (fun hb8 => ?_)
  ·
   try simp [row_map] at hb8
   refine AT_skip ?_
   try simp only [nrm, reduceIte, Nat.reduceEqDiff]
   refine hK5 _ ?_
   refine AT_seq_k fun K7 hK7 => ?_
   refine AT_block ?_
   refine AT_seq_region fun K8 hK8 => ?_
   have hm := wtEs_mem (l := l) (e := l[k]) (by simp)
   have hda := List.drop_eq_getElem_cons hb8
   simp [row_map, hb8]
   repeat refine sg ?_
   refine RVn_call (ih l[k] (by simp) (by omega)) ?_
   simp [row_map, hb8]
   repeat refine sg ?_
   refine hK8 _ ?_
   clear hK8 K8
   refine AT_cond (g := none) rfl (fun hb17 => ?_) (fun hb17 => ?_)
   ·
    try simp [row_map, hb8] at hb17
    refine AT_seq_region fun K9 hK9 => ?_
    simp [row_map, hb8, hb17]
    repeat refine sg ?_
    refine hK9 _ ?_
    clear hK9 K9
    refine AT_ret ?_
    simp [row_map, Tryd.f19]
    first
    | (rw [valE, hc, hda, valEs_cons]; simp [hb17]; done)
    | (rw [valE, hc, List.drop_eq_nil_of_le hb8]; simp [valEs]; done)
   ·
    try simp [row_map, hb8] at hb17
    refine AT_skip ?_
    try simp only [nrm, reduceIte, Nat.reduceEqDiff]
    refine hK7 _ ?_
    refine AT_region_q fun K10 hK10 => ?_
    simp [row_map, hb8, hb17]
    repeat refine sg ?_
    refine hK10 _ ?_
    clear hK10 K10
    try simp only [nrm, reduceIte, Nat.reduceEqDiff]
    refine hK4 _ (by first | rfl | simp) (l.length - (k+1)) (by omega) ?_
    refine ⟨k+1, by omega, ?_, by omega, by simp⟩
    rw [hc, hda, valEs_cons]; simp [hb17]
  ·
   try simp [row_map] at hb8
   refine AT_exit ?_
   try simp only [nrm, reduceIte, Nat.reduceEqDiff]
   refine hK2 _ ?_
   refine AT_seq_region fun K11 hK11 => ?_
   simp [row_map, hb8]
   repeat refine sg ?_
   refine hK11 _ ?_
   clear hK11 K11
   refine AT_ret ?_
   simp [row_map, Tryd.f19]
   first
   | (rw [valE, hc, hda, valEs_cons]; simp [hb17]; done)
   | (rw [valE, hc, List.drop_eq_nil_of_le hb8]; simp [valEs]; done)

theorem c_ref05x_List (e : Exp) : wtE e ≤ 1000000000 → Valid Tryd.prog (G0 g rnd) 27 [.agg (encE e)] (.slice ((lstE e).map encE)) := by
 induction e using Exp.ind with
 | h kd n t ta l p ih =>
 intro hw
 have hw2 : n.length + 1 + wt t + wts ta + wtEs l ≤ 1000000000 := by simpa [wtE_mk] using hw
 have hln := wtEs_len l
 have hla := wts_len ta
 refine valid_of [(6, 27)] Tryd.func27 rfl (by kernel_rfl) ?_
 refine AT_seq_region fun K1 hK1 => ?_
 simp [row_map, Tryd.f27]
 repeat refine sg ?_
 refine hK1 _ ?_
 clear hK1 K1
 refine AT_seq_region fun K2 hK2 => ?_
 simp [row_map]
 repeat refine sg ?_
 refine hK2 _ ?_
 clear hK2 K2
 refine AT_seq_k fun K3 hK3 => ?_
 refine AT_seq_region fun K4 hK4 => ?_
 simp [row_map]
 repeat refine sg ?_
 refine hK4 _ ?_
 clear hK4 K4
 refine AT_block ?_
 refine AT_loop_q [3,4,1] [1] (fun j s => ∃ k, k ≤ l.length ∧ j = l.length - k ∧ s = { n := 23, tm := [(3, .v (.slice (((.mk kd n t ta l p) :: lstEs (l.take k)).map encE)) (some (6, 27))), (4, .v (.int .i64 k) none), (1, .lp 1 0)], bx := [(1, encE (.mk kd n t ta l p))], tb := [], sh := [], hint := [(6, 27)] }) (l.length) (by first | rfl | simp) ?_ ?_
 ·
  exact ⟨0, by simp [lstEs]⟩
 ·
  rintro j s ⟨k, hk, rfl, rfl⟩ K5 hK5
  refine AT_seq_k fun K6 hK6 => ?_
  refine AT_seq_region fun K7 hK7 => ?_
  simp [row_map]
  repeat refine sg ?_
  refine hK7 _ ?_
  clear hK7 K7
  refine AT_cond (g := none) rfl (fun hb11 => ?_) (fun hb11 => ?_)
  ·
   try simp [row_map] at hb11
   refine AT_skip ?_
   try simp only [nrm, reduceIte, Nat.reduceEqDiff]
   refine hK6 _ ?_
   refine AT_seq_k fun K8 hK8 => ?_
   refine AT_block ?_
   refine AT_region_q fun K9 hK9 => ?_
   have hm := wtEs_mem (l := l) (e := l[k]) (by simp)
   have hdk := lstE_wt l[k]
   have hdt := lstEs_wts (l.take k)
   have hwt := wtEs_take l k
   simp [row_map, hb11]
   repeat refine sg ?_
   refine RVn_call (ih l[k] (by simp) (by omega)) ?_
   simp [row_map, hb11]
   repeat refine sg ?_
   refine hK9 _ ?_
   clear hK9 K9
   try simp only [nrm, reduceIte, Nat.reduceEqDiff]
   refine hK8 _ ?_
   refine AT_region_q fun K10 hK10 => ?_
   simp [row_map, hb11]
   repeat refine sg ?_
   refine hK10 _ ?_
   clear hK10 K10
   try simp only [nrm, reduceIte, Nat.reduceEqDiff]
   refine hK5 _ (by first | rfl | simp) (l.length - (k+1)) (by omega) ?_
   exact ⟨k+1, by omega, by omega, by simp [lstEs_take _ _ hb11]⟩
  ·
   try simp [row_map] at hb11
   refine AT_exit ?_
   try simp only [nrm, reduceIte, Nat.reduceEqDiff]
   refine hK3 _ ?_
   refine AT_seq_region fun K11 hK11 => ?_
   simp [row_map, hb11]
   repeat refine sg ?_
   refine hK11 _ ?_
   clear hK11 K11
   refine AT_ret ?_
   simp [row_map, Tryd.f27]
   rw [List.take_of_length_le hb11]; simp [lstE]

theorem c_expr_Depth (e : Exp) : wtE e ≤ 1000000000 → Valid Tryd.prog (G0 g rnd) 16 [.agg (encE e)] (.int .i64 (depE e)) := by
 induction e using Exp.ind with
 | h kd n t ta l p ih =>
 intro hw
 have hw2 : n.length + 1 + wt t + wts ta + wtEs l ≤ 1000000000 := by simpa [wtE_mk] using hw
 have hln := wtEs_len l
 have hla := wts_len ta
 have hdt := dep_wt t
 obtain ⟨D, hD⟩ : ∃ D, D = if typedE kd then dep t else 0 := ⟨_, rfl⟩
 have hDl : D ≤ wt t := by rw [hD]; split <;> omega
 refine valid_of [] Tryd.func16 rfl (by kernel_rfl) ?_
 refine AT_seq_region fun K1 hK1 => ?_
 simp [row_map, Tryd.f16]
 repeat refine sg ?_
 refine hK1 _ ?_
 clear hK1 K1
 refine AT_seq_region fun K2 hK2 => ?_
 simp [row_map]
 repeat refine sg ?_
 refine hK2 _ ?_
 clear hK2 K2
 refine AT_seq_k fun K3 hK3 => ?_
 cases h3 : (kd == 3)
 ·
  cases h5 : (kd == 5)
  ·
   have hDd : D = 0 := by rw [hD]; simp [typedE, h3, h5]
   refine AT_seq_region fun K4 hK4 => ?_
   simp [row_map, h3, h5]
   repeat refine sg ?_
   refine hK4 _ ?_
   clear hK4 K4
   refine AT_cond (b := false) (g := none) (by simp [h3, h5]) (fun hb => ?_) (fun hb => ?_)
   ·
    cases hb
   ·
    clear hb
    refine AT_skip ?_
    try simp only [nrm, reduceIte, Nat.reduceEqDiff]
    refine hK3 _ ?_
    refine AT_seq_k fun K5 hK5 => ?_
    refine AT_seq_region fun K6 hK6 => ?_
    simp [row_map, h3, h5]
    repeat refine sg ?_
    refine hK6 _ ?_
    clear hK6 K6
    refine AT_block ?_
    refine AT_loop_q [3,20,21,22,1] [1] (fun j s => ∃ k M, k ≤ ta.length ∧ M = max D (deps (ta.take k)) ∧ j = ta.length - k ∧ s = { n := 45, tm := [(3, .v (.int .i64 (M : Nat)) none), (20, .v (.slice (ta.map encTy)) none), (21, .v (.int .i64 ta.length) none), (22, .v (.int .i64 k) none), (1, .lp 1 0)], bx := [(1, encE (.mk kd n t ta l p))], tb := [], sh := [], hint := [] }) (ta.length) (by first | rfl | simp) ?_ ?_
    ·
     exact ⟨0, D, by simp [deps, hDd]⟩
    ·
     rintro j s ⟨k, M, hk, hM, rfl, rfl⟩ K7 hK7
     refine AT_seq_region fun K8 hK8 => ?_
     simp [row_map, h3, h5]
     repeat refine sg ?_
     refine hK8 _ ?_
     clear hK8 K8
     refine AT_seq_k fun K9 hK9 => ?_
     refine AT_cond (g := none) rfl (fun hb23 => ?_) (fun hb23 => ?_)
     ·
      try simp [row_map, h3, h5] at hb23
      refine AT_skip ?_
      try simp only [nrm, reduceIte, Nat.reduceEqDiff]
      refine hK9 _ ?_
      refine AT_seq_k fun K10 hK10 => ?_
      refine AT_block ?_
      refine AT_seq_region fun K11 hK11 => ?_
      have hm := wts_mem (l := ta) (t := ta[k]) (by simp)
      have hdk := dep_wt ta[k]
      have hdtk := deps_wts (ta.take k)
      have hwt := wts_take ta k
      simp [row_map, h3, h5, hb23]
      repeat refine sg ?_
      refine hK11 _ ?_
      clear hK11 K11
      refine AT_region_q fun K12 hK12 => ?_
      simp [row_map, h3, h5, hb23]
      repeat refine sg ?_
      refine RVn_call (c_types_Depth g rnd ta[k] (by omega)) ?_
      simp [row_map, h3, h5, hb23]
      repeat refine sg ?_
      refine hK12 _ ?_
      clear hK12 K12
      try simp only [nrm, reduceIte, Nat.reduceEqDiff]
      refine hK10 _ ?_
      refine AT_region_q fun K13 hK13 => ?_
      simp [row_map, h3, h5, hb23]
      repeat refine sg ?_
      refine hK13 _ ?_
      clear hK13 K13
      try simp only [nrm, reduceIte, Nat.reduceEqDiff]
      refine hK7 _ (by first | rfl | simp) (ta.length - (k+1)) (by omega) ?_
      refine ⟨k+1, max M (dep ta[k]), by omega, by rw [deps_take _ _ hb23]; omega, by omega, ?_⟩
      simp
      try (split <;> omega)
     ·
      try simp [row_map, h3, h5] at hb23
      refine AT_exit ?_
      try simp only [nrm, reduceIte, Nat.reduceEqDiff]
      refine hK5 _ ?_
      refine AT_seq_k fun K14 hK14 => ?_
      refine AT_seq_region fun K15 hK15 => ?_
      simp [row_map, h3, h5, hb23]
      repeat refine sg ?_
      refine hK15 _ ?_
      clear hK15 K15
      refine AT_block ?_
      refine AT_loop_q [3,32,33,34,1] [1] (fun j s => ∃ k M, k ≤ l.length ∧ M = max (max D (deps ta)) (depEs (l.take k)) ∧ j = l.length - k ∧ s = { n := 45, tm := [(3, .v (.int .i64 (M : Nat)) none), (32, .v (.slice (l.map encE)) none), (33, .v (.int .i64 l.length) none), (34, .v (.int .i64 k) none), (1, .lp 1 0)], bx := [(1, encE (.mk kd n t ta l p))], tb := [], sh := [], hint := [] }) (l.length) (by first | rfl | simp) ?_ ?_
      ·
       rw [List.take_of_length_le hb23] at hM
       exact ⟨0, M, by simp [depEs, hM]⟩
      ·
       rintro j s ⟨k, M, hk, hM, rfl, rfl⟩ K16 hK16
       refine AT_seq_region fun K17 hK17 => ?_
       simp [row_map, h3, h5, hb23]
       repeat refine sg ?_
       refine hK17 _ ?_
       clear hK17 K17
       refine AT_seq_k fun K18 hK18 => ?_
       refine AT_cond (g := none) rfl (fun hb35 => ?_) (fun hb35 => ?_)
       ·
        try simp [row_map, h3, h5, hb23] at hb35
        refine AT_skip ?_
        try simp only [nrm, reduceIte, Nat.reduceEqDiff]
        refine hK18 _ ?_
        refine AT_seq_k fun K19 hK19 => ?_
        refine AT_block ?_
        refine AT_seq_region fun K20 hK20 => ?_
        have hm := wtEs_mem (l := l) (e := l[k]) (by simp)
        have hdk := depE_wt l[k]
        have hdlk := depEs_wts (l.take k)
        have hwtl := wtEs_take l k
        have hdta := deps_wts ta
        simp [row_map, h3, h5, hb23, hb35]
        repeat refine sg ?_
        refine hK20 _ ?_
        clear hK20 K20
        refine AT_region_q fun K21 hK21 => ?_
        simp [row_map, h3, h5, hb23, hb35]
        repeat refine sg ?_
        refine RVn_call (ih l[k] (by simp) (by omega)) ?_
        simp [row_map, h3, h5, hb23, hb35]
        repeat refine sg ?_
        refine hK21 _ ?_
        clear hK21 K21
        try simp only [nrm, reduceIte, Nat.reduceEqDiff]
        refine hK19 _ ?_
        refine AT_region_q fun K22 hK22 => ?_
        simp [row_map, h3, h5, hb23, hb35]
        repeat refine sg ?_
        refine hK22 _ ?_
        clear hK22 K22
        try simp only [nrm, reduceIte, Nat.reduceEqDiff]
        refine hK16 _ (by first | rfl | simp) (l.length - (k+1)) (by omega) ?_
        refine ⟨k+1, max M (depE l[k]), by omega, by rw [depEs_take _ _ hb35]; omega, by omega, ?_⟩
        simp
        try (split <;> omega)
       ·
        try simp [row_map, h3, h5, hb23] at hb35
        refine AT_exit ?_
        try simp only [nrm, reduceIte, Nat.reduceEqDiff]
        refine hK14 _ ?_
        refine AT_seq_region fun K23 hK23 => ?_
        have hdta := deps_wts ta
        have hdl := depEs_wts (l.take k)
        have hwtl := wtEs_take l k
        simp [row_map, h3, h5, hb23, hb35]
        repeat refine sg ?_
        refine hK23 _ ?_
        clear hK23 K23
        refine AT_ret ?_
        simp [row_map, Tryd.f16]
        rw [List.take_of_length_le hb35] at hM
        rw [depE, ← hD]; omega
  ·
   have hDd : D = dep t := by rw [hD]; simp [typedE, h5]
   refine AT_seq_region fun K24 hK24 => ?_
   simp [row_map, h3, h5]
   repeat refine sg ?_
   refine hK24 _ ?_
   clear hK24 K24
   refine AT_cond (b := true) (g := none) (by simp [h3, h5]) (fun hb => ?_) (fun hb => ?_)
   ·
    clear hb
    refine AT_region_q fun K25 hK25 => ?_
    simp [row_map, h3, h5]
    repeat refine sg ?_
    refine RVn_call (c_types_Depth g rnd t (by omega)) ?_
    simp [row_map, h3, h5]
    repeat refine sg ?_
    refine hK25 _ ?_
    clear hK25 K25
    try simp only [nrm, reduceIte, Nat.reduceEqDiff]
    refine hK3 _ ?_
    refine AT_seq_k fun K26 hK26 => ?_
    refine AT_seq_region fun K27 hK27 => ?_
    simp [row_map, h3, h5]
    repeat refine sg ?_
    refine hK27 _ ?_
    clear hK27 K27
    refine AT_block ?_
    refine AT_loop_q [3,20,21,22,1] [1] (fun j s => ∃ k M, k ≤ ta.length ∧ M = max D (deps (ta.take k)) ∧ j = ta.length - k ∧ s = { n := 45, tm := [(3, .v (.int .i64 (M : Nat)) none), (20, .v (.slice (ta.map encTy)) none), (21, .v (.int .i64 ta.length) none), (22, .v (.int .i64 k) none), (1, .lp 1 0)], bx := [(1, encE (.mk kd n t ta l p))], tb := [], sh := [], hint := [] }) (ta.length) (by first | rfl | simp) ?_ ?_
    ·
     exact ⟨0, D, by simp [deps, hDd]⟩
    ·
     rintro j s ⟨k, M, hk, hM, rfl, rfl⟩ K28 hK28
     refine AT_seq_region fun K29 hK29 => ?_
     simp [row_map, h3, h5]
     repeat refine sg ?_
     refine hK29 _ ?_
     clear hK29 K29
     refine AT_seq_k fun K30 hK30 => ?_
     refine AT_cond (g := none) rfl (fun hb23 => ?_) (fun hb23 => ?_)
     ·
      try simp [row_map, h3, h5] at hb23
      refine AT_skip ?_
      try simp only [nrm, reduceIte, Nat.reduceEqDiff]
      refine hK30 _ ?_
      refine AT_seq_k fun K31 hK31 => ?_
      refine AT_block ?_
      refine AT_seq_region fun K32 hK32 => ?_
      have hm := wts_mem (l := ta) (t := ta[k]) (by simp)
      have hdk := dep_wt ta[k]
      have hdtk := deps_wts (ta.take k)
      have hwt := wts_take ta k
      simp [row_map, h3, h5, hb23]
      repeat refine sg ?_
      refine hK32 _ ?_
      clear hK32 K32
      refine AT_region_q fun K33 hK33 => ?_
      simp [row_map, h3, h5, hb23]
      repeat refine sg ?_
      refine RVn_call (c_types_Depth g rnd ta[k] (by omega)) ?_
      simp [row_map, h3, h5, hb23]
      repeat refine sg ?_
      refine hK33 _ ?_
      clear hK33 K33
      try simp only [nrm, reduceIte, Nat.reduceEqDiff]
      refine hK31 _ ?_
      refine AT_region_q fun K34 hK34 => ?_
      simp [row_map, h3, h5, hb23]
      repeat refine sg ?_
      refine hK34 _ ?_
      clear hK34 K34
      try simp only [nrm, reduceIte, Nat.reduceEqDiff]
      refine hK28 _ (by first | rfl | simp) (ta.length - (k+1)) (by omega) ?_
      refine ⟨k+1, max M (dep ta[k]), by omega, by rw [deps_take _ _ hb23]; omega, by omega, ?_⟩
      simp
      try (split <;> omega)
     ·
      try simp [row_map, h3, h5] at hb23
      refine AT_exit ?_
      try simp only [nrm, reduceIte, Nat.reduceEqDiff]
      refine hK26 _ ?_
      refine AT_seq_k fun K35 hK35 => ?_
      refine AT_seq_region fun K36 hK36 => ?_
      simp [row_map, h3, h5, hb23]
      repeat refine sg ?_
      refine hK36 _ ?_
      clear hK36 K36
      refine AT_block ?_
      refine AT_loop_q [3,32,33,34,1] [1] (fun j s => ∃ k M, k ≤ l.length ∧ M = max (max D (deps ta)) (depEs (l.take k)) ∧ j = l.length - k ∧ s = { n := 45, tm := [(3, .v (.int .i64 (M : Nat)) none), (32, .v (.slice (l.map encE)) none), (33, .v (.int .i64 l.length) none), (34, .v (.int .i64 k) none), (1, .lp 1 0)], bx := [(1, encE (.mk kd n t ta l p))], tb := [], sh := [], hint := [] }) (l.length) (by first | rfl | simp) ?_ ?_
      ·
       rw [List.take_of_length_le hb23] at hM
       exact ⟨0, M, by simp [depEs, hM]⟩
      ·
       rintro j s ⟨k, M, hk, hM, rfl, rfl⟩ K37 hK37
       refine AT_seq_region fun K38 hK38 => ?_
       simp [row_map, h3, h5, hb23]
       repeat refine sg ?_
       refine hK38 _ ?_
       clear hK38 K38
       refine AT_seq_k fun K39 hK39 => ?_
       refine AT_cond (g := none) rfl (fun hb35 => ?_) (fun hb35 => ?_)
       ·
        try simp [row_map, h3, h5, hb23] at hb35
        refine AT_skip ?_
        try simp only [nrm, reduceIte, Nat.reduceEqDiff]
        refine hK39 _ ?_
        refine AT_seq_k fun K40 hK40 => ?_
        refine AT_block ?_
        refine AT_seq_region fun K41 hK41 => ?_
        have hm := wtEs_mem (l := l) (e := l[k]) (by simp)
        have hdk := depE_wt l[k]
        have hdlk := depEs_wts (l.take k)
        have hwtl := wtEs_take l k
        have hdta := deps_wts ta
        simp [row_map, h3, h5, hb23, hb35]
        repeat refine sg ?_
        refine hK41 _ ?_
        clear hK41 K41
        refine AT_region_q fun K42 hK42 => ?_
        simp [row_map, h3, h5, hb23, hb35]
        repeat refine sg ?_
        refine RVn_call (ih l[k] (by simp) (by omega)) ?_
        simp [row_map, h3, h5, hb23, hb35]
        repeat refine sg ?_
        refine hK42 _ ?_
        clear hK42 K42
        try simp only [nrm, reduceIte, Nat.reduceEqDiff]
        refine hK40 _ ?_
        refine AT_region_q fun K43 hK43 => ?_
        simp [row_map, h3, h5, hb23, hb35]
        repeat refine sg ?_
        refine hK43 _ ?_
        clear hK43 K43
        try simp only [nrm, reduceIte, Nat.reduceEqDiff]
        refine hK37 _ (by first | rfl | simp) (l.length - (k+1)) (by omega) ?_
        refine ⟨k+1, max M (depE l[k]), by omega, by rw [depEs_take _ _ hb35]; omega, by omega, ?_⟩
        simp
        try (split <;> omega)
       ·
        try simp [row_map, h3, h5, hb23] at hb35
        refine AT_exit ?_
        try simp only [nrm, reduceIte, Nat.reduceEqDiff]
        refine hK35 _ ?_
        refine AT_seq_region fun K44 hK44 => ?_
        have hdta := deps_wts ta
        have hdl := depEs_wts (l.take k)
        have hwtl := wtEs_take l k
        simp [row_map, h3, h5, hb23, hb35]
        repeat refine sg ?_
        refine hK44 _ ?_
        clear hK44 K44
        refine AT_ret ?_
        simp [row_map, Tryd.f16]
        rw [List.take_of_length_le hb35] at hM
        rw [depE, ← hD]; omega
   ·
    cases hb
 ·
  have hDd : D = dep t := by rw [hD]; simp [typedE, h3]
  refine AT_seq_region fun K45 hK45 => ?_
  simp [row_map, h3]
  repeat refine sg ?_
  refine hK45 _ ?_
  clear hK45 K45
  refine AT_cond (b := true) (g := none) (by simp [h3]) (fun hb => ?_) (fun hb => ?_)
  ·
   clear hb
   refine AT_region_q fun K46 hK46 => ?_
   simp [row_map, h3]
   repeat refine sg ?_
   refine RVn_call (c_types_Depth g rnd t (by omega)) ?_
   simp [row_map, h3]
   repeat refine sg ?_
   refine hK46 _ ?_
   clear hK46 K46
   try simp only [nrm, reduceIte, Nat.reduceEqDiff]
   refine hK3 _ ?_
   refine AT_seq_k fun K47 hK47 => ?_
   refine AT_seq_region fun K48 hK48 => ?_
   simp [row_map, h3]
   repeat refine sg ?_
   refine hK48 _ ?_
   clear hK48 K48
   refine AT_block ?_
   refine AT_loop_q [3,20,21,22,1] [1] (fun j s => ∃ k M, k ≤ ta.length ∧ M = max D (deps (ta.take k)) ∧ j = ta.length - k ∧ s = { n := 45, tm := [(3, .v (.int .i64 (M : Nat)) none), (20, .v (.slice (ta.map encTy)) none), (21, .v (.int .i64 ta.length) none), (22, .v (.int .i64 k) none), (1, .lp 1 0)], bx := [(1, encE (.mk kd n t ta l p))], tb := [], sh := [], hint := [] }) (ta.length) (by first | rfl | simp) ?_ ?_
   ·
    exact ⟨0, D, by simp [deps, hDd]⟩
   ·
    rintro j s ⟨k, M, hk, hM, rfl, rfl⟩ K49 hK49
    refine AT_seq_region fun K50 hK50 => ?_
    simp [row_map, h3]
    repeat refine sg ?_
    refine hK50 _ ?_
    clear hK50 K50
    refine AT_seq_k fun K51 hK51 => ?_
    refine AT_cond (g := none) rfl (fun hb23 => ?_) (fun hb23 => ?_)
    ·
     try simp [row_map, h3] at hb23
     refine AT_skip ?_
     try simp only [nrm, reduceIte, Nat.reduceEqDiff]
     refine hK51 _ ?_
     refine AT_seq_k fun K52 hK52 => ?_
     refine AT_block ?_
     refine AT_seq_region fun K53 hK53 => ?_
     have hm := wts_mem (l := ta) (t := ta[k]) (by simp)
     have hdk := dep_wt ta[k]
     have hdtk := deps_wts (ta.take k)
     have hwt := wts_take ta k
     simp [row_map, h3, hb23]
     repeat refine sg ?_
     refine hK53 _ ?_
     clear hK53 K53
     refine AT_region_q fun K54 hK54 => ?_
     simp [row_map, h3, hb23]
     repeat refine sg ?_
     refine RVn_call (c_types_Depth g rnd ta[k] (by omega)) ?_
     simp [row_map, h3, hb23]
     repeat refine sg ?_
     refine hK54 _ ?_
     clear hK54 K54
     try simp only [nrm, reduceIte, Nat.reduceEqDiff]
     refine hK52 _ ?_
     refine AT_region_q fun K55 hK55 => ?_
     simp [row_map, h3, hb23]
     repeat refine sg ?_
     refine hK55 _ ?_
     clear hK55 K55
     try simp only [nrm, reduceIte, Nat.reduceEqDiff]
     refine hK49 _ (by first | rfl | simp) (ta.length - (k+1)) (by omega) ?_
     refine ⟨k+1, max M (dep ta[k]), by omega, by rw [deps_take _ _ hb23]; omega, by omega, ?_⟩
     simp
     try (split <;> omega)
    ·
     try simp [row_map, h3] at hb23
     refine AT_exit ?_
     try simp only [nrm, reduceIte, Nat.reduceEqDiff]
     refine hK47 _ ?_
     refine AT_seq_k fun K56 hK56 => ?_
     refine AT_seq_region fun K57 hK57 => ?_
     simp [row_map, h3, hb23]
     repeat refine sg ?_
     refine hK57 _ ?_
     clear hK57 K57
     refine AT_block ?_
     refine AT_loop_q [3,32,33,34,1] [1] (fun j s => ∃ k M, k ≤ l.length ∧ M = max (max D (deps ta)) (depEs (l.take k)) ∧ j = l.length - k ∧ s = { n := 45, tm := [(3, .v (.int .i64 (M : Nat)) none), (32, .v (.slice (l.map encE)) none), (33, .v (.int .i64 l.length) none), (34, .v (.int .i64 k) none), (1, .lp 1 0)], bx := [(1, encE (.mk kd n t ta l p))], tb := [], sh := [], hint := [] }) (l.length) (by first | rfl | simp) ?_ ?_
     ·
      rw [List.take_of_length_le hb23] at hM
      exact ⟨0, M, by simp [depEs, hM]⟩
     ·
      rintro j s ⟨k, M, hk, hM, rfl, rfl⟩ K58 hK58
      refine AT_seq_region fun K59 hK59 => ?_
      simp [row_map, h3, hb23]
      repeat refine sg ?_
      refine hK59 _ ?_
      clear hK59 K59
      refine AT_seq_k fun K60 hK60 => ?_
      refine AT_cond (g := none) rfl (fun hb35 => ?_) (fun hb35 => ?_)
      ·
       try simp [row_map, h3, hb23] at hb35
       refine AT_skip ?_
       try simp only [nrm, reduceIte, Nat.reduceEqDiff]
       refine hK60 _ ?_
       refine AT_seq_k fun K61 hK61 => ?_
       refine AT_block ?_
       refine AT_seq_region fun K62 hK62 => ?_
       have hm := wtEs_mem (l := l) (e := l[k]) (by simp)
       have hdk := depE_wt l[k]
       have hdlk := depEs_wts (l.take k)
       have hwtl := wtEs_take l k
       have hdta := deps_wts ta
       simp [row_map, h3, hb23, hb35]
       repeat refine sg ?_
       refine hK62 _ ?_
       clear hK62 K62
       refine AT_region_q fun K63 hK63 => ?_
       simp [row_map, h3, hb23, hb35]
       repeat refine sg ?_
       refine RVn_call (ih l[k] (by simp) (by omega)) ?_
       simp [row_map, h3, hb23, hb35]
       repeat refine sg ?_
       refine hK63 _ ?_
       clear hK63 K63
       try simp only [nrm, reduceIte, Nat.reduceEqDiff]
       refine hK61 _ ?_
       refine AT_region_q fun K64 hK64 => ?_
       simp [row_map, h3, hb23, hb35]
       repeat refine sg ?_
       refine hK64 _ ?_
       clear hK64 K64
       try simp only [nrm, reduceIte, Nat.reduceEqDiff]
       refine hK58 _ (by first | rfl | simp) (l.length - (k+1)) (by omega) ?_
       refine ⟨k+1, max M (depE l[k]), by omega, by rw [depEs_take _ _ hb35]; omega, by omega, ?_⟩
       simp
       try (split <;> omega)
      ·
       try simp [row_map, h3, hb23] at hb35
       refine AT_exit ?_
       try simp only [nrm, reduceIte, Nat.reduceEqDiff]
       refine hK56 _ ?_
       refine AT_seq_region fun K65 hK65 => ?_
       have hdta := deps_wts ta
       have hdl := depEs_wts (l.take k)
       have hwtl := wtEs_take l k
       simp [row_map, h3, hb23, hb35]
       repeat refine sg ?_
       refine hK65 _ ?_
       clear hK65 K65
       refine AT_ret ?_
       simp [row_map, Tryd.f16]
       rw [List.take_of_length_le hb35] at hM
       rw [depE, ← hD]; omega
  ·
   cases hb

theorem c_ref05x_Depth (e : Exp) : wtE e ≤ 1000000000 → Valid Tryd.prog (G0 g rnd) 17 [.agg (encE e)] (.int .i64 (depE e)) := by
 induction e using Exp.ind with
 | h kd n t ta l p ih =>
 intro hw
 have hw2 : n.length + 1 + wt t + wts ta + wtEs l ≤ 1000000000 := by simpa [wtE_mk] using hw
 have hln := wtEs_len l
 have hla := wts_len ta
 have hdt := dep_wt t
 obtain ⟨D, hD⟩ : ∃ D, D = if typedE kd then dep t else 0 := ⟨_, rfl⟩
 have hDl : D ≤ wt t := by rw [hD]; split <;> omega
 refine valid_of [] Tryd.func17 rfl (by kernel_rfl) ?_
 refine AT_seq_region fun K1 hK1 => ?_
 simp [row_map, Tryd.f17]
 repeat refine sg ?_
 refine hK1 _ ?_
 clear hK1 K1
 refine AT_seq_region fun K2 hK2 => ?_
 simp [row_map]
 repeat refine sg ?_
 refine hK2 _ ?_
 clear hK2 K2
 refine AT_seq_k fun K3 hK3 => ?_
 cases h3 : (kd == 3)
 ·
  cases h5 : (kd == 5)
  ·
   have hDd : D = 0 := by rw [hD]; simp [typedE, h3, h5]
   refine AT_seq_region fun K4 hK4 => ?_
   simp [row_map, h3, h5]
   repeat refine sg ?_
   refine hK4 _ ?_
   clear hK4 K4
   refine AT_cond (b := false) (g := none) (by simp [h3, h5]) (fun hb => ?_) (fun hb => ?_)
   ·
    cases hb
   ·
    clear hb
    refine AT_skip ?_
    try simp only [nrm, reduceIte, Nat.reduceEqDiff]
    refine hK3 _ ?_
    refine AT_seq_k fun K5 hK5 => ?_
    refine AT_seq_region fun K6 hK6 => ?_
    simp [row_map, h3, h5]
    repeat refine sg ?_
    refine hK6 _ ?_
    clear hK6 K6
    refine AT_block ?_
    refine AT_loop_q [3,4,1] [1] (fun j s => ∃ k M, k ≤ ta.length ∧ M = max D (deps (ta.take k)) ∧ j = ta.length - k ∧ s = { n := 51, tm := [(3, .v (.int .i64 (1 + M : Nat)) none), (4, .v (.int .i64 k) none), (1, .lp 1 0)], bx := [(1, encE (.mk kd n t ta l p))], tb := [], sh := [], hint := [] }) (ta.length) (by first | rfl | simp) ?_ ?_
    ·
     exact ⟨0, D, by simp [deps, hDd]⟩
    ·
     rintro j s ⟨k, M, hk, hM, rfl, rfl⟩ K7 hK7
     refine AT_seq_k fun K8 hK8 => ?_
     refine AT_seq_region fun K9 hK9 => ?_
     simp [row_map, h3, h5]
     repeat refine sg ?_
     refine hK9 _ ?_
     clear hK9 K9
     refine AT_cond (g := none) rfl (fun hb22 => ?_) (fun hb22 => ?_)
     ·
      try simp [row_map, h3, h5] at hb22
      refine AT_skip ?_
      try simp only [nrm, reduceIte, Nat.reduceEqDiff]
      refine hK8 _ ?_
      refine AT_seq_k fun K10 hK10 => ?_
      refine AT_block ?_
      refine AT_region_q fun K11 hK11 => ?_
      have hm := wts_mem (l := ta) (t := ta[k]) (by simp)
      have hdk := dep_wt ta[k]
      have hdtk := deps_wts (ta.take k)
      have hwt := wts_take ta k
      simp [row_map, h3, h5, hb22]
      repeat refine sg ?_
      refine RVn_call (c_ref04x_Depth g rnd ta[k] (by omega)) ?_
      simp [row_map, h3, h5, hb22]
      repeat refine sg ?_
      refine hK11 _ ?_
      clear hK11 K11
      try simp only [nrm, reduceIte, Nat.reduceEqDiff]
      refine hK10 _ ?_
      refine AT_region_q fun K12 hK12 => ?_
      simp [row_map, h3, h5, hb22]
      repeat refine sg ?_
      refine hK12 _ ?_
      clear hK12 K12
      try simp only [nrm, reduceIte, Nat.reduceEqDiff]
      refine hK7 _ (by first | rfl | simp) (ta.length - (k+1)) (by omega) ?_
      refine ⟨k+1, max M (dep ta[k]), by omega, by rw [deps_take _ _ hb22]; omega, by omega, ?_⟩
      simp
      try (split <;> omega)
     ·
      try simp [row_map, h3, h5] at hb22
      refine AT_exit ?_
      try simp only [nrm, reduceIte, Nat.reduceEqDiff]
      refine hK5 _ ?_
      refine AT_seq_k fun K13 hK13 => ?_
      refine AT_seq_region fun K14 hK14 => ?_
      simp [row_map, h3, h5, hb22]
      repeat refine sg ?_
      refine hK14 _ ?_
      clear hK14 K14
      refine AT_block ?_
      refine AT_loop_q [3,5,1] [1] (fun j s => ∃ k M, k ≤ l.length ∧ M = max (max D (deps ta)) (depEs (l.take k)) ∧ j = l.length - k ∧ s = { n := 51, tm := [(3, .v (.int .i64 (1 + M : Nat)) none), (5, .v (.int .i64 k) none), (1, .lp 1 0)], bx := [(1, encE (.mk kd n t ta l p))], tb := [], sh := [], hint := [] }) (l.length) (by first | rfl | simp) ?_ ?_
      ·
       rw [List.take_of_length_le hb22] at hM
       exact ⟨0, M, by simp [depEs, hM]⟩
      ·
       rintro j s ⟨k, M, hk, hM, rfl, rfl⟩ K15 hK15
       refine AT_seq_k fun K16 hK16 => ?_
       refine AT_seq_region fun K17 hK17 => ?_
       simp [row_map, h3, h5, hb22]
       repeat refine sg ?_
       refine hK17 _ ?_
       clear hK17 K17
       refine AT_cond (g := none) rfl (fun hb38 => ?_) (fun hb38 => ?_)
       ·
        try simp [row_map, h3, h5, hb22] at hb38
        refine AT_skip ?_
        try simp only [nrm, reduceIte, Nat.reduceEqDiff]
        refine hK16 _ ?_
        refine AT_seq_k fun K18 hK18 => ?_
        refine AT_block ?_
        refine AT_region_q fun K19 hK19 => ?_
        have hm := wtEs_mem (l := l) (e := l[k]) (by simp)
        have hdk := depE_wt l[k]
        have hdlk := depEs_wts (l.take k)
        have hwtl := wtEs_take l k
        have hdta := deps_wts ta
        simp [row_map, h3, h5, hb22, hb38]
        repeat refine sg ?_
        refine RVn_call (ih l[k] (by simp) (by omega)) ?_
        simp [row_map, h3, h5, hb22, hb38]
        repeat refine sg ?_
        refine hK19 _ ?_
        clear hK19 K19
        try simp only [nrm, reduceIte, Nat.reduceEqDiff]
        refine hK18 _ ?_
        refine AT_region_q fun K20 hK20 => ?_
        simp [row_map, h3, h5, hb22, hb38]
        repeat refine sg ?_
        refine hK20 _ ?_
        clear hK20 K20
        try simp only [nrm, reduceIte, Nat.reduceEqDiff]
        refine hK15 _ (by first | rfl | simp) (l.length - (k+1)) (by omega) ?_
        refine ⟨k+1, max M (depE l[k]), by omega, by rw [depEs_take _ _ hb38]; omega, by omega, ?_⟩
        simp
        try (split <;> omega)
       ·
        try simp [row_map, h3, h5, hb22] at hb38
        refine AT_exit ?_
        try simp only [nrm, reduceIte, Nat.reduceEqDiff]
        refine hK13 _ ?_
        refine AT_seq_region fun K21 hK21 => ?_
        simp [row_map, h3, h5, hb22, hb38]
        repeat refine sg ?_
        refine hK21 _ ?_
        clear hK21 K21
        refine AT_ret ?_
        simp [row_map, Tryd.f17]
        rw [List.take_of_length_le hb38] at hM
        rw [depE, ← hD]; omega
  ·
   have hDd : D = dep t := by rw [hD]; simp [typedE, h5]
   refine AT_seq_region fun K22 hK22 => ?_
   simp [row_map, h3, h5]
   repeat refine sg ?_
   refine hK22 _ ?_
   clear hK22 K22
   refine AT_cond (b := true) (g := none) (by simp [h3, h5]) (fun hb => ?_) (fun hb => ?_)
   ·
    clear hb
    refine AT_region_q fun K23 hK23 => ?_
    simp [row_map, h3, h5]
    repeat refine sg ?_
    refine RVn_call (c_ref04x_Depth g rnd t (by omega)) ?_
    simp [row_map, h3, h5]
    repeat refine sg ?_
    refine hK23 _ ?_
    clear hK23 K23
    try simp only [nrm, reduceIte, Nat.reduceEqDiff]
    refine hK3 _ ?_
    refine AT_seq_k fun K24 hK24 => ?_
    refine AT_seq_region fun K25 hK25 => ?_
    simp [row_map, h3, h5]
    repeat refine sg ?_
    refine hK25 _ ?_
    clear hK25 K25
    refine AT_block ?_
    refine AT_loop_q [3,4,1] [1] (fun j s => ∃ k M, k ≤ ta.length ∧ M = max D (deps (ta.take k)) ∧ j = ta.length - k ∧ s = { n := 51, tm := [(3, .v (.int .i64 (1 + M : Nat)) none), (4, .v (.int .i64 k) none), (1, .lp 1 0)], bx := [(1, encE (.mk kd n t ta l p))], tb := [], sh := [], hint := [] }) (ta.length) (by first | rfl | simp) ?_ ?_
    ·
     exact ⟨0, D, by simp [deps, hDd]⟩
    ·
     rintro j s ⟨k, M, hk, hM, rfl, rfl⟩ K26 hK26
     refine AT_seq_k fun K27 hK27 => ?_
     refine AT_seq_region fun K28 hK28 => ?_
     simp [row_map, h3, h5]
     repeat refine sg ?_
     refine hK28 _ ?_
     clear hK28 K28
     refine AT_cond (g := none) rfl (fun hb22 => ?_) (fun hb22 => ?_)
     ·
      try simp [row_map, h3, h5] at hb22
      refine AT_skip ?_
      try simp only [nrm, reduceIte, Nat.reduceEqDiff]
      refine hK27 _ ?_
      refine AT_seq_k fun K29 hK29 => ?_
      refine AT_block ?_
      refine AT_region_q fun K30 hK30 => ?_
      have hm := wts_mem (l := ta) (t := ta[k]) (by simp)
      have hdk := dep_wt ta[k]
      have hdtk := deps_wts (ta.take k)
      have hwt := wts_take ta k
      simp [row_map, h3, h5, hb22]
      repeat refine sg ?_
      refine RVn_call (c_ref04x_Depth g rnd ta[k] (by omega)) ?_
      simp [row_map, h3, h5, hb22]
      repeat refine sg ?_
      refine hK30 _ ?_
      clear hK30 K30
      try simp only [nrm, reduceIte, Nat.reduceEqDiff]
      refine hK29 _ ?_
      refine AT_region_q fun K31 hK31 => ?_
      simp [row_map, h3, h5, hb22]
      repeat refine sg ?_
      refine hK31 _ ?_
      clear hK31 K31
      try simp only [nrm, reduceIte, Nat.reduceEqDiff]
      refine hK26 _ (by first | rfl | simp) (ta.length - (k+1)) (by omega) ?_
      refine ⟨k+1, max M (dep ta[k]), by omega, by rw [deps_take _ _ hb22]; omega, by omega, ?_⟩
      simp
      try (split <;> omega)
     ·
      try simp [row_map, h3, h5] at hb22
      refine AT_exit ?_
      try simp only [nrm, reduceIte, Nat.reduceEqDiff]
      refine hK24 _ ?_
      refine AT_seq_k fun K32 hK32 => ?_
      refine AT_seq_region fun K33 hK33 => ?_
      simp [row_map, h3, h5, hb22]
      repeat refine sg ?_
      refine hK33 _ ?_
      clear hK33 K33
      refine AT_block ?_
      refine AT_loop_q [3,5,1] [1] (fun j s => ∃ k M, k ≤ l.length ∧ M = max (max D (deps ta)) (depEs (l.take k)) ∧ j = l.length - k ∧ s = { n := 51, tm := [(3, .v (.int .i64 (1 + M : Nat)) none), (5, .v (.int .i64 k) none), (1, .lp 1 0)], bx := [(1, encE (.mk kd n t ta l p))], tb := [], sh := [], hint := [] }) (l.length) (by first | rfl | simp) ?_ ?_
      ·
       rw [List.take_of_length_le hb22] at hM
       exact ⟨0, M, by simp [depEs, hM]⟩
      ·
       rintro j s ⟨k, M, hk, hM, rfl, rfl⟩ K34 hK34
       refine AT_seq_k fun K35 hK35 => ?_
       refine AT_seq_region fun K36 hK36 => ?_
       simp [row_map, h3, h5, hb22]
       repeat refine sg ?_
       refine hK36 _ ?_
       clear hK36 K36
       refine AT_cond (g := none) rfl (fun hb38 => ?_) (fun hb38 => ?_)
       ·
        try simp [row_map, h3, h5, hb22] at hb38
        refine AT_skip ?_
        try simp only [nrm, reduceIte, Nat.reduceEqDiff]
        refine hK35 _ ?_
        refine AT_seq_k fun K37 hK37 => ?_
        refine AT_block ?_
        refine AT_region_q fun K38 hK38 => ?_
        have hm := wtEs_mem (l := l) (e := l[k]) (by simp)
        have hdk := depE_wt l[k]
        have hdlk := depEs_wts (l.take k)
        have hwtl := wtEs_take l k
        have hdta := deps_wts ta
        simp [row_map, h3, h5, hb22, hb38]
        repeat refine sg ?_
        refine RVn_call (ih l[k] (by simp) (by omega)) ?_
        simp [row_map, h3, h5, hb22, hb38]
        repeat refine sg ?_
        refine hK38 _ ?_
        clear hK38 K38
        try simp only [nrm, reduceIte, Nat.reduceEqDiff]
        refine hK37 _ ?_
        refine AT_region_q fun K39 hK39 => ?_
        simp [row_map, h3, h5, hb22, hb38]
        repeat refine sg ?_
        refine hK39 _ ?_
        clear hK39 K39
        try simp only [nrm, reduceIte, Nat.reduceEqDiff]
        refine hK34 _ (by first | rfl | simp) (l.length - (k+1)) (by omega) ?_
        refine ⟨k+1, max M (depE l[k]), by omega, by rw [depEs_take _ _ hb38]; omega, by omega, ?_⟩
        simp
        try (split <;> omega)
       ·
        try simp [row_map, h3, h5, hb22] at hb38
        refine AT_exit ?_
        try simp only [nrm, reduceIte, Nat.reduceEqDiff]
        refine hK32 _ ?_
        refine AT_seq_region fun K40 hK40 => ?_
        simp [row_map, h3, h5, hb22, hb38]
        repeat refine sg ?_
        refine hK40 _ ?_
        clear hK40 K40
        refine AT_ret ?_
        simp [row_map, Tryd.f17]
        rw [List.take_of_length_le hb38] at hM
        rw [depE, ← hD]; omega
   ·
    cases hb
 ·
  have hDd : D = dep t := by rw [hD]; simp [typedE, h3]
  refine AT_seq_region fun K41 hK41 => ?_
  simp [row_map, h3]
  repeat refine sg ?_
  refine hK41 _ ?_
  clear hK41 K41
  refine AT_cond (b := true) (g := none) (by simp [h3]) (fun hb => ?_) (fun hb => ?_)
  ·
   clear hb
   refine AT_region_q fun K42 hK42 => ?_
   simp [row_map, h3]
   repeat refine sg ?_
   refine RVn_call (c_ref04x_Depth g rnd t (by omega)) ?_
   simp [row_map, h3]
   repeat refine sg ?_
   refine hK42 _ ?_
   clear hK42 K42
   try simp only [nrm, reduceIte, Nat.reduceEqDiff]
   refine hK3 _ ?_
   refine AT_seq_k fun K43 hK43 => ?_
   refine AT_seq_region fun K44 hK44 => ?_
   simp [row_map, h3]
   repeat refine sg ?_
   refine hK44 _ ?_
   clear hK44 K44
   refine AT_block ?_
   refine AT_loop_q [3,4,1] [1] (fun j s => ∃ k M, k ≤ ta.length ∧ M = max D (deps (ta.take k)) ∧ j = ta.length - k ∧ s = { n := 51, tm := [(3, .v (.int .i64 (1 + M : Nat)) none), (4, .v (.int .i64 k) none), (1, .lp 1 0)], bx := [(1, encE (.mk kd n t ta l p))], tb := [], sh := [], hint := [] }) (ta.length) (by first | rfl | simp) ?_ ?_
   ·
    exact ⟨0, D, by simp [deps, hDd]⟩
   ·
    rintro j s ⟨k, M, hk, hM, rfl, rfl⟩ K45 hK45
    refine AT_seq_k fun K46 hK46 => ?_
    refine AT_seq_region fun K47 hK47 => ?_
    simp [row_map, h3]
    repeat refine sg ?_
    refine hK47 _ ?_
    clear hK47 K47
    refine AT_cond (g := none) rfl (fun hb22 => ?_) (fun hb22 => ?_)
    ·
     try simp [row_map, h3] at hb22
     refine AT_skip ?_
     try simp only [nrm, reduceIte, Nat.reduceEqDiff]
     refine hK46 _ ?_
     refine AT_seq_k fun K48 hK48 => ?_
     refine AT_block ?_
     refine AT_region_q fun K49 hK49 => ?_
     have hm := wts_mem (l := ta) (t := ta[k]) (by simp)
     have hdk := dep_wt ta[k]
     have hdtk := deps_wts (ta.take k)
     have hwt := wts_take ta k
     simp [row_map, h3, hb22]
     repeat refine sg ?_
     refine RVn_call (c_ref04x_Depth g rnd ta[k] (by omega)) ?_
     simp [row_map, h3, hb22]
     repeat refine sg ?_
     refine hK49 _ ?_
     clear hK49 K49
     try simp only [nrm, reduceIte, Nat.reduceEqDiff]
     refine hK48 _ ?_
     refine AT_region_q fun K50 hK50 => ?_
     simp [row_map, h3, hb22]
     repeat refine sg ?_
     refine hK50 _ ?_
     clear hK50 K50
     try simp only [nrm, reduceIte, Nat.reduceEqDiff]
     refine hK45 _ (by first | rfl | simp) (ta.length - (k+1)) (by omega) ?_
     refine ⟨k+1, max M (dep ta[k]), by omega, by rw [deps_take _ _ hb22]; omega, by omega, ?_⟩
     simp
     try (split <;> omega)
    ·
     try simp [row_map, h3] at hb22
     refine AT_exit ?_
     try simp only [nrm, reduceIte, Nat.reduceEqDiff]
     refine hK43 _ ?_
     refine AT_seq_k fun K51 hK51 => ?_
     refine AT_seq_region fun K52 hK52 => ?_
     simp [row_map, h3, hb22]
     repeat refine sg ?_
     refine hK52 _ ?_
     clear hK52 K52
     refine AT_block ?_
     refine AT_loop_q [3,5,1] [1] (fun j s => ∃ k M, k ≤ l.length ∧ M = max (max D (deps ta)) (depEs (l.take k)) ∧ j = l.length - k ∧ s = { n := 51, tm := [(3, .v (.int .i64 (1 + M : Nat)) none), (5, .v (.int .i64 k) none), (1, .lp 1 0)], bx := [(1, encE (.mk kd n t ta l p))], tb := [], sh := [], hint := [] }) (l.length) (by first | rfl | simp) ?_ ?_
     ·
      rw [List.take_of_length_le hb22] at hM
      exact ⟨0, M, by simp [depEs, hM]⟩
     ·
      rintro j s ⟨k, M, hk, hM, rfl, rfl⟩ K53 hK53
      refine AT_seq_k fun K54 hK54 => ?_
      refine AT_seq_region fun K55 hK55 => ?_
      simp [row_map, h3, hb22]
      repeat refine sg ?_
      refine hK55 _ ?_
      clear hK55 K55
      refine AT_cond (g := none) rfl (fun hb38 => ?_) (fun hb38 => ?_)
      ·
       try simp [row_map, h3, hb22] at hb38
       refine AT_skip ?_
       try simp only [nrm, reduceIte, Nat.reduceEqDiff]
       refine hK54 _ ?_
       refine AT_seq_k fun K56 hK56 => ?_
       refine AT_block ?_
       refine AT_region_q fun K57 hK57 => ?_
       have hm := wtEs_mem (l := l) (e := l[k]) (by simp)
       have hdk := depE_wt l[k]
       have hdlk := depEs_wts (l.take k)
       have hwtl := wtEs_take l k
       have hdta := deps_wts ta
       simp [row_map, h3, hb22, hb38]
       repeat refine sg ?_
       refine RVn_call (ih l[k] (by simp) (by omega)) ?_
       simp [row_map, h3, hb22, hb38]
       repeat refine sg ?_
       refine hK57 _ ?_
       clear hK57 K57
       try simp only [nrm, reduceIte, Nat.reduceEqDiff]
       refine hK56 _ ?_
       refine AT_region_q fun K58 hK58 => ?_
       simp [row_map, h3, hb22, hb38]
       repeat refine sg ?_
       refine hK58 _ ?_
       clear hK58 K58
       try simp only [nrm, reduceIte, Nat.reduceEqDiff]
       refine hK53 _ (by first | rfl | simp) (l.length - (k+1)) (by omega) ?_
       refine ⟨k+1, max M (depE l[k]), by omega, by rw [depEs_take _ _ hb38]; omega, by omega, ?_⟩
       simp
       try (split <;> omega)
      ·
       try simp [row_map, h3, hb22] at hb38
       refine AT_exit ?_
       try simp only [nrm, reduceIte, Nat.reduceEqDiff]
       refine hK51 _ ?_
       refine AT_seq_region fun K59 hK59 => ?_
       simp [row_map, h3, hb22, hb38]
       repeat refine sg ?_
       refine hK59 _ ?_
       clear hK59 K59
       refine AT_ret ?_
       simp [row_map, Tryd.f17]
       rw [List.take_of_length_le hb38] at hM
       rw [depE, ← hD]; omega
  ·
   cases hb

end Go.Proofs.YtjkabaejabibnaaDoor

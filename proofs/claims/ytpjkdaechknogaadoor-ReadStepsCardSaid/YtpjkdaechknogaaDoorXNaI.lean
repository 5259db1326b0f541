import Derived.Test.YtpjkdaechknogaaDoorPt
import Derived.Test.YtpjkdaechknogaaDoorPvPb
import Derived.Test.YtpjkdaechknogaaDoorPvY
section
/- Contracts. -/
set_option linter.all false
set_option maxHeartbeats 1000000
set_option maxRecDepth 10000
namespace Go.Proofs.YtpjkdaechknogaaDoor
open Go Go.Pv
variable (g : Nat → Option (List AV)) (rnd : Bool)

theorem c_name_Class (n : Int) : Valid Tryd.prog (G0 g rnd) 48 [.int .u8 n] (.int .i64 (clsI n)) := by

 refine valid_of [] Tryd.func48 rfl (by kernel_rfl) ?_
 rcases cls_cases n with hc | hc | hc | hc | hc | hc | hc | hc | hc | hc | hc | hc
 ·
  have f0 : 97 ≤ n := by omega
  have f1 : n ≤ 122 := by omega
  have f2 : 65 ≤ n := by omega
  have f3 : ¬ n ≤ 90 := by omega
  have f4 : 48 ≤ n := by omega
  have f5 : ¬ n ≤ 57 := by omega
  have e0 : (n == 95) = false := by simp; omega
  have e1 : (n == 9) = false := by simp; omega
  have e2 : (n == 10) = false := by simp; omega
  have e3 : (n == 13) = false := by simp; omega
  have e4 : (n == 32) = false := by simp; omega
  refine AT_seq_region fun K1 hK1 => ?_
  simp [Tryd.f48, f0, f1, f2, f3, f4, f5, e0, e1, e2, e3, e4]
  repeat refine sg ?_
  refine hK1 _ ?_
  clear hK1 K1
  refine AT_seq_k fun K2 hK2 => ?_
  refine AT_block ?_
  refine AT_seq_k fun K3 hK3 => ?_
  refine AT_seq_region fun K4 hK4 => ?_
  simp [f0, f1, f2, f3, f4, f5, e0, e1, e2, e3, e4]
  repeat refine sg ?_
  refine hK4 _ ?_
  clear hK4 K4
  refine AT_cond (b := true) (g := none) (by simp [f0, f1, f2, f3, f4, f5, e0, e1, e2, e3, e4]) (fun hb => ?_) (fun hb => ?_)
  ·
   clear hb
   refine AT_skip ?_
   try simp only [nrm, reduceIte, Nat.reduceEqDiff]
   refine hK3 _ ?_
   refine AT_cond (b := true) (g := none) (by simp [f0, f1, f2, f3, f4, f5, e0, e1, e2, e3, e4]) (fun hb => ?_) (fun hb => ?_)
   ·
    clear hb
    refine AT_seq_region fun K5 hK5 => ?_
    simp [f0, f1, f2, f3, f4, f5, e0, e1, e2, e3, e4]
    repeat refine sg ?_
    refine hK5 _ ?_
    clear hK5 K5
    refine AT_ret ?_
    simp [Tryd.f48]
    first | (unfold clsI; repeat (first | omega | split); done) | decide
   ·
    cases hb
  ·
   cases hb
 ·
  have f0 : ¬ 97 ≤ n := by omega
  have f1 : n ≤ 122 := by omega
  have f2 : 65 ≤ n := by omega
  have f3 : n ≤ 90 := by omega
  have f4 : 48 ≤ n := by omega
  have f5 : ¬ n ≤ 57 := by omega
  have e0 : (n == 95) = false := by simp; omega
  have e1 : (n == 9) = false := by simp; omega
  have e2 : (n == 10) = false := by simp; omega
  have e3 : (n == 13) = false := by simp; omega
  have e4 : (n == 32) = false := by simp; omega
  refine AT_seq_region fun K6 hK6 => ?_
  simp [f0, f1, f2, f3, f4, f5, e0, e1, e2, e3, e4]
  repeat refine sg ?_
  refine hK6 _ ?_
  clear hK6 K6
  refine AT_seq_k fun K7 hK7 => ?_
  refine AT_block ?_
  refine AT_seq_k fun K8 hK8 => ?_
  refine AT_seq_region fun K9 hK9 => ?_
  simp [f0, f1, f2, f3, f4, f5, e0, e1, e2, e3, e4]
  repeat refine sg ?_
  refine hK9 _ ?_
  clear hK9 K9
  refine AT_cond (b := false) (g := none) (by simp [f0, f1, f2, f3, f4, f5, e0, e1, e2, e3, e4]) (fun hb => ?_) (fun hb => ?_)
  ·
   cases hb
  ·
   clear hb
   refine AT_region_q fun K10 hK10 => ?_
   simp [f0, f1, f2, f3, f4, f5, e0, e1, e2, e3, e4]
   repeat refine sg ?_
   refine hK10 _ ?_
   clear hK10 K10
   try simp only [nrm, reduceIte, Nat.reduceEqDiff]
   refine hK8 _ ?_
   refine AT_cond (b := true) (g := none) (by simp [f0, f1, f2, f3, f4, f5, e0, e1, e2, e3, e4]) (fun hb => ?_) (fun hb => ?_)
   ·
    clear hb
    refine AT_seq_region fun K11 hK11 => ?_
    simp [f0, f1, f2, f3, f4, f5, e0, e1, e2, e3, e4]
    repeat refine sg ?_
    refine hK11 _ ?_
    clear hK11 K11
    refine AT_ret ?_
    simp [Tryd.f48]
    first | (unfold clsI; repeat (first | omega | split); done) | decide
   ·
    cases hb
 ·
  have f0 : ¬ 97 ≤ n := by omega
  have f1 : n ≤ 122 := by omega
  have f2 : ¬ 65 ≤ n := by omega
  have f3 : n ≤ 90 := by omega
  have f4 : 48 ≤ n := by omega
  have f5 : n ≤ 57 := by omega
  have e0 : (n == 95) = false := by simp; omega
  have e1 : (n == 9) = false := by simp; omega
  have e2 : (n == 10) = false := by simp; omega
  have e3 : (n == 13) = false := by simp; omega
  have e4 : (n == 32) = false := by simp; omega
  refine AT_seq_region fun K12 hK12 => ?_
  simp [f0, f1, f2, f3, f4, f5, e0, e1, e2, e3, e4]
  repeat refine sg ?_
  refine hK12 _ ?_
  clear hK12 K12
  refine AT_seq_k fun K13 hK13 => ?_
  refine AT_block ?_
  refine AT_seq_k fun K14 hK14 => ?_
  refine AT_seq_region fun K15 hK15 => ?_
  simp [f0, f1, f2, f3, f4, f5, e0, e1, e2, e3, e4]
  repeat refine sg ?_
  refine hK15 _ ?_
  clear hK15 K15
  refine AT_cond (b := false) (g := none) (by simp [f0, f1, f2, f3, f4, f5, e0, e1, e2, e3, e4]) (fun hb => ?_) (fun hb => ?_)
  ·
   cases hb
  ·
   clear hb
   refine AT_region_q fun K16 hK16 => ?_
   simp [f0, f1, f2, f3, f4, f5, e0, e1, e2, e3, e4]
   repeat refine sg ?_
   refine hK16 _ ?_
   clear hK16 K16
   try simp only [nrm, reduceIte, Nat.reduceEqDiff]
   refine hK14 _ ?_
   refine AT_cond (b := false) (g := none) (by simp [f0, f1, f2, f3, f4, f5, e0, e1, e2, e3, e4]) (fun hb => ?_) (fun hb => ?_)
   ·
    cases hb
   ·
    clear hb
    refine AT_seq_region fun K17 hK17 => ?_
    simp [f0, f1, f2, f3, f4, f5, e0, e1, e2, e3, e4]
    repeat refine sg ?_
    refine hK17 _ ?_
    clear hK17 K17
    refine AT_cond (b := true) (g := none) (by simp [f0, f1, f2, f3, f4, f5, e0, e1, e2, e3, e4]) (fun hb => ?_) (fun hb => ?_)
    ·
     clear hb
     refine AT_seq_region fun K18 hK18 => ?_
     simp [f0, f1, f2, f3, f4, f5, e0, e1, e2, e3, e4]
     repeat refine sg ?_
     refine hK18 _ ?_
     clear hK18 K18
     refine AT_ret ?_
     simp [Tryd.f48]
     first | (unfold clsI; repeat (first | omega | split); done) | decide
    ·
     cases hb
 ·
  subst hc
  refine AT_seq_region fun K19 hK19 => ?_
  simp
  repeat refine sg ?_
  refine hK19 _ ?_
  clear hK19 K19
  refine AT_seq_k fun K20 hK20 => ?_
  refine AT_block ?_
  refine AT_seq_k fun K21 hK21 => ?_
  refine AT_seq_region fun K22 hK22 => ?_
  simp
  repeat refine sg ?_
  refine hK22 _ ?_
  clear hK22 K22
  refine AT_cond (b := false) (g := none) (by simp) (fun hb => ?_) (fun hb => ?_)
  ·
   cases hb
  ·
   clear hb
   refine AT_region_q fun K23 hK23 => ?_
   simp
   repeat refine sg ?_
   refine hK23 _ ?_
   clear hK23 K23
   try simp only [nrm, reduceIte, Nat.reduceEqDiff]
   refine hK21 _ ?_
   refine AT_cond (b := false) (g := none) (by simp) (fun hb => ?_) (fun hb => ?_)
   ·
    cases hb
   ·
    clear hb
    refine AT_seq_region fun K24 hK24 => ?_
    simp
    repeat refine sg ?_
    refine hK24 _ ?_
    clear hK24 K24
    refine AT_cond (b := false) (g := none) (by simp) (fun hb => ?_) (fun hb => ?_)
    ·
     cases hb
    ·
     clear hb
     refine AT_seq_region fun K25 hK25 => ?_
     simp
     repeat refine sg ?_
     refine hK25 _ ?_
     clear hK25 K25
     refine AT_cond (b := true) (g := none) (by simp) (fun hb => ?_) (fun hb => ?_)
     ·
      clear hb
      refine AT_seq_region fun K26 hK26 => ?_
      simp
      repeat refine sg ?_
      refine hK26 _ ?_
      clear hK26 K26
      refine AT_ret ?_
      simp [Tryd.f48]
      first | (unfold clsI; repeat (first | omega | split); done) | decide
     ·
      cases hb
 ·
  subst hc
  refine AT_seq_region fun K27 hK27 => ?_
  simp
  repeat refine sg ?_
  refine hK27 _ ?_
  clear hK27 K27
  refine AT_seq_k fun K28 hK28 => ?_
  refine AT_block ?_
  refine AT_seq_k fun K29 hK29 => ?_
  refine AT_seq_region fun K30 hK30 => ?_
  simp
  repeat refine sg ?_
  refine hK30 _ ?_
  clear hK30 K30
  refine AT_cond (b := false) (g := none) (by simp) (fun hb => ?_) (fun hb => ?_)
  ·
   cases hb
  ·
   clear hb
   refine AT_region_q fun K31 hK31 => ?_
   simp
   repeat refine sg ?_
   refine hK31 _ ?_
   clear hK31 K31
   try simp only [nrm, reduceIte, Nat.reduceEqDiff]
   refine hK29 _ ?_
   refine AT_cond (b := false) (g := none) (by simp) (fun hb => ?_) (fun hb => ?_)
   ·
    cases hb
   ·
    clear hb
    refine AT_seq_region fun K32 hK32 => ?_
    simp
    repeat refine sg ?_
    refine hK32 _ ?_
    clear hK32 K32
    refine AT_cond (b := false) (g := none) (by simp) (fun hb => ?_) (fun hb => ?_)
    ·
     cases hb
    ·
     clear hb
     refine AT_seq_region fun K33 hK33 => ?_
     simp
     repeat refine sg ?_
     refine hK33 _ ?_
     clear hK33 K33
     refine AT_cond (b := false) (g := none) (by simp) (fun hb => ?_) (fun hb => ?_)
     ·
      cases hb
     ·
      clear hb
      refine AT_seq_k fun K34 hK34 => ?_
      refine AT_seq_region fun K35 hK35 => ?_
      simp
      repeat refine sg ?_
      refine hK35 _ ?_
      clear hK35 K35
      refine AT_cond (b := true) (g := none) (by simp) (fun hb => ?_) (fun hb => ?_)
      ·
       clear hb
       refine AT_skip ?_
       try simp only [nrm, reduceIte, Nat.reduceEqDiff]
       refine hK34 _ ?_
       refine AT_cond (b := true) (g := none) (by simp) (fun hb => ?_) (fun hb => ?_)
       ·
        clear hb
        refine AT_seq_region fun K36 hK36 => ?_
        simp
        repeat refine sg ?_
        refine hK36 _ ?_
        clear hK36 K36
        refine AT_ret ?_
        simp [Tryd.f48]
        first | (unfold clsI; repeat (first | omega | split); done) | decide
       ·
        cases hb
      ·
       cases hb
 ·
  subst hc
  refine AT_seq_region fun K37 hK37 => ?_
  simp
  repeat refine sg ?_
  refine hK37 _ ?_
  clear hK37 K37
  refine AT_seq_k fun K38 hK38 => ?_
  refine AT_block ?_
  refine AT_seq_k fun K39 hK39 => ?_
  refine AT_seq_region fun K40 hK40 => ?_
  simp
  repeat refine sg ?_
  refine hK40 _ ?_
  clear hK40 K40
  refine AT_cond (b := false) (g := none) (by simp) (fun hb => ?_) (fun hb => ?_)
  ·
   cases hb
  ·
   clear hb
   refine AT_region_q fun K41 hK41 => ?_
   simp
   repeat refine sg ?_
   refine hK41 _ ?_
   clear hK41 K41
   try simp only [nrm, reduceIte, Nat.reduceEqDiff]
   refine hK39 _ ?_
   refine AT_cond (b := false) (g := none) (by simp) (fun hb => ?_) (fun hb => ?_)
   ·
    cases hb
   ·
    clear hb
    refine AT_seq_region fun K42 hK42 => ?_
    simp
    repeat refine sg ?_
    refine hK42 _ ?_
    clear hK42 K42
    refine AT_cond (b := false) (g := none) (by simp) (fun hb => ?_) (fun hb => ?_)
    ·
     cases hb
    ·
     clear hb
     refine AT_seq_region fun K43 hK43 => ?_
     simp
     repeat refine sg ?_
     refine hK43 _ ?_
     clear hK43 K43
     refine AT_cond (b := false) (g := none) (by simp) (fun hb => ?_) (fun hb => ?_)
     ·
      cases hb
     ·
      clear hb
      refine AT_seq_k fun K44 hK44 => ?_
      refine AT_seq_region fun K45 hK45 => ?_
      simp
      repeat refine sg ?_
      refine hK45 _ ?_
      clear hK45 K45
      refine AT_cond (b := false) (g := none) (by simp) (fun hb => ?_) (fun hb => ?_)
      ·
       cases hb
      ·
       clear hb
       refine AT_seq_region fun K46 hK46 => ?_
       simp
       repeat refine sg ?_
       refine hK46 _ ?_
       clear hK46 K46
       refine AT_cond (b := true) (g := none) (by simp) (fun hb => ?_) (fun hb => ?_)
       ·
        clear hb
        refine AT_skip ?_
        try simp only [nrm, reduceIte, Nat.reduceEqDiff]
        refine hK44 _ ?_
        refine AT_cond (b := true) (g := none) (by simp) (fun hb => ?_) (fun hb => ?_)
        ·
         clear hb
         refine AT_seq_region fun K47 hK47 => ?_
         simp
         repeat refine sg ?_
         refine hK47 _ ?_
         clear hK47 K47
         refine AT_ret ?_
         simp [Tryd.f48]
         first | (unfold clsI; repeat (first | omega | split); done) | decide
        ·
         cases hb
       ·
        cases hb
 ·
  subst hc
  refine AT_seq_region fun K48 hK48 => ?_
  simp
  repeat refine sg ?_
  refine hK48 _ ?_
  clear hK48 K48
  refine AT_seq_k fun K49 hK49 => ?_
  refine AT_block ?_
  refine AT_seq_k fun K50 hK50 => ?_
  refine AT_seq_region fun K51 hK51 => ?_
  simp
  repeat refine sg ?_
  refine hK51 _ ?_
  clear hK51 K51
  refine AT_cond (b := false) (g := none) (by simp) (fun hb => ?_) (fun hb => ?_)
  ·
   cases hb
  ·
   clear hb
   refine AT_region_q fun K52 hK52 => ?_
   simp
   repeat refine sg ?_
   refine hK52 _ ?_
   clear hK52 K52
   try simp only [nrm, reduceIte, Nat.reduceEqDiff]
   refine hK50 _ ?_
   refine AT_cond (b := false) (g := none) (by simp) (fun hb => ?_) (fun hb => ?_)
   ·
    cases hb
   ·
    clear hb
    refine AT_seq_region fun K53 hK53 => ?_
    simp
    repeat refine sg ?_
    refine hK53 _ ?_
    clear hK53 K53
    refine AT_cond (b := false) (g := none) (by simp) (fun hb => ?_) (fun hb => ?_)
    ·
     cases hb
    ·
     clear hb
     refine AT_seq_region fun K54 hK54 => ?_
     simp
     repeat refine sg ?_
     refine hK54 _ ?_
     clear hK54 K54
     refine AT_cond (b := false) (g := none) (by simp) (fun hb => ?_) (fun hb => ?_)
     ·
      cases hb
     ·
      clear hb
      refine AT_seq_k fun K55 hK55 => ?_
      refine AT_seq_region fun K56 hK56 => ?_
      simp
      repeat refine sg ?_
      refine hK56 _ ?_
      clear hK56 K56
      refine AT_cond (b := false) (g := none) (by simp) (fun hb => ?_) (fun hb => ?_)
      ·
       cases hb
      ·
       clear hb
       refine AT_seq_region fun K57 hK57 => ?_
       simp
       repeat refine sg ?_
       refine hK57 _ ?_
       clear hK57 K57
       refine AT_cond (b := false) (g := none) (by simp) (fun hb => ?_) (fun hb => ?_)
       ·
        cases hb
       ·
        clear hb
        refine AT_seq_region fun K58 hK58 => ?_
        simp
        repeat refine sg ?_
        refine hK58 _ ?_
        clear hK58 K58
        refine AT_cond (b := true) (g := none) (by simp) (fun hb => ?_) (fun hb => ?_)
        ·
         clear hb
         refine AT_skip ?_
         try simp only [nrm, reduceIte, Nat.reduceEqDiff]
         refine hK55 _ ?_
         refine AT_cond (b := true) (g := none) (by simp) (fun hb => ?_) (fun hb => ?_)
         ·
          clear hb
          refine AT_seq_region fun K59 hK59 => ?_
          simp
          repeat refine sg ?_
          refine hK59 _ ?_
          clear hK59 K59
          refine AT_ret ?_
          simp [Tryd.f48]
          first | (unfold clsI; repeat (first | omega | split); done) | decide
         ·
          cases hb
        ·
         cases hb
 ·
  subst hc
  refine AT_seq_region fun K60 hK60 => ?_
  simp
  repeat refine sg ?_
  refine hK60 _ ?_
  clear hK60 K60
  refine AT_seq_k fun K61 hK61 => ?_
  refine AT_block ?_
  refine AT_seq_k fun K62 hK62 => ?_
  refine AT_seq_region fun K63 hK63 => ?_
  simp
  repeat refine sg ?_
  refine hK63 _ ?_
  clear hK63 K63
  refine AT_cond (b := false) (g := none) (by simp) (fun hb => ?_) (fun hb => ?_)
  ·
   cases hb
  ·
   clear hb
   refine AT_region_q fun K64 hK64 => ?_
   simp
   repeat refine sg ?_
   refine hK64 _ ?_
   clear hK64 K64
   try simp only [nrm, reduceIte, Nat.reduceEqDiff]
   refine hK62 _ ?_
   refine AT_cond (b := false) (g := none) (by simp) (fun hb => ?_) (fun hb => ?_)
   ·
    cases hb
   ·
    clear hb
    refine AT_seq_region fun K65 hK65 => ?_
    simp
    repeat refine sg ?_
    refine hK65 _ ?_
    clear hK65 K65
    refine AT_cond (b := false) (g := none) (by simp) (fun hb => ?_) (fun hb => ?_)
    ·
     cases hb
    ·
     clear hb
     refine AT_seq_region fun K66 hK66 => ?_
     simp
     repeat refine sg ?_
     refine hK66 _ ?_
     clear hK66 K66
     refine AT_cond (b := false) (g := none) (by simp) (fun hb => ?_) (fun hb => ?_)
     ·
      cases hb
     ·
      clear hb
      refine AT_seq_k fun K67 hK67 => ?_
      refine AT_seq_region fun K68 hK68 => ?_
      simp
      repeat refine sg ?_
      refine hK68 _ ?_
      clear hK68 K68
      refine AT_cond (b := false) (g := none) (by simp) (fun hb => ?_) (fun hb => ?_)
      ·
       cases hb
      ·
       clear hb
       refine AT_seq_region fun K69 hK69 => ?_
       simp
       repeat refine sg ?_
       refine hK69 _ ?_
       clear hK69 K69
       refine AT_cond (b := false) (g := none) (by simp) (fun hb => ?_) (fun hb => ?_)
       ·
        cases hb
       ·
        clear hb
        refine AT_seq_region fun K70 hK70 => ?_
        simp
        repeat refine sg ?_
        refine hK70 _ ?_
        clear hK70 K70
        refine AT_cond (b := false) (g := none) (by simp) (fun hb => ?_) (fun hb => ?_)
        ·
         cases hb
        ·
         clear hb
         refine AT_region_q fun K71 hK71 => ?_
         simp
         repeat refine sg ?_
         refine hK71 _ ?_
         clear hK71 K71
         try simp only [nrm, reduceIte, Nat.reduceEqDiff]
         refine hK67 _ ?_
         refine AT_cond (b := true) (g := none) (by simp) (fun hb => ?_) (fun hb => ?_)
         ·
          clear hb
          refine AT_seq_region fun K72 hK72 => ?_
          simp
          repeat refine sg ?_
          refine hK72 _ ?_
          clear hK72 K72
          refine AT_ret ?_
          simp [Tryd.f48]
          first | (unfold clsI; repeat (first | omega | split); done) | decide
         ·
          cases hb
 ·
  have f0 : 97 ≤ n := by omega
  have f1 : ¬ n ≤ 122 := by omega
  have f2 : 65 ≤ n := by omega
  have f3 : ¬ n ≤ 90 := by omega
  have f4 : 48 ≤ n := by omega
  have f5 : ¬ n ≤ 57 := by omega
  have e0 : (n == 95) = false := by simp; omega
  have e1 : (n == 9) = false := by simp; omega
  have e2 : (n == 10) = false := by simp; omega
  have e3 : (n == 13) = false := by simp; omega
  have e4 : (n == 32) = false := by simp; omega
  refine AT_seq_region fun K73 hK73 => ?_
  simp [f0, f1, f2, f3, f4, f5, e0, e1, e2, e3, e4]
  repeat refine sg ?_
  refine hK73 _ ?_
  clear hK73 K73
  refine AT_seq_k fun K74 hK74 => ?_
  refine AT_block ?_
  refine AT_seq_k fun K75 hK75 => ?_
  refine AT_seq_region fun K76 hK76 => ?_
  simp [f0, f1, f2, f3, f4, f5, e0, e1, e2, e3, e4]
  repeat refine sg ?_
  refine hK76 _ ?_
  clear hK76 K76
  refine AT_cond (b := false) (g := none) (by simp [f0, f1, f2, f3, f4, f5, e0, e1, e2, e3, e4]) (fun hb => ?_) (fun hb => ?_)
  ·
   cases hb
  ·
   clear hb
   refine AT_region_q fun K77 hK77 => ?_
   simp [f0, f1, f2, f3, f4, f5, e0, e1, e2, e3, e4]
   repeat refine sg ?_
   refine hK77 _ ?_
   clear hK77 K77
   try simp only [nrm, reduceIte, Nat.reduceEqDiff]
   refine hK75 _ ?_
   refine AT_cond (b := false) (g := none) (by simp [f0, f1, f2, f3, f4, f5, e0, e1, e2, e3, e4]) (fun hb => ?_) (fun hb => ?_)
   ·
    cases hb
   ·
    clear hb
    refine AT_seq_region fun K78 hK78 => ?_
    simp [f0, f1, f2, f3, f4, f5, e0, e1, e2, e3, e4]
    repeat refine sg ?_
    refine hK78 _ ?_
    clear hK78 K78
    refine AT_cond (b := false) (g := none) (by simp [f0, f1, f2, f3, f4, f5, e0, e1, e2, e3, e4]) (fun hb => ?_) (fun hb => ?_)
    ·
     cases hb
    ·
     clear hb
     refine AT_seq_region fun K79 hK79 => ?_
     simp [f0, f1, f2, f3, f4, f5, e0, e1, e2, e3, e4]
     repeat refine sg ?_
     refine hK79 _ ?_
     clear hK79 K79
     refine AT_cond (b := false) (g := none) (by simp [f0, f1, f2, f3, f4, f5, e0, e1, e2, e3, e4]) (fun hb => ?_) (fun hb => ?_)
     ·
      cases hb
     ·
      clear hb
      refine AT_seq_k fun K80 hK80 => ?_
      refine AT_seq_region fun K81 hK81 => ?_
      simp [f0, f1, f2, f3, f4, f5, e0, e1, e2, e3, e4]
      repeat refine sg ?_
      refine hK81 _ ?_
      clear hK81 K81
      refine AT_cond (b := false) (g := none) (by simp [f0, f1, f2, f3, f4, f5, e0, e1, e2, e3, e4]) (fun hb => ?_) (fun hb => ?_)
      ·
       cases hb
      ·
       clear hb
       refine AT_seq_region fun K82 hK82 => ?_
       simp [f0, f1, f2, f3, f4, f5, e0, e1, e2, e3, e4]
       repeat refine sg ?_
       refine hK82 _ ?_
       clear hK82 K82
       refine AT_cond (b := false) (g := none) (by simp [f0, f1, f2, f3, f4, f5, e0, e1, e2, e3, e4]) (fun hb => ?_) (fun hb => ?_)
       ·
        cases hb
       ·
        clear hb
        refine AT_seq_region fun K83 hK83 => ?_
        simp [f0, f1, f2, f3, f4, f5, e0, e1, e2, e3, e4]
        repeat refine sg ?_
        refine hK83 _ ?_
        clear hK83 K83
        refine AT_cond (b := false) (g := none) (by simp [f0, f1, f2, f3, f4, f5, e0, e1, e2, e3, e4]) (fun hb => ?_) (fun hb => ?_)
        ·
         cases hb
        ·
         clear hb
         refine AT_region_q fun K84 hK84 => ?_
         simp [f0, f1, f2, f3, f4, f5, e0, e1, e2, e3, e4]
         repeat refine sg ?_
         refine hK84 _ ?_
         clear hK84 K84
         try simp only [nrm, reduceIte, Nat.reduceEqDiff]
         refine hK80 _ ?_
         refine AT_cond (b := false) (g := none) (by simp [f0, f1, f2, f3, f4, f5, e0, e1, e2, e3, e4]) (fun hb => ?_) (fun hb => ?_)
         ·
          cases hb
         ·
          clear hb
          refine AT_skip ?_
          try simp only [nrm, reduceIte, Nat.reduceEqDiff]
          refine hK74 _ ?_
          refine AT_seq_region fun K85 hK85 => ?_
          simp [f0, f1, f2, f3, f4, f5, e0, e1, e2, e3, e4]
          repeat refine sg ?_
          refine hK85 _ ?_
          clear hK85 K85
          refine AT_ret ?_
          simp [Tryd.f48]
          first | (unfold clsI; repeat (first | omega | split); done) | decide
 ·
  have f0 : ¬ 97 ≤ n := by omega
  have f1 : n ≤ 122 := by omega
  have f2 : 65 ≤ n := by omega
  have f3 : ¬ n ≤ 90 := by omega
  have f4 : 48 ≤ n := by omega
  have f5 : ¬ n ≤ 57 := by omega
  have e0 : (n == 95) = false := by simp; omega
  have e1 : (n == 9) = false := by simp; omega
  have e2 : (n == 10) = false := by simp; omega
  have e3 : (n == 13) = false := by simp; omega
  have e4 : (n == 32) = false := by simp; omega
  refine AT_seq_region fun K86 hK86 => ?_
  simp [f0, f1, f2, f3, f4, f5, e0, e1, e2, e3, e4]
  repeat refine sg ?_
  refine hK86 _ ?_
  clear hK86 K86
  refine AT_seq_k fun K87 hK87 => ?_
  refine AT_block ?_
  refine AT_seq_k fun K88 hK88 => ?_
  refine AT_seq_region fun K89 hK89 => ?_
  simp [f0, f1, f2, f3, f4, f5, e0, e1, e2, e3, e4]
  repeat refine sg ?_
  refine hK89 _ ?_
  clear hK89 K89
  refine AT_cond (b := false) (g := none) (by simp [f0, f1, f2, f3, f4, f5, e0, e1, e2, e3, e4]) (fun hb => ?_) (fun hb => ?_)
  ·
   cases hb
  ·
   clear hb
   refine AT_region_q fun K90 hK90 => ?_
   simp [f0, f1, f2, f3, f4, f5, e0, e1, e2, e3, e4]
   repeat refine sg ?_
   refine hK90 _ ?_
   clear hK90 K90
   try simp only [nrm, reduceIte, Nat.reduceEqDiff]
   refine hK88 _ ?_
   refine AT_cond (b := false) (g := none) (by simp [f0, f1, f2, f3, f4, f5, e0, e1, e2, e3, e4]) (fun hb => ?_) (fun hb => ?_)
   ·
    cases hb
   ·
    clear hb
    refine AT_seq_region fun K91 hK91 => ?_
    simp [f0, f1, f2, f3, f4, f5, e0, e1, e2, e3, e4]
    repeat refine sg ?_
    refine hK91 _ ?_
    clear hK91 K91
    refine AT_cond (b := false) (g := none) (by simp [f0, f1, f2, f3, f4, f5, e0, e1, e2, e3, e4]) (fun hb => ?_) (fun hb => ?_)
    ·
     cases hb
    ·
     clear hb
     refine AT_seq_region fun K92 hK92 => ?_
     simp [f0, f1, f2, f3, f4, f5, e0, e1, e2, e3, e4]
     repeat refine sg ?_
     refine hK92 _ ?_
     clear hK92 K92
     refine AT_cond (b := false) (g := none) (by simp [f0, f1, f2, f3, f4, f5, e0, e1, e2, e3, e4]) (fun hb => ?_) (fun hb => ?_)
     ·
      cases hb
     ·
      clear hb
      refine AT_seq_k fun K93 hK93 => ?_
      refine AT_seq_region fun K94 hK94 => ?_
      simp [f0, f1, f2, f3, f4, f5, e0, e1, e2, e3, e4]
      repeat refine sg ?_
      refine hK94 _ ?_
      clear hK94 K94
      refine AT_cond (b := false) (g := none) (by simp [f0, f1, f2, f3, f4, f5, e0, e1, e2, e3, e4]) (fun hb => ?_) (fun hb => ?_)
      ·
       cases hb
      ·
       clear hb
       refine AT_seq_region fun K95 hK95 => ?_
       simp [f0, f1, f2, f3, f4, f5, e0, e1, e2, e3, e4]
       repeat refine sg ?_
       refine hK95 _ ?_
       clear hK95 K95
       refine AT_cond (b := false) (g := none) (by simp [f0, f1, f2, f3, f4, f5, e0, e1, e2, e3, e4]) (fun hb => ?_) (fun hb => ?_)
       ·
        cases hb
       ·
        clear hb
        refine AT_seq_region fun K96 hK96 => ?_
        simp [f0, f1, f2, f3, f4, f5, e0, e1, e2, e3, e4]
        repeat refine sg ?_
        refine hK96 _ ?_
        clear hK96 K96
        refine AT_cond (b := false) (g := none) (by simp [f0, f1, f2, f3, f4, f5, e0, e1, e2, e3, e4]) (fun hb => ?_) (fun hb => ?_)
        ·
         cases hb
        ·
         clear hb
         refine AT_region_q fun K97 hK97 => ?_
         simp [f0, f1, f2, f3, f4, f5, e0, e1, e2, e3, e4]
         repeat refine sg ?_
         refine hK97 _ ?_
         clear hK97 K97
         try simp only [nrm, reduceIte, Nat.reduceEqDiff]
         refine hK93 _ ?_
         refine AT_cond (b := false) (g := none) (by simp [f0, f1, f2, f3, f4, f5, e0, e1, e2, e3, e4]) (fun hb => ?_) (fun hb => ?_)
         ·
          cases hb
         ·
          clear hb
          refine AT_skip ?_
          try simp only [nrm, reduceIte, Nat.reduceEqDiff]
          refine hK87 _ ?_
          refine AT_seq_region fun K98 hK98 => ?_
          simp [f0, f1, f2, f3, f4, f5, e0, e1, e2, e3, e4]
          repeat refine sg ?_
          refine hK98 _ ?_
          clear hK98 K98
          refine AT_ret ?_
          simp [Tryd.f48]
          first | (unfold clsI; repeat (first | omega | split); done) | decide
 ·
  have f0 : ¬ 97 ≤ n := by omega
  have f1 : n ≤ 122 := by omega
  have f2 : ¬ 65 ≤ n := by omega
  have f3 : n ≤ 90 := by omega
  have f4 : 48 ≤ n := by omega
  have f5 : ¬ n ≤ 57 := by omega
  have e0 : (n == 95) = false := by simp; omega
  have e1 : (n == 9) = false := by simp; omega
  have e2 : (n == 10) = false := by simp; omega
  have e3 : (n == 13) = false := by simp; omega
  have e4 : (n == 32) = false := by simp; omega
  refine AT_seq_region fun K99 hK99 => ?_
  simp [f0, f1, f2, f3, f4, f5, e0, e1, e2, e3, e4]
  repeat refine sg ?_
  refine hK99 _ ?_
  clear hK99 K99
  refine AT_seq_k fun K100 hK100 => ?_
  refine AT_block ?_
  refine AT_seq_k fun K101 hK101 => ?_
  refine AT_seq_region fun K102 hK102 => ?_
  simp [f0, f1, f2, f3, f4, f5, e0, e1, e2, e3, e4]
  repeat refine sg ?_
  refine hK102 _ ?_
  clear hK102 K102
  refine AT_cond (b := false) (g := none) (by simp [f0, f1, f2, f3, f4, f5, e0, e1, e2, e3, e4]) (fun hb => ?_) (fun hb => ?_)
  ·
   cases hb
  ·
   clear hb
   refine AT_region_q fun K103 hK103 => ?_
   simp [f0, f1, f2, f3, f4, f5, e0, e1, e2, e3, e4]
   repeat refine sg ?_
   refine hK103 _ ?_
   clear hK103 K103
   try simp only [nrm, reduceIte, Nat.reduceEqDiff]
   refine hK101 _ ?_
   refine AT_cond (b := false) (g := none) (by simp [f0, f1, f2, f3, f4, f5, e0, e1, e2, e3, e4]) (fun hb => ?_) (fun hb => ?_)
   ·
    cases hb
   ·
    clear hb
    refine AT_seq_region fun K104 hK104 => ?_
    simp [f0, f1, f2, f3, f4, f5, e0, e1, e2, e3, e4]
    repeat refine sg ?_
    refine hK104 _ ?_
    clear hK104 K104
    refine AT_cond (b := false) (g := none) (by simp [f0, f1, f2, f3, f4, f5, e0, e1, e2, e3, e4]) (fun hb => ?_) (fun hb => ?_)
    ·
     cases hb
    ·
     clear hb
     refine AT_seq_region fun K105 hK105 => ?_
     simp [f0, f1, f2, f3, f4, f5, e0, e1, e2, e3, e4]
     repeat refine sg ?_
     refine hK105 _ ?_
     clear hK105 K105
     refine AT_cond (b := false) (g := none) (by simp [f0, f1, f2, f3, f4, f5, e0, e1, e2, e3, e4]) (fun hb => ?_) (fun hb => ?_)
     ·
      cases hb
     ·
      clear hb
      refine AT_seq_k fun K106 hK106 => ?_
      refine AT_seq_region fun K107 hK107 => ?_
      simp [f0, f1, f2, f3, f4, f5, e0, e1, e2, e3, e4]
      repeat refine sg ?_
      refine hK107 _ ?_
      clear hK107 K107
      refine AT_cond (b := false) (g := none) (by simp [f0, f1, f2, f3, f4, f5, e0, e1, e2, e3, e4]) (fun hb => ?_) (fun hb => ?_)
      ·
       cases hb
      ·
       clear hb
       refine AT_seq_region fun K108 hK108 => ?_
       simp [f0, f1, f2, f3, f4, f5, e0, e1, e2, e3, e4]
       repeat refine sg ?_
       refine hK108 _ ?_
       clear hK108 K108
       refine AT_cond (b := false) (g := none) (by simp [f0, f1, f2, f3, f4, f5, e0, e1, e2, e3, e4]) (fun hb => ?_) (fun hb => ?_)
       ·
        cases hb
       ·
        clear hb
        refine AT_seq_region fun K109 hK109 => ?_
        simp [f0, f1, f2, f3, f4, f5, e0, e1, e2, e3, e4]
        repeat refine sg ?_
        refine hK109 _ ?_
        clear hK109 K109
        refine AT_cond (b := false) (g := none) (by simp [f0, f1, f2, f3, f4, f5, e0, e1, e2, e3, e4]) (fun hb => ?_) (fun hb => ?_)
        ·
         cases hb
        ·
         clear hb
         refine AT_region_q fun K110 hK110 => ?_
         simp [f0, f1, f2, f3, f4, f5, e0, e1, e2, e3, e4]
         repeat refine sg ?_
         refine hK110 _ ?_
         clear hK110 K110
         try simp only [nrm, reduceIte, Nat.reduceEqDiff]
         refine hK106 _ ?_
         refine AT_cond (b := false) (g := none) (by simp [f0, f1, f2, f3, f4, f5, e0, e1, e2, e3, e4]) (fun hb => ?_) (fun hb => ?_)
         ·
          cases hb
         ·
          clear hb
          refine AT_skip ?_
          try simp only [nrm, reduceIte, Nat.reduceEqDiff]
          refine hK100 _ ?_
          refine AT_seq_region fun K111 hK111 => ?_
          simp [f0, f1, f2, f3, f4, f5, e0, e1, e2, e3, e4]
          repeat refine sg ?_
          refine hK111 _ ?_
          clear hK111 K111
          refine AT_ret ?_
          simp [Tryd.f48]
          first | (unfold clsI; repeat (first | omega | split); done) | decide
 ·
  have f0 : ¬ 97 ≤ n := by omega
  have f1 : n ≤ 122 := by omega
  have f2 : ¬ 65 ≤ n := by omega
  have f3 : n ≤ 90 := by omega
  have f4 : ¬ 48 ≤ n := by omega
  have f5 : n ≤ 57 := by omega
  have e0 : (n == 95) = false := by simp; omega
  have e1 : (n == 9) = false := by simp; omega
  have e2 : (n == 10) = false := by simp; omega
  have e3 : (n == 13) = false := by simp; omega
  have e4 : (n == 32) = false := by simp; omega
  refine AT_seq_region fun K112 hK112 => ?_
  simp [f0, f1, f2, f3, f4, f5, e0, e1, e2, e3, e4]
  repeat refine sg ?_
  refine hK112 _ ?_
  clear hK112 K112
  refine AT_seq_k fun K113 hK113 => ?_
  refine AT_block ?_
  refine AT_seq_k fun K114 hK114 => ?_
  refine AT_seq_region fun K115 hK115 => ?_
  simp [f0, f1, f2, f3, f4, f5, e0, e1, e2, e3, e4]
  repeat refine sg ?_
  refine hK115 _ ?_
  clear hK115 K115
  refine AT_cond (b := false) (g := none) (by simp [f0, f1, f2, f3, f4, f5, e0, e1, e2, e3, e4]) (fun hb => ?_) (fun hb => ?_)
  ·
   cases hb
  ·
   clear hb
   refine AT_region_q fun K116 hK116 => ?_
   simp [f0, f1, f2, f3, f4, f5, e0, e1, e2, e3, e4]
   repeat refine sg ?_
   refine hK116 _ ?_
   clear hK116 K116
   try simp only [nrm, reduceIte, Nat.reduceEqDiff]
   refine hK114 _ ?_
   refine AT_cond (b := false) (g := none) (by simp [f0, f1, f2, f3, f4, f5, e0, e1, e2, e3, e4]) (fun hb => ?_) (fun hb => ?_)
   ·
    cases hb
   ·
    clear hb
    refine AT_seq_region fun K117 hK117 => ?_
    simp [f0, f1, f2, f3, f4, f5, e0, e1, e2, e3, e4]
    repeat refine sg ?_
    refine hK117 _ ?_
    clear hK117 K117
    refine AT_cond (b := false) (g := none) (by simp [f0, f1, f2, f3, f4, f5, e0, e1, e2, e3, e4]) (fun hb => ?_) (fun hb => ?_)
    ·
     cases hb
    ·
     clear hb
     refine AT_seq_region fun K118 hK118 => ?_
     simp [f0, f1, f2, f3, f4, f5, e0, e1, e2, e3, e4]
     repeat refine sg ?_
     refine hK118 _ ?_
     clear hK118 K118
     refine AT_cond (b := false) (g := none) (by simp [f0, f1, f2, f3, f4, f5, e0, e1, e2, e3, e4]) (fun hb => ?_) (fun hb => ?_)
     ·
      cases hb
     ·
      clear hb
      refine AT_seq_k fun K119 hK119 => ?_
      refine AT_seq_region fun K120 hK120 => ?_
      simp [f0, f1, f2, f3, f4, f5, e0, e1, e2, e3, e4]
      repeat refine sg ?_
      refine hK120 _ ?_
      clear hK120 K120
      refine AT_cond (b := false) (g := none) (by simp [f0, f1, f2, f3, f4, f5, e0, e1, e2, e3, e4]) (fun hb => ?_) (fun hb => ?_)
      ·
       cases hb
      ·
       clear hb
       refine AT_seq_region fun K121 hK121 => ?_
       simp [f0, f1, f2, f3, f4, f5, e0, e1, e2, e3, e4]
       repeat refine sg ?_
       refine hK121 _ ?_
       clear hK121 K121
       refine AT_cond (b := false) (g := none) (by simp [f0, f1, f2, f3, f4, f5, e0, e1, e2, e3, e4]) (fun hb => ?_) (fun hb => ?_)
       ·
        cases hb
       ·
        clear hb
        refine AT_seq_region fun K122 hK122 => ?_
        simp [f0, f1, f2, f3, f4, f5, e0, e1, e2, e3, e4]
        repeat refine sg ?_
        refine hK122 _ ?_
        clear hK122 K122
        refine AT_cond (b := false) (g := none) (by simp [f0, f1, f2, f3, f4, f5, e0, e1, e2, e3, e4]) (fun hb => ?_) (fun hb => ?_)
        ·
         cases hb
        ·
         clear hb
         refine AT_region_q fun K123 hK123 => ?_
         simp [f0, f1, f2, f3, f4, f5, e0, e1, e2, e3, e4]
         repeat refine sg ?_
         refine hK123 _ ?_
         clear hK123 K123
         try simp only [nrm, reduceIte, Nat.reduceEqDiff]
         refine hK119 _ ?_
         refine AT_cond (b := false) (g := none) (by simp [f0, f1, f2, f3, f4, f5, e0, e1, e2, e3, e4]) (fun hb => ?_) (fun hb => ?_)
         ·
          cases hb
         ·
          clear hb
          refine AT_skip ?_
          try simp only [nrm, reduceIte, Nat.reduceEqDiff]
          refine hK113 _ ?_
          refine AT_seq_region fun K124 hK124 => ?_
          simp [f0, f1, f2, f3, f4, f5, e0, e1, e2, e3, e4]
          repeat refine sg ?_
          refine hK124 _ ?_
          clear hK124 K124
          refine AT_ret ?_
          simp [Tryd.f48]
          first | (unfold clsI; repeat (first | omega | split); done) | decide

theorem c_ref01x_Class (n : Int) : Valid Tryd.prog (G0 g rnd) 44 [.int .u8 n] (.int .i64 (clsI n)) := by

 refine valid_of [] Tryd.func44 rfl (by kernel_rfl) ?_
 rcases cls_cases n with hc | hc | hc | hc | hc | hc | hc | hc | hc | hc | hc | hc
 ·
  have f0 : 97 ≤ n := by omega
  have f1 : n ≤ 122 := by omega
  have f2 : 65 ≤ n := by omega
  have f3 : ¬ n ≤ 90 := by omega
  have f4 : 48 ≤ n := by omega
  have f5 : ¬ n ≤ 57 := by omega
  have e0 : (n == 95) = false := by simp; omega
  have e1 : (n == 9) = false := by simp; omega
  have e2 : (n == 10) = false := by simp; omega
  have e3 : (n == 13) = false := by simp; omega
  have e4 : (n == 32) = false := by simp; omega
  refine AT_seq_region fun K1 hK1 => ?_
  simp [Tryd.f44, f0, f1, f2, f3, f4, f5, e0, e1, e2, e3, e4]
  repeat refine sg ?_
  refine hK1 _ ?_
  clear hK1 K1
  refine AT_seq_k fun K2 hK2 => ?_
  refine AT_seq_region fun K3 hK3 => ?_
  simp [f0, f1, f2, f3, f4, f5, e0, e1, e2, e3, e4]
  repeat refine sg ?_
  refine hK3 _ ?_
  clear hK3 K3
  refine AT_cond (b := true) (g := none) (by simp [f0, f1, f2, f3, f4, f5, e0, e1, e2, e3, e4]) (fun hb => ?_) (fun hb => ?_)
  ·
   clear hb
   refine AT_seq_region fun K4 hK4 => ?_
   simp [f0, f1, f2, f3, f4, f5, e0, e1, e2, e3, e4]
   repeat refine sg ?_
   refine hK4 _ ?_
   clear hK4 K4
   refine AT_ret ?_
   simp [Tryd.f44]
   first | (unfold clsI; repeat (first | omega | split); done) | decide
  ·
   cases hb
 ·
  have f0 : ¬ 97 ≤ n := by omega
  have f1 : n ≤ 122 := by omega
  have f2 : 65 ≤ n := by omega
  have f3 : n ≤ 90 := by omega
  have f4 : 48 ≤ n := by omega
  have f5 : ¬ n ≤ 57 := by omega
  have e0 : (n == 95) = false := by simp; omega
  have e1 : (n == 9) = false := by simp; omega
  have e2 : (n == 10) = false := by simp; omega
  have e3 : (n == 13) = false := by simp; omega
  have e4 : (n == 32) = false := by simp; omega
  refine AT_seq_region fun K5 hK5 => ?_
  simp [f0, f1, f2, f3, f4, f5, e0, e1, e2, e3, e4]
  repeat refine sg ?_
  refine hK5 _ ?_
  clear hK5 K5
  refine AT_seq_k fun K6 hK6 => ?_
  refine AT_seq_region fun K7 hK7 => ?_
  simp [f0, f1, f2, f3, f4, f5, e0, e1, e2, e3, e4]
  repeat refine sg ?_
  refine hK7 _ ?_
  clear hK7 K7
  refine AT_cond (b := true) (g := none) (by simp [f0, f1, f2, f3, f4, f5, e0, e1, e2, e3, e4]) (fun hb => ?_) (fun hb => ?_)
  ·
   clear hb
   refine AT_seq_region fun K8 hK8 => ?_
   simp [f0, f1, f2, f3, f4, f5, e0, e1, e2, e3, e4]
   repeat refine sg ?_
   refine hK8 _ ?_
   clear hK8 K8
   refine AT_ret ?_
   simp [Tryd.f44]
   first | (unfold clsI; repeat (first | omega | split); done) | decide
  ·
   cases hb
 ·
  have f0 : ¬ 97 ≤ n := by omega
  have f1 : n ≤ 122 := by omega
  have f2 : ¬ 65 ≤ n := by omega
  have f3 : n ≤ 90 := by omega
  have f4 : 48 ≤ n := by omega
  have f5 : n ≤ 57 := by omega
  have e0 : (n == 95) = false := by simp; omega
  have e1 : (n == 9) = false := by simp; omega
  have e2 : (n == 10) = false := by simp; omega
  have e3 : (n == 13) = false := by simp; omega
  have e4 : (n == 32) = false := by simp; omega
  refine AT_seq_region fun K9 hK9 => ?_
  simp [f0, f1, f2, f3, f4, f5, e0, e1, e2, e3, e4]
  repeat refine sg ?_
  refine hK9 _ ?_
  clear hK9 K9
  refine AT_seq_k fun K10 hK10 => ?_
  refine AT_seq_region fun K11 hK11 => ?_
  simp [f0, f1, f2, f3, f4, f5, e0, e1, e2, e3, e4]
  repeat refine sg ?_
  refine hK11 _ ?_
  clear hK11 K11
  refine AT_cond (b := false) (g := none) (by simp [f0, f1, f2, f3, f4, f5, e0, e1, e2, e3, e4]) (fun hb => ?_) (fun hb => ?_)
  ·
   cases hb
  ·
   clear hb
   refine AT_skip ?_
   try simp only [nrm, reduceIte, Nat.reduceEqDiff]
   refine hK10 _ ?_
   refine AT_seq_k fun K12 hK12 => ?_
   refine AT_seq_region fun K13 hK13 => ?_
   simp [f0, f1, f2, f3, f4, f5, e0, e1, e2, e3, e4]
   repeat refine sg ?_
   refine hK13 _ ?_
   clear hK13 K13
   refine AT_cond (b := true) (g := none) (by simp [f0, f1, f2, f3, f4, f5, e0, e1, e2, e3, e4]) (fun hb => ?_) (fun hb => ?_)
   ·
    clear hb
    refine AT_seq_region fun K14 hK14 => ?_
    simp [f0, f1, f2, f3, f4, f5, e0, e1, e2, e3, e4]
    repeat refine sg ?_
    refine hK14 _ ?_
    clear hK14 K14
    refine AT_ret ?_
    simp [Tryd.f44]
    first | (unfold clsI; repeat (first | omega | split); done) | decide
   ·
    cases hb
 ·
  subst hc
  refine AT_seq_region fun K15 hK15 => ?_
  simp
  repeat refine sg ?_
  refine hK15 _ ?_
  clear hK15 K15
  refine AT_seq_k fun K16 hK16 => ?_
  refine AT_seq_region fun K17 hK17 => ?_
  simp
  repeat refine sg ?_
  refine hK17 _ ?_
  clear hK17 K17
  refine AT_cond (b := false) (g := none) (by simp) (fun hb => ?_) (fun hb => ?_)
  ·
   cases hb
  ·
   clear hb
   refine AT_skip ?_
   try simp only [nrm, reduceIte, Nat.reduceEqDiff]
   refine hK16 _ ?_
   refine AT_seq_k fun K18 hK18 => ?_
   refine AT_seq_region fun K19 hK19 => ?_
   simp
   repeat refine sg ?_
   refine hK19 _ ?_
   clear hK19 K19
   refine AT_cond (b := false) (g := none) (by simp) (fun hb => ?_) (fun hb => ?_)
   ·
    cases hb
   ·
    clear hb
    refine AT_skip ?_
    try simp only [nrm, reduceIte, Nat.reduceEqDiff]
    refine hK18 _ ?_
    refine AT_seq_k fun K20 hK20 => ?_
    refine AT_seq_region fun K21 hK21 => ?_
    simp
    repeat refine sg ?_
    refine hK21 _ ?_
    clear hK21 K21
    refine AT_cond (b := true) (g := none) (by simp) (fun hb => ?_) (fun hb => ?_)
    ·
     clear hb
     refine AT_seq_region fun K22 hK22 => ?_
     simp
     repeat refine sg ?_
     refine hK22 _ ?_
     clear hK22 K22
     refine AT_ret ?_
     simp [Tryd.f44]
     first | (unfold clsI; repeat (first | omega | split); done) | decide
    ·
     cases hb
 ·
  subst hc
  refine AT_seq_region fun K23 hK23 => ?_
  simp
  repeat refine sg ?_
  refine hK23 _ ?_
  clear hK23 K23
  refine AT_seq_k fun K24 hK24 => ?_
  refine AT_seq_region fun K25 hK25 => ?_
  simp
  repeat refine sg ?_
  refine hK25 _ ?_
  clear hK25 K25
  refine AT_cond (b := false) (g := none) (by simp) (fun hb => ?_) (fun hb => ?_)
  ·
   cases hb
  ·
   clear hb
   refine AT_skip ?_
   try simp only [nrm, reduceIte, Nat.reduceEqDiff]
   refine hK24 _ ?_
   refine AT_seq_k fun K26 hK26 => ?_
   refine AT_seq_region fun K27 hK27 => ?_
   simp
   repeat refine sg ?_
   refine hK27 _ ?_
   clear hK27 K27
   refine AT_cond (b := false) (g := none) (by simp) (fun hb => ?_) (fun hb => ?_)
   ·
    cases hb
   ·
    clear hb
    refine AT_skip ?_
    try simp only [nrm, reduceIte, Nat.reduceEqDiff]
    refine hK26 _ ?_
    refine AT_seq_k fun K28 hK28 => ?_
    refine AT_seq_region fun K29 hK29 => ?_
    simp
    repeat refine sg ?_
    refine hK29 _ ?_
    clear hK29 K29
    refine AT_cond (b := false) (g := none) (by simp) (fun hb => ?_) (fun hb => ?_)
    ·
     cases hb
    ·
     clear hb
     refine AT_skip ?_
     try simp only [nrm, reduceIte, Nat.reduceEqDiff]
     refine hK28 _ ?_
     refine AT_seq_k fun K30 hK30 => ?_
     refine AT_seq_region fun K31 hK31 => ?_
     simp
     repeat refine sg ?_
     refine hK31 _ ?_
     clear hK31 K31
     refine AT_cond (b := true) (g := none) (by simp) (fun hb => ?_) (fun hb => ?_)
     ·
      clear hb
      refine AT_seq_region fun K32 hK32 => ?_
      simp
      repeat refine sg ?_
      refine hK32 _ ?_
      clear hK32 K32
      refine AT_ret ?_
      simp [Tryd.f44]
      first | (unfold clsI; repeat (first | omega | split); done) | decide
     ·
      cases hb
 ·
  subst hc
  refine AT_seq_region fun K33 hK33 => ?_
  simp
  repeat refine sg ?_
  refine hK33 _ ?_
  clear hK33 K33
  refine AT_seq_k fun K34 hK34 => ?_
  refine AT_seq_region fun K35 hK35 => ?_
  simp
  repeat refine sg ?_
  refine hK35 _ ?_
  clear hK35 K35
  refine AT_cond (b := false) (g := none) (by simp) (fun hb => ?_) (fun hb => ?_)
  ·
   cases hb
  ·
   clear hb
   refine AT_skip ?_
   try simp only [nrm, reduceIte, Nat.reduceEqDiff]
   refine hK34 _ ?_
   refine AT_seq_k fun K36 hK36 => ?_
   refine AT_seq_region fun K37 hK37 => ?_
   simp
   repeat refine sg ?_
   refine hK37 _ ?_
   clear hK37 K37
   refine AT_cond (b := false) (g := none) (by simp) (fun hb => ?_) (fun hb => ?_)
   ·
    cases hb
   ·
    clear hb
    refine AT_skip ?_
    try simp only [nrm, reduceIte, Nat.reduceEqDiff]
    refine hK36 _ ?_
    refine AT_seq_k fun K38 hK38 => ?_
    refine AT_seq_region fun K39 hK39 => ?_
    simp
    repeat refine sg ?_
    refine hK39 _ ?_
    clear hK39 K39
    refine AT_cond (b := false) (g := none) (by simp) (fun hb => ?_) (fun hb => ?_)
    ·
     cases hb
    ·
     clear hb
     refine AT_skip ?_
     try simp only [nrm, reduceIte, Nat.reduceEqDiff]
     refine hK38 _ ?_
     refine AT_seq_k fun K40 hK40 => ?_
     refine AT_seq_region fun K41 hK41 => ?_
     simp
     repeat refine sg ?_
     refine hK41 _ ?_
     clear hK41 K41
     refine AT_cond (b := true) (g := none) (by simp) (fun hb => ?_) (fun hb => ?_)
     ·
      clear hb
      refine AT_seq_region fun K42 hK42 => ?_
      simp
      repeat refine sg ?_
      refine hK42 _ ?_
      clear hK42 K42
      refine AT_ret ?_
      simp [Tryd.f44]
      first | (unfold clsI; repeat (first | omega | split); done) | decide
     ·
      cases hb
 ·
  subst hc
  refine AT_seq_region fun K43 hK43 => ?_
  simp
  repeat refine sg ?_
  refine hK43 _ ?_
  clear hK43 K43
  refine AT_seq_k fun K44 hK44 => ?_
  refine AT_seq_region fun K45 hK45 => ?_
  simp
  repeat refine sg ?_
  refine hK45 _ ?_
  clear hK45 K45
  refine AT_cond (b := false) (g := none) (by simp) (fun hb => ?_) (fun hb => ?_)
  ·
   cases hb
  ·
   clear hb
   refine AT_skip ?_
   try simp only [nrm, reduceIte, Nat.reduceEqDiff]
   refine hK44 _ ?_
   refine AT_seq_k fun K46 hK46 => ?_
   refine AT_seq_region fun K47 hK47 => ?_
   simp
   repeat refine sg ?_
   refine hK47 _ ?_
   clear hK47 K47
   refine AT_cond (b := false) (g := none) (by simp) (fun hb => ?_) (fun hb => ?_)
   ·
    cases hb
   ·
    clear hb
    refine AT_skip ?_
    try simp only [nrm, reduceIte, Nat.reduceEqDiff]
    refine hK46 _ ?_
    refine AT_seq_k fun K48 hK48 => ?_
    refine AT_seq_region fun K49 hK49 => ?_
    simp
    repeat refine sg ?_
    refine hK49 _ ?_
    clear hK49 K49
    refine AT_cond (b := false) (g := none) (by simp) (fun hb => ?_) (fun hb => ?_)
    ·
     cases hb
    ·
     clear hb
     refine AT_skip ?_
     try simp only [nrm, reduceIte, Nat.reduceEqDiff]
     refine hK48 _ ?_
     refine AT_seq_k fun K50 hK50 => ?_
     refine AT_seq_region fun K51 hK51 => ?_
     simp
     repeat refine sg ?_
     refine hK51 _ ?_
     clear hK51 K51
     refine AT_cond (b := true) (g := none) (by simp) (fun hb => ?_) (fun hb => ?_)
     ·
      clear hb
      refine AT_seq_region fun K52 hK52 => ?_
      simp
      repeat refine sg ?_
      refine hK52 _ ?_
      clear hK52 K52
      refine AT_ret ?_
      simp [Tryd.f44]
      first | (unfold clsI; repeat (first | omega | split); done) | decide
     ·
      cases hb
 ·
  subst hc
  refine AT_seq_region fun K53 hK53 => ?_
  simp
  repeat refine sg ?_
  refine hK53 _ ?_
  clear hK53 K53
  refine AT_seq_k fun K54 hK54 => ?_
  refine AT_seq_region fun K55 hK55 => ?_
  simp
  repeat refine sg ?_
  refine hK55 _ ?_
  clear hK55 K55
  refine AT_cond (b := false) (g := none) (by simp) (fun hb => ?_) (fun hb => ?_)
  ·
   cases hb
  ·
   clear hb
   refine AT_skip ?_
   try simp only [nrm, reduceIte, Nat.reduceEqDiff]
   refine hK54 _ ?_
   refine AT_seq_k fun K56 hK56 => ?_
   refine AT_seq_region fun K57 hK57 => ?_
   simp
   repeat refine sg ?_
   refine hK57 _ ?_
   clear hK57 K57
   refine AT_cond (b := false) (g := none) (by simp) (fun hb => ?_) (fun hb => ?_)
   ·
    cases hb
   ·
    clear hb
    refine AT_skip ?_
    try simp only [nrm, reduceIte, Nat.reduceEqDiff]
    refine hK56 _ ?_
    refine AT_seq_k fun K58 hK58 => ?_
    refine AT_seq_region fun K59 hK59 => ?_
    simp
    repeat refine sg ?_
    refine hK59 _ ?_
    clear hK59 K59
    refine AT_cond (b := false) (g := none) (by simp) (fun hb => ?_) (fun hb => ?_)
    ·
     cases hb
    ·
     clear hb
     refine AT_skip ?_
     try simp only [nrm, reduceIte, Nat.reduceEqDiff]
     refine hK58 _ ?_
     refine AT_seq_k fun K60 hK60 => ?_
     refine AT_seq_region fun K61 hK61 => ?_
     simp
     repeat refine sg ?_
     refine hK61 _ ?_
     clear hK61 K61
     refine AT_cond (b := true) (g := none) (by simp) (fun hb => ?_) (fun hb => ?_)
     ·
      clear hb
      refine AT_seq_region fun K62 hK62 => ?_
      simp
      repeat refine sg ?_
      refine hK62 _ ?_
      clear hK62 K62
      refine AT_ret ?_
      simp [Tryd.f44]
      first | (unfold clsI; repeat (first | omega | split); done) | decide
     ·
      cases hb
 ·
  have f0 : 97 ≤ n := by omega
  have f1 : ¬ n ≤ 122 := by omega
  have f2 : 65 ≤ n := by omega
  have f3 : ¬ n ≤ 90 := by omega
  have f4 : 48 ≤ n := by omega
  have f5 : ¬ n ≤ 57 := by omega
  have e0 : (n == 95) = false := by simp; omega
  have e1 : (n == 9) = false := by simp; omega
  have e2 : (n == 10) = false := by simp; omega
  have e3 : (n == 13) = false := by simp; omega
  have e4 : (n == 32) = false := by simp; omega
  refine AT_seq_region fun K63 hK63 => ?_
  simp [f0, f1, f2, f3, f4, f5, e0, e1, e2, e3, e4]
  repeat refine sg ?_
  refine hK63 _ ?_
  clear hK63 K63
  refine AT_seq_k fun K64 hK64 => ?_
  refine AT_seq_region fun K65 hK65 => ?_
  simp [f0, f1, f2, f3, f4, f5, e0, e1, e2, e3, e4]
  repeat refine sg ?_
  refine hK65 _ ?_
  clear hK65 K65
  refine AT_cond (b := false) (g := none) (by simp [f0, f1, f2, f3, f4, f5, e0, e1, e2, e3, e4]) (fun hb => ?_) (fun hb => ?_)
  ·
   cases hb
  ·
   clear hb
   refine AT_skip ?_
   try simp only [nrm, reduceIte, Nat.reduceEqDiff]
   refine hK64 _ ?_
   refine AT_seq_k fun K66 hK66 => ?_
   refine AT_seq_region fun K67 hK67 => ?_
   simp [f0, f1, f2, f3, f4, f5, e0, e1, e2, e3, e4]
   repeat refine sg ?_
   refine hK67 _ ?_
   clear hK67 K67
   refine AT_cond (b := false) (g := none) (by simp [f0, f1, f2, f3, f4, f5, e0, e1, e2, e3, e4]) (fun hb => ?_) (fun hb => ?_)
   ·
    cases hb
   ·
    clear hb
    refine AT_skip ?_
    try simp only [nrm, reduceIte, Nat.reduceEqDiff]
    refine hK66 _ ?_
    refine AT_seq_k fun K68 hK68 => ?_
    refine AT_seq_region fun K69 hK69 => ?_
    simp [f0, f1, f2, f3, f4, f5, e0, e1, e2, e3, e4]
    repeat refine sg ?_
    refine hK69 _ ?_
    clear hK69 K69
    refine AT_cond (b := false) (g := none) (by simp [f0, f1, f2, f3, f4, f5, e0, e1, e2, e3, e4]) (fun hb => ?_) (fun hb => ?_)
    ·
     cases hb
    ·
     clear hb
     refine AT_skip ?_
     try simp only [nrm, reduceIte, Nat.reduceEqDiff]
     refine hK68 _ ?_
     refine AT_seq_k fun K70 hK70 => ?_
     refine AT_seq_region fun K71 hK71 => ?_
     simp [f0, f1, f2, f3, f4, f5, e0, e1, e2, e3, e4]
     repeat refine sg ?_
     refine hK71 _ ?_
     clear hK71 K71
     refine AT_cond (b := false) (g := none) (by simp [f0, f1, f2, f3, f4, f5, e0, e1, e2, e3, e4]) (fun hb => ?_) (fun hb => ?_)
     ·
      cases hb
     ·
      clear hb
      refine AT_skip ?_
      try simp only [nrm, reduceIte, Nat.reduceEqDiff]
      refine hK70 _ ?_
      refine AT_seq_region fun K72 hK72 => ?_
      simp [f0, f1, f2, f3, f4, f5, e0, e1, e2, e3, e4]
      repeat refine sg ?_
      refine hK72 _ ?_
      clear hK72 K72
      refine AT_ret ?_
      simp [Tryd.f44]
      first | (unfold clsI; repeat (first | omega | split); done) | decide
 ·
  have f0 : ¬ 97 ≤ n := by omega
  have f1 : n ≤ 122 := by omega
  have f2 : 65 ≤ n := by omega
  have f3 : ¬ n ≤ 90 := by omega
  have f4 : 48 ≤ n := by omega
  have f5 : ¬ n ≤ 57 := by omega
  have e0 : (n == 95) = false := by simp; omega
  have e1 : (n == 9) = false := by simp; omega
  have e2 : (n == 10) = false := by simp; omega
  have e3 : (n == 13) = false := by simp; omega
  have e4 : (n == 32) = false := by simp; omega
  refine AT_seq_region fun K73 hK73 => ?_
  simp [f0, f1, f2, f3, f4, f5, e0, e1, e2, e3, e4]
  repeat refine sg ?_
  refine hK73 _ ?_
  clear hK73 K73
  refine AT_seq_k fun K74 hK74 => ?_
  refine AT_seq_region fun K75 hK75 => ?_
  simp [f0, f1, f2, f3, f4, f5, e0, e1, e2, e3, e4]
  repeat refine sg ?_
  refine hK75 _ ?_
  clear hK75 K75
  refine AT_cond (b := false) (g := none) (by simp [f0, f1, f2, f3, f4, f5, e0, e1, e2, e3, e4]) (fun hb => ?_) (fun hb => ?_)
  ·
   cases hb
  ·
   clear hb
   refine AT_skip ?_
   try simp only [nrm, reduceIte, Nat.reduceEqDiff]
   refine hK74 _ ?_
   refine AT_seq_k fun K76 hK76 => ?_
   refine AT_seq_region fun K77 hK77 => ?_
   simp [f0, f1, f2, f3, f4, f5, e0, e1, e2, e3, e4]
   repeat refine sg ?_
   refine hK77 _ ?_
   clear hK77 K77
   refine AT_cond (b := false) (g := none) (by simp [f0, f1, f2, f3, f4, f5, e0, e1, e2, e3, e4]) (fun hb => ?_) (fun hb => ?_)
   ·
    cases hb
   ·
    clear hb
    refine AT_skip ?_
    try simp only [nrm, reduceIte, Nat.reduceEqDiff]
    refine hK76 _ ?_
    refine AT_seq_k fun K78 hK78 => ?_
    refine AT_seq_region fun K79 hK79 => ?_
    simp [f0, f1, f2, f3, f4, f5, e0, e1, e2, e3, e4]
    repeat refine sg ?_
    refine hK79 _ ?_
    clear hK79 K79
    refine AT_cond (b := false) (g := none) (by simp [f0, f1, f2, f3, f4, f5, e0, e1, e2, e3, e4]) (fun hb => ?_) (fun hb => ?_)
    ·
     cases hb
    ·
     clear hb
     refine AT_skip ?_
     try simp only [nrm, reduceIte, Nat.reduceEqDiff]
     refine hK78 _ ?_
     refine AT_seq_k fun K80 hK80 => ?_
     refine AT_seq_region fun K81 hK81 => ?_
     simp [f0, f1, f2, f3, f4, f5, e0, e1, e2, e3, e4]
     repeat refine sg ?_
     refine hK81 _ ?_
     clear hK81 K81
     refine AT_cond (b := false) (g := none) (by simp [f0, f1, f2, f3, f4, f5, e0, e1, e2, e3, e4]) (fun hb => ?_) (fun hb => ?_)
     ·
      cases hb
     ·
      clear hb
      refine AT_skip ?_
      try simp only [nrm, reduceIte, Nat.reduceEqDiff]
      refine hK80 _ ?_
      refine AT_seq_region fun K82 hK82 => ?_
      simp [f0, f1, f2, f3, f4, f5, e0, e1, e2, e3, e4]
      repeat refine sg ?_
      refine hK82 _ ?_
      clear hK82 K82
      refine AT_ret ?_
      simp [Tryd.f44]
      first | (unfold clsI; repeat (first | omega | split); done) | decide
 ·
  have f0 : ¬ 97 ≤ n := by omega
  have f1 : n ≤ 122 := by omega
  have f2 : ¬ 65 ≤ n := by omega
  have f3 : n ≤ 90 := by omega
  have f4 : 48 ≤ n := by omega
  have f5 : ¬ n ≤ 57 := by omega
  have e0 : (n == 95) = false := by simp; omega
  have e1 : (n == 9) = false := by simp; omega
  have e2 : (n == 10) = false := by simp; omega
  have e3 : (n == 13) = false := by simp; omega
  have e4 : (n == 32) = false := by simp; omega
  refine AT_seq_region fun K83 hK83 => ?_
  simp [f0, f1, f2, f3, f4, f5, e0, e1, e2, e3, e4]
  repeat refine sg ?_
  refine hK83 _ ?_
  clear hK83 K83
  refine AT_seq_k fun K84 hK84 => ?_
  refine AT_seq_region fun K85 hK85 => ?_
  simp [f0, f1, f2, f3, f4, f5, e0, e1, e2, e3, e4]
  repeat refine sg ?_
  refine hK85 _ ?_
  clear hK85 K85
  refine AT_cond (b := false) (g := none) (by simp [f0, f1, f2, f3, f4, f5, e0, e1, e2, e3, e4]) (fun hb => ?_) (fun hb => ?_)
  ·
   cases hb
  ·
   clear hb
   refine AT_skip ?_
   try simp only [nrm, reduceIte, Nat.reduceEqDiff]
   refine hK84 _ ?_
   refine AT_seq_k fun K86 hK86 => ?_
   refine AT_seq_region fun K87 hK87 => ?_
   simp [f0, f1, f2, f3, f4, f5, e0, e1, e2, e3, e4]
   repeat refine sg ?_
   refine hK87 _ ?_
   clear hK87 K87
   refine AT_cond (b := false) (g := none) (by simp [f0, f1, f2, f3, f4, f5, e0, e1, e2, e3, e4]) (fun hb => ?_) (fun hb => ?_)
   ·
    cases hb
   ·
    clear hb
    refine AT_skip ?_
    try simp only [nrm, reduceIte, Nat.reduceEqDiff]
    refine hK86 _ ?_
    refine AT_seq_k fun K88 hK88 => ?_
    refine AT_seq_region fun K89 hK89 => ?_
    simp [f0, f1, f2, f3, f4, f5, e0, e1, e2, e3, e4]
    repeat refine sg ?_
    refine hK89 _ ?_
    clear hK89 K89
    refine AT_cond (b := false) (g := none) (by simp [f0, f1, f2, f3, f4, f5, e0, e1, e2, e3, e4]) (fun hb => ?_) (fun hb => ?_)
    ·
     cases hb
    ·
     clear hb
     refine AT_skip ?_
     try simp only [nrm, reduceIte, Nat.reduceEqDiff]
     refine hK88 _ ?_
     refine AT_seq_k fun K90 hK90 => ?_
     refine AT_seq_region fun K91 hK91 => ?_
     simp [f0, f1, f2, f3, f4, f5, e0, e1, e2, e3, e4]
     repeat refine sg ?_
     refine hK91 _ ?_
     clear hK91 K91
     refine AT_cond (b := false) (g := none) (by simp [f0, f1, f2, f3, f4, f5, e0, e1, e2, e3, e4]) (fun hb => ?_) (fun hb => ?_)
     ·
      cases hb
     ·
      clear hb
      refine AT_skip ?_
      try simp only [nrm, reduceIte, Nat.reduceEqDiff]
      refine hK90 _ ?_
      refine AT_seq_region fun K92 hK92 => ?_
      simp [f0, f1, f2, f3, f4, f5, e0, e1, e2, e3, e4]
      repeat refine sg ?_
      refine hK92 _ ?_
      clear hK92 K92
      refine AT_ret ?_
      simp [Tryd.f44]
      first | (unfold clsI; repeat (first | omega | split); done) | decide
 ·
  have f0 : ¬ 97 ≤ n := by omega
  have f1 : n ≤ 122 := by omega
  have f2 : ¬ 65 ≤ n := by omega
  have f3 : n ≤ 90 := by omega
  have f4 : ¬ 48 ≤ n := by omega
  have f5 : n ≤ 57 := by omega
  have e0 : (n == 95) = false := by simp; omega
  have e1 : (n == 9) = false := by simp; omega
  have e2 : (n == 10) = false := by simp; omega
  have e3 : (n == 13) = false := by simp; omega
  have e4 : (n == 32) = false := by simp; omega
  refine AT_seq_region fun K93 hK93 => ?_
  simp [f0, f1, f2, f3, f4, f5, e0, e1, e2, e3, e4]
  repeat refine sg ?_
  refine hK93 _ ?_
  clear hK93 K93
  refine AT_seq_k fun K94 hK94 => ?_
  refine AT_seq_region fun K95 hK95 => ?_
  simp [f0, f1, f2, f3, f4, f5, e0, e1, e2, e3, e4]
  repeat refine sg ?_
  refine hK95 _ ?_
  clear hK95 K95
  refine AT_cond (b := false) (g := none) (by simp [f0, f1, f2, f3, f4, f5, e0, e1, e2, e3, e4]) (fun hb => ?_) (fun hb => ?_)
  ·
   cases hb
  ·
   clear hb
   refine AT_skip ?_
   try simp only [nrm, reduceIte, Nat.reduceEqDiff]
   refine hK94 _ ?_
   refine AT_seq_k fun K96 hK96 => ?_
   refine AT_seq_region fun K97 hK97 => ?_
   simp [f0, f1, f2, f3, f4, f5, e0, e1, e2, e3, e4]
   repeat refine sg ?_
   refine hK97 _ ?_
   clear hK97 K97
   refine AT_cond (b := false) (g := none) (by simp [f0, f1, f2, f3, f4, f5, e0, e1, e2, e3, e4]) (fun hb => ?_) (fun hb => ?_)
   ·
    cases hb
   ·
    clear hb
    refine AT_skip ?_
    try simp only [nrm, reduceIte, Nat.reduceEqDiff]
    refine hK96 _ ?_
    refine AT_seq_k fun K98 hK98 => ?_
    refine AT_seq_region fun K99 hK99 => ?_
    simp [f0, f1, f2, f3, f4, f5, e0, e1, e2, e3, e4]
    repeat refine sg ?_
    refine hK99 _ ?_
    clear hK99 K99
    refine AT_cond (b := false) (g := none) (by simp [f0, f1, f2, f3, f4, f5, e0, e1, e2, e3, e4]) (fun hb => ?_) (fun hb => ?_)
    ·
     cases hb
    ·
     clear hb
     refine AT_skip ?_
     try simp only [nrm, reduceIte, Nat.reduceEqDiff]
     refine hK98 _ ?_
     refine AT_seq_k fun K100 hK100 => ?_
     refine AT_seq_region fun K101 hK101 => ?_
     simp [f0, f1, f2, f3, f4, f5, e0, e1, e2, e3, e4]
     repeat refine sg ?_
     refine hK101 _ ?_
     clear hK101 K101
     refine AT_cond (b := false) (g := none) (by simp [f0, f1, f2, f3, f4, f5, e0, e1, e2, e3, e4]) (fun hb => ?_) (fun hb => ?_)
     ·
      cases hb
     ·
      clear hb
      refine AT_skip ?_
      try simp only [nrm, reduceIte, Nat.reduceEqDiff]
      refine hK100 _ ?_
      refine AT_seq_region fun K102 hK102 => ?_
      simp [f0, f1, f2, f3, f4, f5, e0, e1, e2, e3, e4]
      repeat refine sg ?_
      refine hK102 _ ?_
      clear hK102 K102
      refine AT_ret ?_
      simp [Tryd.f44]
      first | (unfold clsI; repeat (first | omega | split); done) | decide

end Go.Proofs.YtpjkdaechknogaaDoor
end

section
/- Contracts. -/
set_option linter.all false
set_option maxHeartbeats 1000000
set_option maxRecDepth 10000
namespace Go.Proofs.YtpjkdaechknogaaDoor
open Go Go.Pv
variable (g : Nat → Option (List AV)) (rnd : Bool)

theorem c_slices_Index_string_string (l : List Str) (x : Str) (hl : l.length ≤ 140737488355328) : Valid Tryd.prog (G0 g rnd) 87 [.slice (l.map encS), .str x] (.int .i64 (idxF l x 0)) := by

 refine valid_of [] Tryd.func87 rfl (by kernel_rfl) ?_
 refine AT_seq_region fun K1 hK1 => ?_
 simp [row_map, Tryd.f87]
 repeat refine sg ?_
 refine hK1 _ ?_
 clear hK1 K1
 refine AT_seq_k fun K2 hK2 => ?_
 refine AT_seq_region fun K3 hK3 => ?_
 simp [row_map]
 repeat refine sg ?_
 refine hK3 _ ?_
 clear hK3 K3
 refine AT_block ?_
 refine AT_loop_q [0,1,6,7,8] [] (fun j s => ∃ k, k ≤ l.length ∧ idxF l x 0 = idxF (l.drop k) x k ∧ j = l.length - k ∧ s = { n := 19, tm := [(0, .v (.slice (l.map encS)) none), (1, .v (.str x) none), (6, .v (.slice (l.map encS)) none), (7, .v (.int .i64 l.length) none), (8, .v (.int .i64 k) none)], bx := [], tb := [], sh := [], hint := [] }) (l.length) (by first | rfl | simp) ?_ ?_
 ·
  exact ⟨0, by simp⟩
 ·
  rintro j s ⟨k, hk, hc, rfl, rfl⟩ K4 hK4
  refine AT_seq_region fun K5 hK5 => ?_
  simp [row_map]
  repeat refine sg ?_
  refine hK5 _ ?_
  clear hK5 K5
  refine AT_seq_k fun K6 hK6 => ?_
  refine AT_cond (g := none) rfl (fun hb9 => ?_) (fun hb9 => ?_)
  ·
   try simp [row_map] at hb9
   refine AT_skip ?_
   try simp only [nrm, reduceIte, Nat.reduceEqDiff]
   refine hK6 _ ?_
   refine AT_seq_k fun K7 hK7 => ?_
   refine AT_block ?_
   refine AT_seq_region fun K8 hK8 => ?_
   simp [row_map, hb9]
   repeat refine sg ?_
   refine hK8 _ ?_
   clear hK8 K8
   refine AT_seq_region fun K9 hK9 => ?_
   have hd := List.drop_eq_getElem_cons hb9
   simp [row_map, hb9]
   repeat refine sg ?_
   refine hK9 _ ?_
   clear hK9 K9
   refine AT_cond (g := none) rfl (fun hb16 => ?_) (fun hb16 => ?_)
   ·
    try simp [row_map, hb9] at hb16
    refine AT_seq_region fun K10 hK10 => ?_
    simp [row_map, hb9]
    repeat refine sg ?_
    refine hK10 _ ?_
    clear hK10 K10
    refine AT_ret ?_
    simp [row_map, Tryd.f87]
    first | (rw [hc, hd, idxF, if_pos hb16]) | (rw [hc, List.drop_eq_nil_of_le hb9]; rfl)
   ·
    try simp [row_map, hb9] at hb16
    refine AT_skip ?_
    try simp only [nrm, reduceIte, Nat.reduceEqDiff]
    refine hK7 _ ?_
    refine AT_region_q fun K11 hK11 => ?_
    simp [row_map, hb9]
    repeat refine sg ?_
    refine hK11 _ ?_
    clear hK11 K11
    try simp only [nrm, reduceIte, Nat.reduceEqDiff]
    refine hK4 _ (by first | rfl | simp) (l.length - (k+1)) (by omega) ?_
    refine ⟨k+1, by omega, ?_, by omega, by simp⟩
    rw [hc, hd, idxF, if_neg hb16]
  ·
   try simp [row_map] at hb9
   refine AT_exit ?_
   try simp only [nrm, reduceIte, Nat.reduceEqDiff]
   refine hK2 _ ?_
   refine AT_seq_region fun K12 hK12 => ?_
   simp [row_map, hb9]
   repeat refine sg ?_
   refine hK12 _ ?_
   clear hK12 K12
   refine AT_ret ?_
   simp [row_map, Tryd.f87]
   first | (rw [hc, hd, idxF, if_pos hb16]) | (rw [hc, List.drop_eq_nil_of_le hb9]; rfl)

end Go.Proofs.YtpjkdaechknogaaDoor
end

import Derived.Test.YtpjkdaechknogaaDoorPt
import Derived.Test.YtpjkdaechknogaaDoorPvPb
import Derived.Test.YtpjkdaechknogaaDoorPvY
import Derived.Test.YtpjkdaechknogaaDoorXExE
import Derived.Test.YtpjkdaechknogaaDoorXTyO
import Derived.Test.YtpjkdaechknogaaDoorXShelf
import Derived.Test.YtpjkdaechknogaaDoorXTyE
import Derived.Test.YtpjkdaechknogaaDoorXExG
import Derived.Test.YtpjkdaechknogaaDoorPvRf
section
/- Contracts: texts of expressions. -/
set_option linter.all false
set_option maxHeartbeats 1000000
set_option maxRecDepth 10000
namespace Go.Proofs.YtpjkdaechknogaaDoor
open Go Go.Pv
variable (g : Nat → Option (List AV)) (rnd : Bool)

theorem c_ref05x_Text (e : Exp) : rightE e = true → wtE e ≤ 1000000000 → Valid Tryd.prog (G0 g rnd) 15 [.agg (encE e)] (.str (txtE e)) := by
 induction e using Exp.ind with
 | h kd n t ta l p ih =>
 intro hr hw
 have hw2 : n.length + 1 + wt t + wts ta + wtEs l ≤ 1000000000 := by simpa [wtE_mk] using hw
 have hln := wtEs_len l
 have hla := wts_len ta
 refine valid_of [] Tryd.func15 rfl (by kernel_rfl) ?_
 refine AT_seq_region fun K1 hK1 => ?_
 simp [row_map, Tryd.f15]
 repeat (refine ⟨by first | omega | (simp only [List.length_append, List.length_cons, List.length_nil]; omega) | (simp at *; omega), ?_⟩)
 refine hK1 _ ?_
 clear hK1 K1
 refine AT_seq_k fun K2 hK2 => ?_
 rcases rightE_kind hr with ⟨hk, hl⟩ | ⟨hk, hl0⟩ | hk | ⟨hk45, hl1⟩
 ·
  have e1 : (kd == 1) = true := by rw [hk]; rfl
  have e2 : (kd == 2) = false := by rw [hk]; rfl
  have e3 : (kd == 3) = false := by rw [hk]; rfl
  have e4 : (kd == 4) = false := by rw [hk]; rfl
  have e5 : (kd == 5) = false := by rw [hk]; rfl
  refine AT_seq_region fun K3 hK3 => ?_
  simp [row_map, e1, e2, e3, e4, e5]
  repeat (refine ⟨by first | omega | (simp only [List.length_append, List.length_cons, List.length_nil]; omega) | (simp at *; omega), ?_⟩)
  refine hK3 _ ?_
  clear hK3 K3
  refine AT_cond (b := true) (g := none) (by simp [e1, e2, e3, e4, e5]) (fun hb => ?_) (fun hb => ?_)
  ·
   clear hb
   refine AT_seq_region fun K4 hK4 => ?_
   simp [row_map, e1, e2, e3, e4, e5]
   repeat (refine ⟨by first | omega | (simp only [List.length_append, List.length_cons, List.length_nil]; omega) | (simp at *; omega), ?_⟩)
   refine hK4 _ ?_
   clear hK4 K4
   refine AT_ret ?_
   simp [row_map, Tryd.f15]
   first
   | (simp [txtE, hk, hl, txtEs]; done)
   | (rw [txtEK_all s0 l f i hb58, hs0, hf]; simp [txtE, hk, hcons]; done)
   | (rw [txtEK_all s0 l f i hb58, hs0, hf]; simp [txtE, hk]; done)
   | (have hnn := rightE_name5 hr hk; simp [txtE, hk, hcons, hnn]; done)
   | (simp [txtE, hk, hcons]; done)
  ·
   cases hb
 ·
  have e1 : (kd == 1) = false := by rw [hk]; rfl
  have e2 : (kd == 2) = true := by rw [hk]; rfl
  have e3 : (kd == 3) = false := by rw [hk]; rfl
  have e4 : (kd == 4) = false := by rw [hk]; rfl
  have e5 : (kd == 5) = false := by rw [hk]; rfl
  have h0 : 0 < l.length := List.length_pos_iff.2 hl0
  have hm0 := wtEs_mem (l := l) (e := l[0]) (by simp)
  have hxw := txtE_wt l[0]
  have hd1 : wtEs (l.drop 1) ≤ wtEs l := by
    conv => rhs; rw [← List.take_append_drop 1 l]
    rw [wtEs_app]; omega
  have hjr := txtEs_join_len (l.drop 1)
  have hta := txt_wt (.mk [] ta 0)
  have htb : wt (.mk [] ta 0) = 1 + wts ta := by simp [wt]
  have hcons : txtEs l = txtE l[0] :: txtEs (l.drop 1) := by
    cases l with
    | nil => exact absurd rfl hl0
    | cons x r => rfl
  obtain ⟨s0, hs0⟩ : ∃ s0, s0 = txtE l[0] ++ [46] ++ n ++ txt (.mk [] ta 0) ++ [40] := ⟨_, rfl⟩
  obtain ⟨f, hf⟩ : ∃ f : Nat, f = 1 := ⟨_, rfl⟩
  have hsl : s0.length ≤ 8 * wtE l[0] + n.length + 4 + 4 * wts ta := by rw [hs0]; simp only [List.length_append, List.length_cons, List.length_nil]; omega
  refine AT_seq_region fun K5 hK5 => ?_
  simp [row_map, e1, e2, e3, e4, e5, h0]
  repeat (refine ⟨by first | omega | (simp only [List.length_append, List.length_cons, List.length_nil]; omega) | (simp at *; omega), ?_⟩)
  refine hK5 _ ?_
  clear hK5 K5
  refine AT_cond (b := false) (g := none) (by simp [e1, e2, e3, e4, e5, h0]) (fun hb => ?_) (fun hb => ?_)
  ·
   cases hb
  ·
   clear hb
   refine AT_skip ?_
   try simp only [nrm, reduceIte, Nat.reduceEqDiff]
   refine hK2 _ ?_
   refine AT_seq_region fun K6 hK6 => ?_
   simp [row_map, e1, e2, e3, e4, e5, h0]
   repeat (refine ⟨by first | omega | (simp only [List.length_append, List.length_cons, List.length_nil]; omega) | (simp at *; omega), ?_⟩)
   refine hK6 _ ?_
   clear hK6 K6
   refine AT_seq_region fun K7 hK7 => ?_
   simp [row_map, e1, e2, e3, e4, e5, h0]
   repeat (refine ⟨by first | omega | (simp only [List.length_append, List.length_cons, List.length_nil]; omega) | (simp at *; omega), ?_⟩)
   refine hK7 _ ?_
   clear hK7 K7
   refine AT_seq_k fun K8 hK8 => ?_
   refine AT_seq_region fun K9 hK9 => ?_
   simp [row_map, e1, e2, e3, e4, e5, h0]
   repeat (refine ⟨by first | omega | (simp only [List.length_append, List.length_cons, List.length_nil]; omega) | (simp at *; omega), ?_⟩)
   refine hK9 _ ?_
   clear hK9 K9
   refine AT_cond (b := false) (g := none) (by simp [e1, e2, e3, e4, e5, h0]) (fun hb => ?_) (fun hb => ?_)
   ·
    cases hb
   ·
    clear hb
    refine AT_draw_q Pt.mixed (by kernel_rfl) fun K10 hK10 => ?_
    simp [row_map, e1, e2, e3, e4, e5, h0]
    repeat (refine ⟨by first | omega | (simp only [List.length_append, List.length_cons, List.length_nil]; omega) | (simp at *; omega), ?_⟩)
    refine RVdn_call (ih l[0] (by simp) (rightE_kids hr l[0] (by simp)) (by omega)) ?_
    simp [row_map, e1, e2, e3, e4, e5, h0]
    repeat (refine ⟨by first | omega | (simp only [List.length_append, List.length_cons, List.length_nil]; omega) | (simp at *; omega), ?_⟩)
    refine hK10 _ ?_
    clear hK10 K10
    try simp only [nrm, reduceIte, Nat.reduceEqDiff]
    refine hK8 _ ?_
    refine AT_seq_k fun K11 hK11 => ?_
    refine AT_seq_region fun K12 hK12 => ?_
    simp [row_map, e1, e2, e3, e4, e5, h0]
    repeat (refine ⟨by first | omega | (simp only [List.length_append, List.length_cons, List.length_nil]; omega) | (simp at *; omega), ?_⟩)
    refine hK12 _ ?_
    clear hK12 K12
    refine AT_cond (b := false) (g := none) (by simp [e1, e2, e3, e4, e5, h0]) (fun hb => ?_) (fun hb => ?_)
    ·
     cases hb
    ·
     clear hb
     refine AT_skip ?_
     try simp only [nrm, reduceIte, Nat.reduceEqDiff]
     refine hK11 _ ?_
     refine AT_seq_k fun K13 hK13 => ?_
     refine AT_seq_region fun K14 hK14 => ?_
     simp [row_map, e1, e2, e3, e4, e5, h0]
     repeat (refine ⟨by first | omega | (simp only [List.length_append, List.length_cons, List.length_nil]; omega) | (simp at *; omega), ?_⟩)
     refine hK14 _ ?_
     clear hK14 K14
     refine AT_cond (b := false) (g := none) (by simp [e1, e2, e3, e4, e5, h0]) (fun hb => ?_) (fun hb => ?_)
     ·
      cases hb
     ·
      clear hb
      refine AT_skip ?_
      try simp only [nrm, reduceIte, Nat.reduceEqDiff]
      refine hK13 _ ?_
      refine AT_seq_k fun K15 hK15 => ?_
      refine AT_seq_region fun K16 hK16 => ?_
      simp [row_map, e1, e2, e3, e4, e5, h0]
      repeat (refine ⟨by first | omega | (simp only [List.length_append, List.length_cons, List.length_nil]; omega) | (simp at *; omega), ?_⟩)
      refine hK16 _ ?_
      clear hK16 K16
      refine AT_cond (b := true) (g := none) (by simp [e1, e2, e3, e4, e5, h0]) (fun hb => ?_) (fun hb => ?_)
      ·
       clear hb
       refine AT_seq_region fun K17 hK17 => ?_
       simp [row_map, e1, e2, e3, e4, e5, h0]
       repeat (refine ⟨by first | omega | (simp only [List.length_append, List.length_cons, List.length_nil]; omega) | (simp at *; omega), ?_⟩)
       refine RVn_call ((by have h := c_ref04x_Text g rnd (.mk [] ta 0) (by omega); rw [encTy_mk] at h; exact h : Valid Tryd.prog (G0 g rnd) 13 [.agg [.str [], .slice (ta.map encTy), .int .i64 0]] (.str (txt (.mk [] ta 0))))) ?_
       simp [row_map, e1, e2, e3, e4, e5, h0]
       repeat (refine ⟨by first | omega | (simp only [List.length_append, List.length_cons, List.length_nil]; omega) | (simp at *; omega), ?_⟩)
       refine hK17 _ ?_
       clear hK17 K17
       refine AT_region_q fun K18 hK18 => ?_
       simp [row_map, e1, e2, e3, e4, e5, h0]
       repeat (refine ⟨by first | omega | (simp only [List.length_append, List.length_cons, List.length_nil]; omega) | (simp at *; omega), ?_⟩)
       refine hK18 _ ?_
       clear hK18 K18
       try simp only [nrm, reduceIte, Nat.reduceEqDiff]
       refine hK15 _ ?_
       refine AT_seq_k fun K19 hK19 => ?_
       refine AT_seq_region fun K20 hK20 => ?_
       simp [row_map, e1, e2, e3, e4, e5, h0]
       repeat (refine ⟨by first | omega | (simp only [List.length_append, List.length_cons, List.length_nil]; omega) | (simp at *; omega), ?_⟩)
       refine hK20 _ ?_
       clear hK20 K20
       refine AT_block ?_
       refine AT_loop_q [1,3,4,6] [1] (fun j s => ∃ i, (f ≤ i ∧ (i ≤ l.length ∨ i = f)) ∧ j = l.length - i ∧ s = { n := 81, tm := [(1, .lp 1 0), (3, .v (.str (txtEK s0 (l.drop f) (i - f))) none), (4, .v (.int .i64 (f : Nat)) none), (6, .v (.int .i64 (i : Nat)) none)], bx := [(1, encE (.mk kd n t ta l p))], tb := [], sh := [], hint := [] }) (l.length - f) (by first | rfl | simp) ?_ ?_
       ·
        exact ⟨f, by omega, by omega, by simp [hf, hs0, txtEK, txtEs, Lib.join_nil]⟩
       ·
        rintro j s ⟨i, ⟨hi1, hi2⟩, rfl, rfl⟩ K21 hK21
        refine AT_seq_k fun K22 hK22 => ?_
        refine AT_seq_region fun K23 hK23 => ?_
        simp [row_map, e1, e2, e3, e4, e5, h0]
        repeat (refine ⟨by first | omega | (simp only [List.length_append, List.length_cons, List.length_nil]; omega) | (simp at *; omega), ?_⟩)
        refine hK23 _ ?_
        clear hK23 K23
        refine AT_cond (g := none) rfl (fun hb58 => ?_) (fun hb58 => ?_)
        ·
         try simp [row_map, e1, e2, e3, e4, e5, h0] at hb58
         refine AT_skip ?_
         try simp only [nrm, reduceIte, Nat.reduceEqDiff]
         refine hK22 _ ?_
         refine AT_seq_k fun K24 hK24 => ?_
         refine AT_block ?_
         refine AT_seq_k fun K25 hK25 => ?_
         refine AT_seq_region fun K26 hK26 => ?_
         simp [row_map, e1, e2, e3, e4, e5, h0, hb58]
         repeat (refine ⟨by first | omega | (simp only [List.length_append, List.length_cons, List.length_nil]; omega) | (simp at *; omega), ?_⟩)
         refine hK26 _ ?_
         clear hK26 K26
         refine AT_cond (g := none) rfl (fun hb63 => ?_) (fun hb63 => ?_)
         ·
          try simp [row_map, e1, e2, e3, e4, e5, h0, hb58] at hb63
          refine AT_region_q fun K27 hK27 => ?_
          have hek := txtEK_drop_len s0 l f (i - f)
          simp [row_map, e1, e2, e3, e4, e5, h0, hb58]
          repeat (refine ⟨by first | omega | (simp only [List.length_append, List.length_cons, List.length_nil]; omega) | (simp at *; omega), ?_⟩)
          refine hK27 _ ?_
          clear hK27 K27
          try simp only [nrm, reduceIte, Nat.reduceEqDiff]
          refine hK25 _ ?_
          refine AT_region_q fun K28 hK28 => ?_
          have hek := txtEK_drop_len s0 l f (i - f)
          have hmi := wtEs_mem (l := l) (e := l[i]) (by simp)
          have hxi := txtE_wt l[i]
          simp [row_map, e1, e2, e3, e4, e5, h0, hb58]
          repeat (refine ⟨by first | omega | (simp only [List.length_append, List.length_cons, List.length_nil]; omega) | (simp at *; omega), ?_⟩)
          refine RVn_call (ih l[i] (by simp) (rightE_kids hr _ (by simp)) (by omega)) ?_
          simp [row_map, e1, e2, e3, e4, e5, h0, hb58]
          repeat (refine ⟨by first | omega | (simp only [List.length_append, List.length_cons, List.length_nil]; omega) | (simp at *; omega), ?_⟩)
          refine hK28 _ ?_
          clear hK28 K28
          try simp only [nrm, reduceIte, Nat.reduceEqDiff]
          refine hK24 _ ?_
          refine AT_region_q fun K29 hK29 => ?_
          simp [row_map, e1, e2, e3, e4, e5, h0, hb58]
          repeat (refine ⟨by first | omega | (simp only [List.length_append, List.length_cons, List.length_nil]; omega) | (simp at *; omega), ?_⟩)
          refine hK29 _ ?_
          clear hK29 K29
          try simp only [nrm, reduceIte, Nat.reduceEqDiff]
          refine hK21 _ (by first | rfl | simp) (l.length - (i+1)) (by omega) ?_
          have hat := txtEK_at s0 l f i hi1 hb58
          first
          | (rw [if_pos (by omega)] at hat
             exact ⟨i+1, by omega, by omega, by simp [hat]⟩)
          | (rw [if_neg (by omega)] at hat
             exact ⟨i+1, by omega, by omega, by simp [hat]⟩)
         ·
          try simp [row_map, e1, e2, e3, e4, e5, h0, hb58] at hb63
          refine AT_skip ?_
          try simp only [nrm, reduceIte, Nat.reduceEqDiff]
          refine hK25 _ ?_
          refine AT_region_q fun K30 hK30 => ?_
          have hek := txtEK_drop_len s0 l f (i - f)
          have hmi := wtEs_mem (l := l) (e := l[i]) (by simp)
          have hxi := txtE_wt l[i]
          simp [row_map, e1, e2, e3, e4, e5, h0, hb58]
          repeat (refine ⟨by first | omega | (simp only [List.length_append, List.length_cons, List.length_nil]; omega) | (simp at *; omega), ?_⟩)
          refine RVn_call (ih l[i] (by simp) (rightE_kids hr _ (by simp)) (by omega)) ?_
          simp [row_map, e1, e2, e3, e4, e5, h0, hb58]
          repeat (refine ⟨by first | omega | (simp only [List.length_append, List.length_cons, List.length_nil]; omega) | (simp at *; omega), ?_⟩)
          refine hK30 _ ?_
          clear hK30 K30
          try simp only [nrm, reduceIte, Nat.reduceEqDiff]
          refine hK24 _ ?_
          refine AT_region_q fun K31 hK31 => ?_
          simp [row_map, e1, e2, e3, e4, e5, h0, hb58]
          repeat (refine ⟨by first | omega | (simp only [List.length_append, List.length_cons, List.length_nil]; omega) | (simp at *; omega), ?_⟩)
          refine hK31 _ ?_
          clear hK31 K31
          try simp only [nrm, reduceIte, Nat.reduceEqDiff]
          refine hK21 _ (by first | rfl | simp) (l.length - (i+1)) (by omega) ?_
          have hat := txtEK_at s0 l f i hi1 hb58
          first
          | (rw [if_pos (by omega)] at hat
             exact ⟨i+1, by omega, by omega, by simp [hat]⟩)
          | (rw [if_neg (by omega)] at hat
             exact ⟨i+1, by omega, by omega, by simp [hat]⟩)
        ·
         try simp [row_map, e1, e2, e3, e4, e5, h0] at hb58
         refine AT_exit ?_
         try simp only [nrm, reduceIte, Nat.reduceEqDiff]
         refine hK19 _ ?_
         refine AT_seq_k fun K32 hK32 => ?_
         refine AT_seq_region fun K33 hK33 => ?_
         simp [row_map, e1, e2, e3, e4, e5, h0, hb58]
         repeat (refine ⟨by first | omega | (simp only [List.length_append, List.length_cons, List.length_nil]; omega) | (simp at *; omega), ?_⟩)
         refine hK33 _ ?_
         clear hK33 K33
         refine AT_cond (b := false) (g := none) (by simp [e1, e2, e3, e4, e5, h0, hb58]) (fun hb => ?_) (fun hb => ?_)
         ·
          cases hb
         ·
          clear hb
          refine AT_skip ?_
          try simp only [nrm, reduceIte, Nat.reduceEqDiff]
          refine hK32 _ ?_
          refine AT_seq_region fun K34 hK34 => ?_
          have hek := txtEK_drop_len s0 l f (i - f)
          simp [row_map, e1, e2, e3, e4, e5, h0, hb58]
          repeat (refine ⟨by first | omega | (simp only [List.length_append, List.length_cons, List.length_nil]; omega) | (simp at *; omega), ?_⟩)
          refine hK34 _ ?_
          clear hK34 K34
          refine AT_ret ?_
          simp [row_map, Tryd.f15]
          first
          | (simp [txtE, hk, hl, txtEs]; done)
          | (rw [txtEK_all s0 l f i hb58, hs0, hf]; simp [txtE, hk, hcons]; done)
          | (rw [txtEK_all s0 l f i hb58, hs0, hf]; simp [txtE, hk]; done)
          | (have hnn := rightE_name5 hr hk; simp [txtE, hk, hcons, hnn]; done)
          | (simp [txtE, hk, hcons]; done)
      ·
       cases hb
 ·
  have e1 : (kd == 1) = false := by rw [hk]; rfl
  have e2 : (kd == 2) = false := by rw [hk]; rfl
  have e3 : (kd == 3) = true := by rw [hk]; rfl
  have e4 : (kd == 4) = false := by rw [hk]; rfl
  have e5 : (kd == 5) = false := by rw [hk]; rfl
  have htw := txt_wt t
  have hjl := txtEs_join_len l
  obtain ⟨s0, hs0⟩ : ∃ s0, s0 = txt t ++ [123] := ⟨_, rfl⟩
  obtain ⟨f, hf⟩ : ∃ f : Nat, f = 0 := ⟨_, rfl⟩
  have hsl : s0.length ≤ 4 * wt t + 4 := by rw [hs0]; simp only [List.length_append, List.length_cons, List.length_nil]; omega
  refine AT_seq_region fun K35 hK35 => ?_
  simp [row_map, e1, e2, e3, e4, e5]
  repeat (refine ⟨by first | omega | (simp only [List.length_append, List.length_cons, List.length_nil]; omega) | (simp at *; omega), ?_⟩)
  refine hK35 _ ?_
  clear hK35 K35
  refine AT_cond (b := false) (g := none) (by simp [e1, e2, e3, e4, e5]) (fun hb => ?_) (fun hb => ?_)
  ·
   cases hb
  ·
   clear hb
   refine AT_skip ?_
   try simp only [nrm, reduceIte, Nat.reduceEqDiff]
   refine hK2 _ ?_
   refine AT_seq_region fun K36 hK36 => ?_
   simp [row_map, e1, e2, e3, e4, e5]
   repeat (refine ⟨by first | omega | (simp only [List.length_append, List.length_cons, List.length_nil]; omega) | (simp at *; omega), ?_⟩)
   refine hK36 _ ?_
   clear hK36 K36
   refine AT_seq_region fun K37 hK37 => ?_
   simp [row_map, e1, e2, e3, e4, e5]
   repeat (refine ⟨by first | omega | (simp only [List.length_append, List.length_cons, List.length_nil]; omega) | (simp at *; omega), ?_⟩)
   refine hK37 _ ?_
   clear hK37 K37
   refine AT_seq_k fun K38 hK38 => ?_
   refine AT_seq_region fun K39 hK39 => ?_
   simp [row_map, e1, e2, e3, e4, e5]
   repeat (refine ⟨by first | omega | (simp only [List.length_append, List.length_cons, List.length_nil]; omega) | (simp at *; omega), ?_⟩)
   refine hK39 _ ?_
   clear hK39 K39
   refine AT_cond (b := true) (g := none) (by simp [e1, e2, e3, e4, e5]) (fun hb => ?_) (fun hb => ?_)
   ·
    clear hb
    refine AT_seq_region fun K40 hK40 => ?_
    simp [row_map, e1, e2, e3, e4, e5]
    repeat (refine ⟨by first | omega | (simp only [List.length_append, List.length_cons, List.length_nil]; omega) | (simp at *; omega), ?_⟩)
    refine RVn_call (c_ref04x_Text g rnd t (by omega)) ?_
    simp [row_map, e1, e2, e3, e4, e5]
    repeat (refine ⟨by first | omega | (simp only [List.length_append, List.length_cons, List.length_nil]; omega) | (simp at *; omega), ?_⟩)
    refine hK40 _ ?_
    clear hK40 K40
    refine AT_region_q fun K41 hK41 => ?_
    simp [row_map, e1, e2, e3, e4, e5]
    repeat (refine ⟨by first | omega | (simp only [List.length_append, List.length_cons, List.length_nil]; omega) | (simp at *; omega), ?_⟩)
    refine hK41 _ ?_
    clear hK41 K41
    try simp only [nrm, reduceIte, Nat.reduceEqDiff]
    refine hK38 _ ?_
    refine AT_seq_k fun K42 hK42 => ?_
    refine AT_seq_region fun K43 hK43 => ?_
    simp [row_map, e1, e2, e3, e4, e5]
    repeat (refine ⟨by first | omega | (simp only [List.length_append, List.length_cons, List.length_nil]; omega) | (simp at *; omega), ?_⟩)
    refine hK43 _ ?_
    clear hK43 K43
    refine AT_cond (b := false) (g := none) (by simp [e1, e2, e3, e4, e5]) (fun hb => ?_) (fun hb => ?_)
    ·
     cases hb
    ·
     clear hb
     refine AT_skip ?_
     try simp only [nrm, reduceIte, Nat.reduceEqDiff]
     refine hK42 _ ?_
     refine AT_seq_k fun K44 hK44 => ?_
     refine AT_seq_region fun K45 hK45 => ?_
     simp [row_map, e1, e2, e3, e4, e5]
     repeat (refine ⟨by first | omega | (simp only [List.length_append, List.length_cons, List.length_nil]; omega) | (simp at *; omega), ?_⟩)
     refine hK45 _ ?_
     clear hK45 K45
     refine AT_cond (b := false) (g := none) (by simp [e1, e2, e3, e4, e5]) (fun hb => ?_) (fun hb => ?_)
     ·
      cases hb
     ·
      clear hb
      refine AT_skip ?_
      try simp only [nrm, reduceIte, Nat.reduceEqDiff]
      refine hK44 _ ?_
      refine AT_seq_k fun K46 hK46 => ?_
      refine AT_seq_region fun K47 hK47 => ?_
      simp [row_map, e1, e2, e3, e4, e5]
      repeat (refine ⟨by first | omega | (simp only [List.length_append, List.length_cons, List.length_nil]; omega) | (simp at *; omega), ?_⟩)
      refine hK47 _ ?_
      clear hK47 K47
      refine AT_cond (b := false) (g := none) (by simp [e1, e2, e3, e4, e5]) (fun hb => ?_) (fun hb => ?_)
      ·
       cases hb
      ·
       clear hb
       refine AT_skip ?_
       try simp only [nrm, reduceIte, Nat.reduceEqDiff]
       refine hK46 _ ?_
       refine AT_seq_k fun K48 hK48 => ?_
       refine AT_seq_region fun K49 hK49 => ?_
       simp [row_map, e1, e2, e3, e4, e5]
       repeat (refine ⟨by first | omega | (simp only [List.length_append, List.length_cons, List.length_nil]; omega) | (simp at *; omega), ?_⟩)
       refine hK49 _ ?_
       clear hK49 K49
       refine AT_block ?_
       refine AT_loop_q [1,3,4,6] [1] (fun j s => ∃ i, (f ≤ i ∧ (i ≤ l.length ∨ i = f)) ∧ j = l.length - i ∧ s = { n := 81, tm := [(1, .lp 1 0), (3, .v (.str (txtEK s0 (l.drop f) (i - f))) none), (4, .v (.int .i64 (f : Nat)) none), (6, .v (.int .i64 (i : Nat)) none)], bx := [(1, encE (.mk kd n t ta l p))], tb := [], sh := [], hint := [] }) (l.length - f) (by first | rfl | simp) ?_ ?_
       ·
        exact ⟨f, by omega, by omega, by simp [hf, hs0, txtEK, txtEs, Lib.join_nil]⟩
       ·
        rintro j s ⟨i, ⟨hi1, hi2⟩, rfl, rfl⟩ K50 hK50
        refine AT_seq_k fun K51 hK51 => ?_
        refine AT_seq_region fun K52 hK52 => ?_
        simp [row_map, e1, e2, e3, e4, e5]
        repeat (refine ⟨by first | omega | (simp only [List.length_append, List.length_cons, List.length_nil]; omega) | (simp at *; omega), ?_⟩)
        refine hK52 _ ?_
        clear hK52 K52
        refine AT_cond (g := none) rfl (fun hb58 => ?_) (fun hb58 => ?_)
        ·
         try simp [row_map, e1, e2, e3, e4, e5] at hb58
         refine AT_skip ?_
         try simp only [nrm, reduceIte, Nat.reduceEqDiff]
         refine hK51 _ ?_
         refine AT_seq_k fun K53 hK53 => ?_
         refine AT_block ?_
         refine AT_seq_k fun K54 hK54 => ?_
         refine AT_seq_region fun K55 hK55 => ?_
         simp [row_map, e1, e2, e3, e4, e5, hb58]
         repeat (refine ⟨by first | omega | (simp only [List.length_append, List.length_cons, List.length_nil]; omega) | (simp at *; omega), ?_⟩)
         refine hK55 _ ?_
         clear hK55 K55
         refine AT_cond (g := none) rfl (fun hb63 => ?_) (fun hb63 => ?_)
         ·
          try simp [row_map, e1, e2, e3, e4, e5, hb58] at hb63
          refine AT_region_q fun K56 hK56 => ?_
          have hek := txtEK_drop_len s0 l f (i - f)
          simp [row_map, e1, e2, e3, e4, e5, hb58]
          repeat (refine ⟨by first | omega | (simp only [List.length_append, List.length_cons, List.length_nil]; omega) | (simp at *; omega), ?_⟩)
          refine hK56 _ ?_
          clear hK56 K56
          try simp only [nrm, reduceIte, Nat.reduceEqDiff]
          refine hK54 _ ?_
          refine AT_region_q fun K57 hK57 => ?_
          have hek := txtEK_drop_len s0 l f (i - f)
          have hmi := wtEs_mem (l := l) (e := l[i]) (by simp)
          have hxi := txtE_wt l[i]
          simp [row_map, e1, e2, e3, e4, e5, hb58]
          repeat (refine ⟨by first | omega | (simp only [List.length_append, List.length_cons, List.length_nil]; omega) | (simp at *; omega), ?_⟩)
          refine RVn_call (ih l[i] (by simp) (rightE_kids hr _ (by simp)) (by omega)) ?_
          simp [row_map, e1, e2, e3, e4, e5, hb58]
          repeat (refine ⟨by first | omega | (simp only [List.length_append, List.length_cons, List.length_nil]; omega) | (simp at *; omega), ?_⟩)
          refine hK57 _ ?_
          clear hK57 K57
          try simp only [nrm, reduceIte, Nat.reduceEqDiff]
          refine hK53 _ ?_
          refine AT_region_q fun K58 hK58 => ?_
          simp [row_map, e1, e2, e3, e4, e5, hb58]
          repeat (refine ⟨by first | omega | (simp only [List.length_append, List.length_cons, List.length_nil]; omega) | (simp at *; omega), ?_⟩)
          refine hK58 _ ?_
          clear hK58 K58
          try simp only [nrm, reduceIte, Nat.reduceEqDiff]
          refine hK50 _ (by first | rfl | simp) (l.length - (i+1)) (by omega) ?_
          have hat := txtEK_at s0 l f i hi1 hb58
          first
          | (rw [if_pos (by omega)] at hat
             exact ⟨i+1, by omega, by omega, by simp [hat]⟩)
          | (rw [if_neg (by omega)] at hat
             exact ⟨i+1, by omega, by omega, by simp [hat]⟩)
         ·
          try simp [row_map, e1, e2, e3, e4, e5, hb58] at hb63
          refine AT_skip ?_
          try simp only [nrm, reduceIte, Nat.reduceEqDiff]
          refine hK54 _ ?_
          refine AT_region_q fun K59 hK59 => ?_
          have hek := txtEK_drop_len s0 l f (i - f)
          have hmi := wtEs_mem (l := l) (e := l[i]) (by simp)
          have hxi := txtE_wt l[i]
          simp [row_map, e1, e2, e3, e4, e5, hb58]
          repeat (refine ⟨by first | omega | (simp only [List.length_append, List.length_cons, List.length_nil]; omega) | (simp at *; omega), ?_⟩)
          refine RVn_call (ih l[i] (by simp) (rightE_kids hr _ (by simp)) (by omega)) ?_
          simp [row_map, e1, e2, e3, e4, e5, hb58]
          repeat (refine ⟨by first | omega | (simp only [List.length_append, List.length_cons, List.length_nil]; omega) | (simp at *; omega), ?_⟩)
          refine hK59 _ ?_
          clear hK59 K59
          try simp only [nrm, reduceIte, Nat.reduceEqDiff]
          refine hK53 _ ?_
          refine AT_region_q fun K60 hK60 => ?_
          simp [row_map, e1, e2, e3, e4, e5, hb58]
          repeat (refine ⟨by first | omega | (simp only [List.length_append, List.length_cons, List.length_nil]; omega) | (simp at *; omega), ?_⟩)
          refine hK60 _ ?_
          clear hK60 K60
          try simp only [nrm, reduceIte, Nat.reduceEqDiff]
          refine hK50 _ (by first | rfl | simp) (l.length - (i+1)) (by omega) ?_
          have hat := txtEK_at s0 l f i hi1 hb58
          first
          | (rw [if_pos (by omega)] at hat
             exact ⟨i+1, by omega, by omega, by simp [hat]⟩)
          | (rw [if_neg (by omega)] at hat
             exact ⟨i+1, by omega, by omega, by simp [hat]⟩)
        ·
         try simp [row_map, e1, e2, e3, e4, e5] at hb58
         refine AT_exit ?_
         try simp only [nrm, reduceIte, Nat.reduceEqDiff]
         refine hK48 _ ?_
         refine AT_seq_k fun K61 hK61 => ?_
         refine AT_seq_region fun K62 hK62 => ?_
         simp [row_map, e1, e2, e3, e4, e5, hb58]
         repeat (refine ⟨by first | omega | (simp only [List.length_append, List.length_cons, List.length_nil]; omega) | (simp at *; omega), ?_⟩)
         refine hK62 _ ?_
         clear hK62 K62
         refine AT_cond (b := true) (g := none) (by simp [e1, e2, e3, e4, e5, hb58]) (fun hb => ?_) (fun hb => ?_)
         ·
          clear hb
          refine AT_seq_region fun K63 hK63 => ?_
          have hek := txtEK_drop_len s0 l f (i - f)
          simp [row_map, e1, e2, e3, e4, e5, hb58]
          repeat (refine ⟨by first | omega | (simp only [List.length_append, List.length_cons, List.length_nil]; omega) | (simp at *; omega), ?_⟩)
          refine hK63 _ ?_
          clear hK63 K63
          refine AT_ret ?_
          simp [row_map, Tryd.f15]
          first
          | (simp [txtE, hk, hl, txtEs]; done)
          | (rw [txtEK_all s0 l f i hb58, hs0, hf]; simp [txtE, hk, hcons]; done)
          | (rw [txtEK_all s0 l f i hb58, hs0, hf]; simp [txtE, hk]; done)
          | (have hnn := rightE_name5 hr hk; simp [txtE, hk, hcons, hnn]; done)
          | (simp [txtE, hk, hcons]; done)
         ·
          cases hb
   ·
    cases hb
 ·
  have h0 : 0 < l.length := by omega
  have hm0 := wtEs_mem (l := l) (e := l[0]) (by simp)
  have hxw := txtE_wt l[0]
  have htw := txt_wt t
  have hcons : txtEs l = [txtE l[0]] := by
    obtain ⟨x, rfl⟩ := List.length_eq_one_iff.1 hl1
    rfl
  rcases hk45 with hk | hk
  ·
   have e1 : (kd == 1) = false := by rw [hk]; rfl
   have e2 : (kd == 2) = false := by rw [hk]; rfl
   have e3 : (kd == 3) = false := by rw [hk]; rfl
   have e4 : (kd == 4) = true := by rw [hk]; rfl
   have e5 : (kd == 5) = false := by rw [hk]; rfl
   refine AT_seq_region fun K64 hK64 => ?_
   simp [row_map, h0, e1, e2, e3, e4, e5]
   repeat (refine ⟨by first | omega | (simp only [List.length_append, List.length_cons, List.length_nil]; omega) | (simp at *; omega), ?_⟩)
   refine hK64 _ ?_
   clear hK64 K64
   refine AT_cond (b := false) (g := none) (by simp [h0, e1, e2, e3, e4, e5]) (fun hb => ?_) (fun hb => ?_)
   ·
    cases hb
   ·
    clear hb
    refine AT_skip ?_
    try simp only [nrm, reduceIte, Nat.reduceEqDiff]
    refine hK2 _ ?_
    refine AT_seq_region fun K65 hK65 => ?_
    simp [row_map, h0, e1, e2, e3, e4, e5]
    repeat (refine ⟨by first | omega | (simp only [List.length_append, List.length_cons, List.length_nil]; omega) | (simp at *; omega), ?_⟩)
    refine hK65 _ ?_
    clear hK65 K65
    refine AT_seq_region fun K66 hK66 => ?_
    simp [row_map, h0, e1, e2, e3, e4, e5]
    repeat (refine ⟨by first | omega | (simp only [List.length_append, List.length_cons, List.length_nil]; omega) | (simp at *; omega), ?_⟩)
    refine hK66 _ ?_
    clear hK66 K66
    refine AT_seq_k fun K67 hK67 => ?_
    refine AT_seq_region fun K68 hK68 => ?_
    simp [row_map, h0, e1, e2, e3, e4, e5]
    repeat (refine ⟨by first | omega | (simp only [List.length_append, List.length_cons, List.length_nil]; omega) | (simp at *; omega), ?_⟩)
    refine hK68 _ ?_
    clear hK68 K68
    refine AT_cond (b := false) (g := none) (by simp [h0, e1, e2, e3, e4, e5]) (fun hb => ?_) (fun hb => ?_)
    ·
     cases hb
    ·
     clear hb
     refine AT_draw_q Pt.mixed (by kernel_rfl) fun K69 hK69 => ?_
     simp [row_map, h0, e1, e2, e3, e4, e5]
     repeat (refine ⟨by first | omega | (simp only [List.length_append, List.length_cons, List.length_nil]; omega) | (simp at *; omega), ?_⟩)
     refine RVdn_call (ih l[0] (by simp) (rightE_kids hr l[0] (by simp)) (by omega)) ?_
     simp [row_map, h0, e1, e2, e3, e4, e5]
     repeat (refine ⟨by first | omega | (simp only [List.length_append, List.length_cons, List.length_nil]; omega) | (simp at *; omega), ?_⟩)
     refine hK69 _ ?_
     clear hK69 K69
     try simp only [nrm, reduceIte, Nat.reduceEqDiff]
     refine hK67 _ ?_
     refine AT_seq_k fun K70 hK70 => ?_
     refine AT_seq_region fun K71 hK71 => ?_
     simp [row_map, h0, e1, e2, e3, e4, e5]
     repeat (refine ⟨by first | omega | (simp only [List.length_append, List.length_cons, List.length_nil]; omega) | (simp at *; omega), ?_⟩)
     refine hK71 _ ?_
     clear hK71 K71
     refine AT_cond (b := false) (g := none) (by simp [h0, e1, e2, e3, e4, e5]) (fun hb => ?_) (fun hb => ?_)
     ·
      cases hb
     ·
      clear hb
      refine AT_skip ?_
      try simp only [nrm, reduceIte, Nat.reduceEqDiff]
      refine hK70 _ ?_
      refine AT_seq_k fun K72 hK72 => ?_
      refine AT_seq_region fun K73 hK73 => ?_
      simp [row_map, h0, e1, e2, e3, e4, e5]
      repeat (refine ⟨by first | omega | (simp only [List.length_append, List.length_cons, List.length_nil]; omega) | (simp at *; omega), ?_⟩)
      refine hK73 _ ?_
      clear hK73 K73
      refine AT_cond (b := true) (g := none) (by simp [h0, e1, e2, e3, e4, e5]) (fun hb => ?_) (fun hb => ?_)
      ·
       clear hb
       refine AT_seq_region fun K74 hK74 => ?_
       simp [row_map, h0, e1, e2, e3, e4, e5]
       repeat (refine ⟨by first | omega | (simp only [List.length_append, List.length_cons, List.length_nil]; omega) | (simp at *; omega), ?_⟩)
       refine hK74 _ ?_
       clear hK74 K74
       refine AT_ret ?_
       simp [row_map, Tryd.f15]
       first
       | (simp [txtE, hk, hl, txtEs]; done)
       | (rw [txtEK_all s0 l f i hb58, hs0, hf]; simp [txtE, hk, hcons]; done)
       | (rw [txtEK_all s0 l f i hb58, hs0, hf]; simp [txtE, hk]; done)
       | (have hnn := rightE_name5 hr hk; simp [txtE, hk, hcons, hnn]; done)
       | (simp [txtE, hk, hcons]; done)
      ·
       cases hb
  ·
   have e1 : (kd == 1) = false := by rw [hk]; rfl
   have e2 : (kd == 2) = false := by rw [hk]; rfl
   have e3 : (kd == 3) = false := by rw [hk]; rfl
   have e4 : (kd == 4) = false := by rw [hk]; rfl
   have e5 : (kd == 5) = true := by rw [hk]; rfl
   refine AT_seq_region fun K75 hK75 => ?_
   simp [row_map, h0, e1, e2, e3, e4, e5]
   repeat (refine ⟨by first | omega | (simp only [List.length_append, List.length_cons, List.length_nil]; omega) | (simp at *; omega), ?_⟩)
   refine hK75 _ ?_
   clear hK75 K75
   refine AT_cond (b := false) (g := none) (by simp [h0, e1, e2, e3, e4, e5]) (fun hb => ?_) (fun hb => ?_)
   ·
    cases hb
   ·
    clear hb
    refine AT_skip ?_
    try simp only [nrm, reduceIte, Nat.reduceEqDiff]
    refine hK2 _ ?_
    refine AT_seq_region fun K76 hK76 => ?_
    simp [row_map, h0, e1, e2, e3, e4, e5]
    repeat (refine ⟨by first | omega | (simp only [List.length_append, List.length_cons, List.length_nil]; omega) | (simp at *; omega), ?_⟩)
    refine hK76 _ ?_
    clear hK76 K76
    refine AT_seq_region fun K77 hK77 => ?_
    simp [row_map, h0, e1, e2, e3, e4, e5]
    repeat (refine ⟨by first | omega | (simp only [List.length_append, List.length_cons, List.length_nil]; omega) | (simp at *; omega), ?_⟩)
    refine hK77 _ ?_
    clear hK77 K77
    refine AT_seq_k fun K78 hK78 => ?_
    refine AT_seq_region fun K79 hK79 => ?_
    simp [row_map, h0, e1, e2, e3, e4, e5]
    repeat (refine ⟨by first | omega | (simp only [List.length_append, List.length_cons, List.length_nil]; omega) | (simp at *; omega), ?_⟩)
    refine hK79 _ ?_
    clear hK79 K79
    refine AT_cond (b := false) (g := none) (by simp [h0, e1, e2, e3, e4, e5]) (fun hb => ?_) (fun hb => ?_)
    ·
     cases hb
    ·
     clear hb
     refine AT_draw_q Pt.mixed (by kernel_rfl) fun K80 hK80 => ?_
     simp [row_map, h0, e1, e2, e3, e4, e5]
     repeat (refine ⟨by first | omega | (simp only [List.length_append, List.length_cons, List.length_nil]; omega) | (simp at *; omega), ?_⟩)
     refine RVdn_call (ih l[0] (by simp) (rightE_kids hr l[0] (by simp)) (by omega)) ?_
     simp [row_map, h0, e1, e2, e3, e4, e5]
     repeat (refine ⟨by first | omega | (simp only [List.length_append, List.length_cons, List.length_nil]; omega) | (simp at *; omega), ?_⟩)
     refine hK80 _ ?_
     clear hK80 K80
     try simp only [nrm, reduceIte, Nat.reduceEqDiff]
     refine hK78 _ ?_
     refine AT_seq_k fun K81 hK81 => ?_
     refine AT_seq_region fun K82 hK82 => ?_
     simp [row_map, h0, e1, e2, e3, e4, e5]
     repeat (refine ⟨by first | omega | (simp only [List.length_append, List.length_cons, List.length_nil]; omega) | (simp at *; omega), ?_⟩)
     refine hK82 _ ?_
     clear hK82 K82
     refine AT_cond (b := true) (g := none) (by simp [h0, e1, e2, e3, e4, e5]) (fun hb => ?_) (fun hb => ?_)
     ·
      clear hb
      refine AT_seq_region fun K83 hK83 => ?_
      simp [row_map, h0, e1, e2, e3, e4, e5]
      repeat (refine ⟨by first | omega | (simp only [List.length_append, List.length_cons, List.length_nil]; omega) | (simp at *; omega), ?_⟩)
      refine RVn_call (c_ref04x_Text g rnd t (by omega)) ?_
      simp [row_map, h0, e1, e2, e3, e4, e5]
      repeat (refine ⟨by first | omega | (simp only [List.length_append, List.length_cons, List.length_nil]; omega) | (simp at *; omega), ?_⟩)
      refine hK83 _ ?_
      clear hK83 K83
      refine AT_ret ?_
      simp [row_map, Tryd.f15]
      first
      | (simp [txtE, hk, hl, txtEs]; done)
      | (rw [txtEK_all s0 l f i hb58, hs0, hf]; simp [txtE, hk, hcons]; done)
      | (rw [txtEK_all s0 l f i hb58, hs0, hf]; simp [txtE, hk]; done)
      | (have hnn := rightE_name5 hr hk; simp [txtE, hk, hcons, hnn]; done)
      | (simp [txtE, hk, hcons]; done)
     ·
      cases hb

end Go.Proofs.YtpjkdaechknogaaDoor
end

section
/- The laws: what is read back. -/
set_option linter.all false
set_option maxHeartbeats 1000000
set_option maxRecDepth 10000
namespace Go.Proofs.YtpjkdaechknogaaDoor
open Go Go.Pv
variable (g : Nat → Option (List AV)) (rnd : Bool)

theorem c_law07x_ReadBack (t : Ty) (e : Exp) (hft : fit t) (hfe : fitE e) (hres : g 0 = some reservedA) (hty : g 1 = some errTy) : Valid Tryd.prog (G0 g false) 3 [.agg (encTy t), .agg (encE e)] (.bool true) := by

 refine valid_of [] Tryd.func3 rfl (by kernel_rfl) ?_
 refine AT_seq_region fun K1 hK1 => ?_
 simp [Tryd.f3]
 repeat refine sg ?_
 refine hK1 _ ?_
 clear hK1 K1
 refine AT_seq_k fun K2 hK2 => ?_
 by_cases hct : cnt t 0 ≤ 200
 ·
  have hwt := few_wt hct
  have hst := few_csum hct
  by_cases hce : cntE e 0 ≤ 250
  ·
   have hwe := fewE_wt hce
   have hse := few_esum hce
   cases hrt : rightT t
   ·
    refine AT_seq_region fun K3 hK3 => ?_
    simp [hct, hce, hrt]
    repeat refine sg ?_
    try (
     refine RVn_call (c_law07x_awake g hres hty) ?_
     simp [hct, hce, hrt]
     repeat refine sg ?_)
    try (
     refine RVn_call (c_ref04x_Few g false t hft) ?_
     simp [hct, hce, hrt]
     repeat refine sg ?_)
    try (
     refine RVn_call (c_ref05x_Few g false e hfe) ?_
     simp [hct, hce, hrt]
     repeat refine sg ?_)
    try (
     refine RVn_call (c_ref04x_Right g false t (by omega)) ?_
     simp [hct, hce, hrt]
     repeat refine sg ?_)
    try (
     refine RVn_call (c_ref05x_Right g false e (by omega)) ?_
     simp [hct, hce, hrt]
     repeat refine sg ?_)
    refine hK3 _ ?_
    clear hK3 K3
    refine AT_cond (b := true) (g := none) (by simp [hct, hce, hrt]) (fun hb => ?_) (fun hb => ?_)
    ·
     clear hb
     refine AT_seq_region fun K4 hK4 => ?_
     simp [hct, hce, hrt]
     repeat refine sg ?_
     refine RVn_call (c_law07x_awake g hres hty) ?_
     simp [hct, hce, hrt]
     repeat refine sg ?_
     refine hK4 _ ?_
     clear hK4 K4
     refine AT_ret ?_
     simp [Tryd.f3]
    ·
     cases hb
   ·
    cases hre : rightE e
    ·
     refine AT_seq_region fun K5 hK5 => ?_
     simp [hct, hce, hrt, hre]
     repeat refine sg ?_
     try (
      refine RVn_call (c_law07x_awake g hres hty) ?_
      simp [hct, hce, hrt, hre]
      repeat refine sg ?_)
     try (
      refine RVn_call (c_ref04x_Few g false t hft) ?_
      simp [hct, hce, hrt, hre]
      repeat refine sg ?_)
     try (
      refine RVn_call (c_ref05x_Few g false e hfe) ?_
      simp [hct, hce, hrt, hre]
      repeat refine sg ?_)
     try (
      refine RVn_call (c_ref04x_Right g false t (by omega)) ?_
      simp [hct, hce, hrt, hre]
      repeat refine sg ?_)
     try (
      refine RVn_call (c_ref05x_Right g false e (by omega)) ?_
      simp [hct, hce, hrt, hre]
      repeat refine sg ?_)
     refine hK5 _ ?_
     clear hK5 K5
     refine AT_cond (b := true) (g := none) (by simp [hct, hce, hrt, hre]) (fun hb => ?_) (fun hb => ?_)
     ·
      clear hb
      refine AT_seq_region fun K6 hK6 => ?_
      simp [hct, hce, hrt, hre]
      repeat refine sg ?_
      refine RVn_call (c_law07x_awake g hres hty) ?_
      simp [hct, hce, hrt, hre]
      repeat refine sg ?_
      refine hK6 _ ?_
      clear hK6 K6
      refine AT_ret ?_
      simp [Tryd.f3]
     ·
      cases hb
    ·
     refine AT_seq_region fun K7 hK7 => ?_
     simp [hct, hce, hrt, hre]
     repeat refine sg ?_
     try (
      refine RVn_call (c_law07x_awake g hres hty) ?_
      simp [hct, hce, hrt, hre]
      repeat refine sg ?_)
     try (
      refine RVn_call (c_ref04x_Few g false t hft) ?_
      simp [hct, hce, hrt, hre]
      repeat refine sg ?_)
     try (
      refine RVn_call (c_ref05x_Few g false e hfe) ?_
      simp [hct, hce, hrt, hre]
      repeat refine sg ?_)
     try (
      refine RVn_call (c_ref04x_Right g false t (by omega)) ?_
      simp [hct, hce, hrt, hre]
      repeat refine sg ?_)
     try (
      refine RVn_call (c_ref05x_Right g false e (by omega)) ?_
      simp [hct, hce, hrt, hre]
      repeat refine sg ?_)
     refine hK7 _ ?_
     clear hK7 K7
     refine AT_cond (b := false) (g := none) (by simp [hct, hce, hrt, hre]) (fun hb => ?_) (fun hb => ?_)
     ·
      cases hb
     ·
      clear hb
      refine AT_skip ?_
      try simp only [nrm, reduceIte, Nat.reduceEqDiff]
      refine hK2 _ ?_
      refine AT_seq_region fun K8 hK8 => ?_
      have hlt := txt_sz t
      have hle := txtE_sz e hre
      obtain ⟨u, hu, hut, huw⟩ := back_type 110 hrt (by omega)
      obtain ⟨x, hx, hxe, hxw⟩ := back_expr 110 hre (txtE e) (by omega) (txtE_toks hre)
      simp [hct, hce, hrt, hre]
      repeat refine sg ?_
      refine RVn_call (c_ref04x_Text g false t (by omega)) ?_
      simp [hct, hce, hrt, hre]
      repeat refine sg ?_
      refine RVn_call ((by have h := c_read_Type g (txt t) (by omega) hres; rw [hu] at h; exact h)) ?_
      simp [hct, hce, hrt, hre]
      repeat refine sg ?_
      refine hK8 _ ?_
      clear hK8 K8
      refine AT_seq_region fun K9 hK9 => ?_
      simp [hct, hce, hrt, hre]
      repeat refine sg ?_
      refine RVn_call (c_ref05x_Text g false e hre (by omega)) ?_
      simp [hct, hce, hrt, hre]
      repeat refine sg ?_
      refine RVn_call ((by have h := c_read_Expr g (txtE e) (by omega) hres; rw [hx] at h; exact h)) ?_
      simp [hct, hce, hrt, hre]
      repeat refine sg ?_
      refine hK9 _ ?_
      clear hK9 K9
      refine AT_seq_region fun K10 hK10 => ?_
      simp [hct, hce, hrt, hre]
      repeat refine sg ?_
      refine RVn_call ((by have h := c_ref04x_Same g false u t (by omega); rw [hut] at h; exact h : Valid Tryd.prog (G0 g false) 16 [.agg (encTy u), .agg (encTy t)] (.bool true))) ?_
      simp [hct, hce, hrt, hre]
      repeat refine sg ?_
      refine RVn_call ((by have h := c_ref05x_Same g false x e (by omega); rw [hxe] at h; exact h : Valid Tryd.prog (G0 g false) 17 [.agg (encE x), .agg (encE e)] (.bool true))) ?_
      simp [hct, hce, hrt, hre]
      repeat refine sg ?_
      refine hK10 _ ?_
      clear hK10 K10
      refine AT_ret ?_
      simp [Tryd.f3]
  ·
   refine AT_seq_region fun K11 hK11 => ?_
   simp [hct, hce]
   repeat refine sg ?_
   try (
    refine RVn_call (c_law07x_awake g hres hty) ?_
    simp [hct, hce]
    repeat refine sg ?_)
   try (
    refine RVn_call (c_ref04x_Few g false t hft) ?_
    simp [hct, hce]
    repeat refine sg ?_)
   try (
    refine RVn_call (c_ref05x_Few g false e hfe) ?_
    simp [hct, hce]
    repeat refine sg ?_)
   try (
    refine RVn_call (c_ref04x_Right g false t (by omega)) ?_
    simp [hct, hce]
    repeat refine sg ?_)
   try (
    refine RVn_call (c_ref05x_Right g false e (by omega)) ?_
    simp [hct, hce]
    repeat refine sg ?_)
   refine hK11 _ ?_
   clear hK11 K11
   refine AT_cond (b := true) (g := none) (by simp [hct, hce]) (fun hb => ?_) (fun hb => ?_)
   ·
    clear hb
    refine AT_seq_region fun K12 hK12 => ?_
    simp [hct, hce]
    repeat refine sg ?_
    refine RVn_call (c_law07x_awake g hres hty) ?_
    simp [hct, hce]
    repeat refine sg ?_
    refine hK12 _ ?_
    clear hK12 K12
    refine AT_ret ?_
    simp [Tryd.f3]
   ·
    cases hb
 ·
  refine AT_seq_region fun K13 hK13 => ?_
  simp [hct]
  repeat refine sg ?_
  try (
   refine RVn_call (c_law07x_awake g hres hty) ?_
   simp [hct]
   repeat refine sg ?_)
  try (
   refine RVn_call (c_ref04x_Few g false t hft) ?_
   simp [hct]
   repeat refine sg ?_)
  try (
   refine RVn_call (c_ref05x_Few g false e hfe) ?_
   simp [hct]
   repeat refine sg ?_)
  try (
   refine RVn_call (c_ref04x_Right g false t (by omega)) ?_
   simp [hct]
   repeat refine sg ?_)
  try (
   refine RVn_call (c_ref05x_Right g false e (by omega)) ?_
   simp [hct]
   repeat refine sg ?_)
  refine hK13 _ ?_
  clear hK13 K13
  refine AT_cond (b := true) (g := none) (by simp [hct]) (fun hb => ?_) (fun hb => ?_)
  ·
   clear hb
   refine AT_seq_region fun K14 hK14 => ?_
   simp [hct]
   repeat refine sg ?_
   refine RVn_call (c_law07x_awake g hres hty) ?_
   simp [hct]
   repeat refine sg ?_
   refine hK14 _ ?_
   clear hK14 K14
   refine AT_ret ?_
   simp [Tryd.f3]
  ·
   cases hb

theorem c_law07x_ReadSpaces (e : Exp) (cm : Bool) (hfe : fitE e) (hres : g 0 = some reservedA) (hty : g 1 = some errTy) : Valid Tryd.prog (G0 g false) 4 [.agg (encE e), .bool cm] (.bool true) := by

 refine valid_of [] Tryd.func4 rfl (by kernel_rfl) ?_
 refine AT_seq_region fun K1 hK1 => ?_
 simp [row_map, Tryd.f4]
 repeat refine sg ?_
 refine hK1 _ ?_
 clear hK1 K1
 refine AT_seq_k fun K2 hK2 => ?_
 by_cases hce : cntE e 0 ≤ 250
 ·
  have hwe := fewE_wt hce
  have hse := few_esum hce
  cases hre : rightE e
  ·
   refine AT_seq_region fun K3 hK3 => ?_
   simp [row_map, hce, hre]
   repeat refine sg ?_
   try (
    refine RVn_call (c_law07x_awake g hres hty) ?_
    simp [row_map, hce, hre]
    repeat refine sg ?_)
   try (
    refine RVn_call (c_ref05x_Few g false e hfe) ?_
    simp [row_map, hce, hre]
    repeat refine sg ?_)
   try (
    refine RVn_call (c_ref05x_Right g false e (by omega)) ?_
    simp [row_map, hce, hre]
    repeat refine sg ?_)
   refine hK3 _ ?_
   clear hK3 K3
   refine AT_cond (b := true) (g := none) (by simp [hce, hre]) (fun hb => ?_) (fun hb => ?_)
   ·
    clear hb
    refine AT_seq_region fun K4 hK4 => ?_
    simp [row_map, hce, hre]
    repeat refine sg ?_
    refine RVn_call (c_law07x_awake g hres hty) ?_
    simp [row_map, hce, hre]
    repeat refine sg ?_
    refine hK4 _ ?_
    clear hK4 K4
    refine AT_ret ?_
    simp [row_map, Tryd.f4]
   ·
    cases hb
  ·
   refine AT_seq_region fun K5 hK5 => ?_
   simp [row_map, hce, hre]
   repeat refine sg ?_
   try (
    refine RVn_call (c_law07x_awake g hres hty) ?_
    simp [row_map, hce, hre]
    repeat refine sg ?_)
   try (
    refine RVn_call (c_ref05x_Few g false e hfe) ?_
    simp [row_map, hce, hre]
    repeat refine sg ?_)
   try (
    refine RVn_call (c_ref05x_Right g false e (by omega)) ?_
    simp [row_map, hce, hre]
    repeat refine sg ?_)
   refine hK5 _ ?_
   clear hK5 K5
   refine AT_cond (b := false) (g := none) (by simp [hce, hre]) (fun hb => ?_) (fun hb => ?_)
   ·
    cases hb
   ·
    clear hb
    refine AT_skip ?_
    try simp only [nrm, reduceIte, Nat.reduceEqDiff]
    refine hK2 _ ?_
    refine AT_seq_region fun K6 hK6 => ?_
    have hle := txtE_sz e hre
    have hsp := toksE_sz e hre
    obtain ⟨L, m, hL, hLk⟩ := lexT_of (by omega) (txtE_toks hre)
    obtain ⟨hL1, hL2, hL3, hL4, hL5⟩ := lexT_some (by omega) hL
    have hsp2 : sp7 (L.map ktOf) ≤ 60000 := by rw [hLk, sp7_app]; simp [sp7]; omega
    have hkey : tkK (spT cm (L.map ktOf)) = some (toksE e ++ [(3, [])]) := by rw [← hLk]; exact spT_lex cm hL2
    have hkl := spT_len cm (L.map ktOf)
    obtain ⟨x, hx, hxe, hxw⟩ := back_expr 110 hre (spT cm (L.map ktOf)) (by omega) hkey
    simp [row_map, lexR, hce, hre]
    repeat refine sg ?_
    refine RVn_call (c_ref05x_Text g false e hre (by omega)) ?_
    simp [row_map, lexR, hce, hre]
    repeat refine sg ?_
    refine RVn_call ((by have h := c_ref03x_Tokens g false (txtE e) (by omega); rw [hL] at h; exact h)) ?_
    simp [row_map, lexR, hce, hre]
    repeat refine sg ?_
    refine hK6 _ ?_
    clear hK6 K6
    refine AT_seq_region fun K7 hK7 => ?_
    simp [row_map, hce, hre]
    repeat refine sg ?_
    refine hK7 _ ?_
    clear hK7 K7
    refine AT_seq_k fun K8 hK8 => ?_
    refine AT_seq_region fun K9 hK9 => ?_
    simp [row_map, hce, hre]
    repeat refine sg ?_
    refine hK9 _ ?_
    clear hK9 K9
    refine AT_block ?_
    refine AT_loop_q [1,2,5,6,7] [2] (fun j s => ∃ k, k ≤ L.length ∧ j = L.length - k ∧ s = { n := 56, tm := [(1, .v (.bool cm) none), (2, .lp 2 0), (5, .v (.slice (L.map encK)) none), (6, .v (.str (spT cm ((L.take k).map ktOf))) none), (7, .v (.int .i64 k) none)], bx := [(2, encE e)], tb := [], sh := [], hint := [] }) (L.length) (by first | rfl | simp) ?_ ?_
    ·
     exact ⟨0, by simp, by simp, by simp [spT]⟩
    ·
     rintro j s ⟨k, hk, rfl, rfl⟩ K10 hK10
     refine AT_seq_k fun K11 hK11 => ?_
     refine AT_seq_region fun K12 hK12 => ?_
     simp [row_map, hce, hre]
     repeat refine sg ?_
     refine hK12 _ ?_
     clear hK12 K12
     refine AT_cond (g := none) rfl (fun hb30 => ?_) (fun hb30 => ?_)
     ·
      try simp [row_map, hce, hre] at hb30
      refine AT_skip ?_
      try simp only [nrm, reduceIte, Nat.reduceEqDiff]
      refine hK11 _ ?_
      refine AT_seq_k fun K13 hK13 => ?_
      refine AT_block ?_
      refine AT_seq_region fun K14 hK14 => ?_
      have hq1 := spT_len cm ((L.map ktOf).take k)
      have hq2 := sp7_take (L.map ktOf) k
      have hq3 := szK_kt_get (a := L) (k := k) (by omega)
      simp [row_map, encK, hce, hre, hb30]
      repeat refine sg ?_
      refine hK14 _ ?_
      clear hK14 K14
      refine AT_seq_region fun K15 hK15 => ?_
      simp [row_map, hce, hre, hb30]
      repeat refine sg ?_
      refine hK15 _ ?_
      clear hK15 K15
      refine AT_cond (g := none) rfl (fun hb41 => ?_) (fun hb41 => ?_)
      ·
       try simp [row_map, hce, hre, hb30] at hb41
       refine AT_region_q fun K16 hK16 => ?_
       simp [row_map, hce, hre, hb30]
       repeat refine sg ?_
       refine hK16 _ ?_
       clear hK16 K16
       try simp only [nrm, reduceIte, Nat.reduceEqDiff]
       refine hK13 _ ?_
       refine AT_region_q fun K17 hK17 => ?_
       simp [row_map, hce, hre, hb30]
       repeat refine sg ?_
       refine hK17 _ ?_
       clear hK17 K17
       try simp only [nrm, reduceIte, Nat.reduceEqDiff]
       refine hK10 _ (by first | rfl | simp) (L.length - (k+1)) (by omega) ?_
       refine ⟨k+1, by omega, by omega, ?_⟩
       have hst := spT_take cm (l := L.map ktOf) (k := k) (by simpa using hb30)
       rw [← List.map_take, ← List.map_take] at hst
       rw [hst]; simp [spc, ktOf, hb41]
      ·
       try simp [row_map, hce, hre, hb30] at hb41
       refine AT_skip ?_
       try simp only [nrm, reduceIte, Nat.reduceEqDiff]
       refine hK13 _ ?_
       refine AT_region_q fun K18 hK18 => ?_
       simp [row_map, hce, hre, hb30]
       repeat refine sg ?_
       refine hK18 _ ?_
       clear hK18 K18
       try simp only [nrm, reduceIte, Nat.reduceEqDiff]
       refine hK10 _ (by first | rfl | simp) (L.length - (k+1)) (by omega) ?_
       refine ⟨k+1, by omega, by omega, ?_⟩
       have hst := spT_take cm (l := L.map ktOf) (k := k) (by simpa using hb30)
       rw [← List.map_take, ← List.map_take] at hst
       rw [hst]; simp [spc, ktOf, hb41]
     ·
      try simp [row_map, hce, hre] at hb30
      refine AT_exit ?_
      try simp only [nrm, reduceIte, Nat.reduceEqDiff]
      refine hK8 _ ?_
      refine AT_seq_region fun K19 hK19 => ?_
      rw [List.take_of_length_le (by simpa using hb30)]
      simp [row_map, hce, hre, hb30]
      repeat refine sg ?_
      refine RVn_call ((by have h := c_read_Expr g (spT cm (L.map ktOf)) (by omega) hres; rw [hx] at h; exact h)) ?_
      simp [row_map, hce, hre, hb30]
      repeat refine sg ?_
      refine hK19 _ ?_
      clear hK19 K19
      refine AT_seq_region fun K20 hK20 => ?_
      simp [row_map, hce, hre, hb30]
      repeat refine sg ?_
      try (
       refine RVn_call ((by have h := c_ref05x_Same g false x e (by omega); rw [hxe] at h; exact h : Valid Tryd.prog (G0 g false) 17 [.agg (encE x), .agg (encE e)] (.bool true))) ?_
       simp [row_map, hce, hre, hb30]
       repeat refine sg ?_)
      refine hK20 _ ?_
      clear hK20 K20
      refine AT_ret ?_
      simp [row_map, Tryd.f4]
 ·
  refine AT_seq_region fun K21 hK21 => ?_
  simp [row_map, hce]
  repeat refine sg ?_
  try (
   refine RVn_call (c_law07x_awake g hres hty) ?_
   simp [row_map, hce]
   repeat refine sg ?_)
  try (
   refine RVn_call (c_ref05x_Few g false e hfe) ?_
   simp [row_map, hce]
   repeat refine sg ?_)
  try (
   refine RVn_call (c_ref05x_Right g false e (by omega)) ?_
   simp [row_map, hce]
   repeat refine sg ?_)
  refine hK21 _ ?_
  clear hK21 K21
  refine AT_cond (b := true) (g := none) (by simp [hce]) (fun hb => ?_) (fun hb => ?_)
  ·
   clear hb
   refine AT_seq_region fun K22 hK22 => ?_
   simp [row_map, hce]
   repeat refine sg ?_
   refine RVn_call (c_law07x_awake g hres hty) ?_
   simp [row_map, hce]
   repeat refine sg ?_
   refine hK22 _ ?_
   clear hK22 K22
   refine AT_ret ?_
   simp [row_map, Tryd.f4]
  ·
   cases hb

end Go.Proofs.YtpjkdaechknogaaDoor
end

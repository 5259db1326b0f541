/- Contracts: the reference reads expressions. -/
import Derived.Test.YtpjkdaechknogaaGreatDoorPt
import Derived.Test.YtpjkdaechknogaaGreatDoorPvPa
import Derived.Test.YtpjkdaechknogaaGreatDoorPvX
import Derived.Test.YtpjkdaechknogaaGreatDoorXNaC
import Derived.Test.YtpjkdaechknogaaGreatDoorXExA
import Derived.Test.YtpjkdaechknogaaGreatDoorPvMd
set_option linter.all false
set_option maxHeartbeats 1000000
set_option maxRecDepth 10000
namespace Go.Proofs.YtpjkdaechknogaaGreatDoor
open Go Go.Pv
variable (g : Nat → Option (List AV)) (rnd : Bool)

theorem c_ref07x_args (L : List Tk) (hE : EndsT L) (hn : L.length ≤ 1000000) (q n : Nat) (hX : ∀ p, L.length - p.k < n → p.k < L.length → Valid Tryz.prog (G0 g false) 21 [.agg (encP L p)] (.tup [.agg (encP L (exprR L q p).2), .agg (encE (exprR L q p).1)])) (e : Str) (p : Pl) (hk : p.k < L.length) (hc : p.bad = false → L.length - p.k < n) : Valid Tryz.prog (G0 g false) 52 [.agg (encP L p), .str e] (.tup [.agg (encP L (argsR L (exprR L q) e p).2), .slice ((argsR L (exprR L q) e p).1.map encE)]) := by

 refine valid_of [(6, 28)] Tryz.func52 rfl (by kernel_rfl) ?_
 refine AT_seq_region fun K1 hK1 => ?_
 simp [encP, Tryz.f52]
 repeat refine sg ?_
 refine hK1 _ ?_
 clear hK1 K1
 refine AT_seq_k fun K2 hK2 => ?_
 cases his : p.is L e
 ·
  refine AT_seq_region fun K3 hK3 => ?_
  simp [encP, his]
  repeat refine sg ?_
  refine RVn_call (c_ref07x_Is g L hn p hk e) ?_
  simp [encP, his]
  repeat refine sg ?_
  refine hK3 _ ?_
  clear hK3 K3
  refine AT_cond (b := false) (g := none) (by simp [his]) (fun hb => ?_) (fun hb => ?_)
  ·
   cases hb
  ·
   clear hb
   refine AT_skip ?_
   try simp only [nrm, reduceIte, Nat.reduceEqDiff]
   refine hK2 _ ?_
   refine AT_seq_region fun K4 hK4 => ?_
   simp [encP, his]
   repeat refine sg ?_
   refine hK4 _ ?_
   clear hK4 K4
   refine AT_seq_k fun K5 hK5 => ?_
   refine AT_block ?_
   refine AT_loop_q [1,2,4,6] [2,4] (fun j s => ∃ k acc m bd, argsR L (exprR L q) e p = (acc ++ (alB L (exprR L q) e m ⟨k, bd⟩).1, (alB L (exprR L q) e m ⟨k, bd⟩).2) ∧ (k < L.length ∧ L.length - k ≤ m ∧ (bd = false → L.length - k < n)) ∧ (acc.length ≤ k ∧ (bd = true → acc = [])) ∧ j = m ∧ s = { n := 39, tm := [(1, .v (.str e) none), (2, .lp 2 0), (4, .lp 4 0), (6, .v (.slice (acc.map encE)) (some (6, 28)))], bx := [(2, [.slice (L.map encK), .int .i64 k, .bool bd]), (4, [.slice [], .int .i64 0, .bool false])], tb := [], sh := [], hint := [(6, 28)] }) (L.length - p.k) (by first | rfl | simp) ?_ ?_
   ·
    refine ⟨p.k, [], L.length - p.k, p.bad, ?_, ⟨hk, Nat.le_refl _, hc⟩, ⟨by simp, fun _ => rfl⟩, rfl, by simp⟩
    rw [argsR, his]; simp [alB]
   ·
    rintro j s ⟨k, acc, m, bd, hq, ⟨hk1, hk2, hk3⟩, ⟨hka, hkb⟩, hjm, rfl⟩ K6 hK6
    subst hjm
    obtain ⟨m, rfl⟩ : ∃ i, j = i + 1 := ⟨j - 1, by omega⟩
    refine AT_seq_k fun K7 hK7 => ?_
    cases bd
    ·
     have hk3 := hk3 rfl
     have hg := exprR_lt hE q ⟨k, false⟩ hk1
     have hgk : k ≤ (exprR L q ⟨k, false⟩).2.k := hg.1
     refine AT_seq_region fun K8 hK8 => ?_
     simp [encP, his]
     repeat refine sg ?_
     refine hK8 _ ?_
     clear hK8 K8
     refine AT_cond (b := true) (g := none) (by simp [his]) (fun hb => ?_) (fun hb => ?_)
     ·
      clear hb
      refine AT_skip ?_
      try simp only [nrm, reduceIte, Nat.reduceEqDiff]
      refine hK7 _ ?_
      refine AT_block ?_
      refine AT_seq_region fun K9 hK9 => ?_
      simp [encP, his]
      repeat refine sg ?_
      refine hK9 _ ?_
      clear hK9 K9
      refine AT_seq_region fun K10 hK10 => ?_
      simp [encP, his]
      repeat refine sg ?_
      refine RVn_call ((by have h := hX ⟨k, false⟩ hk3 hk1; simpa [encP] using h)) ?_
      simp [encP, his]
      repeat refine sg ?_
      refine hK10 _ ?_
      clear hK10 K10
      refine AT_seq_region fun K11 hK11 => ?_
      simp [encP, his]
      repeat refine sg ?_
      refine hK11 _ ?_
      clear hK11 K11
      refine AT_seq_k fun K12 hK12 => ?_
      cases hi : (exprR L q ⟨k, false⟩).2.is L [44]
      ·
       refine AT_seq_region fun K13 hK13 => ?_
       simp [encP, his, hi]
       repeat refine sg ?_
       refine RVn_call ((by have h := c_ref07x_Is g L hn (exprR L q ⟨k, false⟩).2 hg.2 [44]; first | (simp only [encP, hib] at h; exact h) | exact h)) ?_
       simp [encP, his, hi]
       repeat refine sg ?_
       refine hK13 _ ?_
       clear hK13 K13
       refine AT_cond (b := true) (g := none) (by simp [his, hi]) (fun hb => ?_) (fun hb => ?_)
       ·
        clear hb
        refine AT_seq_region fun K14 hK14 => ?_
        simp [encP, his, hi]
        repeat refine sg ?_
        refine RVn_call (c_ref07x_Must g L hn (exprR L q ⟨k, false⟩).2 hg.2 e) ?_
        simp [encP, his, hi]
        repeat refine sg ?_
        refine hK14 _ ?_
        clear hK14 K14
        refine AT_ret ?_
        simp [encP, Tryz.f52]
        all_goals first | (rw [hq, alB, if_neg (by simp), aloopR, hi]; simp [encP]; done) | (rw [hq, alB, if_pos rfl]; simp [encP]; done) | (simp [argsR, his, encP]; done)
       ·
        cases hb
      ·
       have hib : (exprR L q ⟨k, false⟩).2.bad = false := (Pl.is_bad hi).1
       refine AT_seq_region fun K15 hK15 => ?_
       simp [encP, his, hi, hib]
       repeat refine sg ?_
       refine RVn_call ((by have h := c_ref07x_Is g L hn (exprR L q ⟨k, false⟩).2 hg.2 [44]; first | (simp only [encP, hib] at h; exact h) | exact h)) ?_
       simp [encP, his, hi, hib]
       repeat refine sg ?_
       refine hK15 _ ?_
       clear hK15 K15
       refine AT_cond (b := false) (g := none) (by simp [his, hi, hib]) (fun hb => ?_) (fun hb => ?_)
       ·
        cases hb
       ·
        clear hb
        refine AT_skip ?_
        try simp only [nrm, reduceIte, Nat.reduceEqDiff]
        refine hK12 _ ?_
        refine AT_region_q fun K16 hK16 => ?_
        simp [encP, his, hi, hib]
        repeat refine sg ?_
        refine hK16 _ ?_
        clear hK16 K16
        try simp only [nrm, reduceIte, Nat.reduceEqDiff]
        refine hK6 _ (by first | rfl | simp) (m) (by omega) ?_
        refine ⟨(exprR L q ⟨k, false⟩).2.k + 1, acc ++ [(exprR L q ⟨k, false⟩).1], m, false, ?_, ⟨Pl.adv_lt hE hg.2 hi, by omega, fun _ => by omega⟩, ⟨by simp; omega, fun h => by cases h⟩, rfl, by simp⟩
        rw [hq, alB, if_neg (by simp), aloopR, if_pos hi, show (exprR L q ⟨k, false⟩).2.adv = ⟨(exprR L q ⟨k, false⟩).2.k + 1, false⟩ by simp [Pl.adv, hib]]; simp [alB]
     ·
      cases hb
    ·
     obtain rfl := hkb rfl
     refine AT_seq_region fun K17 hK17 => ?_
     simp [encP, his]
     repeat refine sg ?_
     refine hK17 _ ?_
     clear hK17 K17
     refine AT_cond (b := false) (g := none) (by simp [his]) (fun hb => ?_) (fun hb => ?_)
     ·
      cases hb
     ·
      clear hb
      refine AT_exit ?_
      try simp only [nrm, reduceIte, Nat.reduceEqDiff]
      refine hK5 _ ?_
      refine AT_seq_region fun K18 hK18 => ?_
      simp [encP, his]
      repeat refine sg ?_
      refine hK18 _ ?_
      clear hK18 K18
      refine AT_ret ?_
      simp [encP, Tryz.f52]
      all_goals first | (rw [hq, alB, if_neg (by simp), aloopR, hi]; simp [encP]; done) | (rw [hq, alB, if_pos rfl]; simp [encP]; done) | (simp [argsR, his, encP]; done)
 ·
  refine AT_seq_region fun K19 hK19 => ?_
  simp [encP, his]
  repeat refine sg ?_
  refine RVn_call (c_ref07x_Is g L hn p hk e) ?_
  simp [encP, his]
  repeat refine sg ?_
  refine hK19 _ ?_
  clear hK19 K19
  refine AT_cond (b := true) (g := none) (by simp [his]) (fun hb => ?_) (fun hb => ?_)
  ·
   clear hb
   refine AT_seq_region fun K20 hK20 => ?_
   simp [encP, his]
   repeat refine sg ?_
   refine RVn_call (c_ref07x_Must g L hn p hk e) ?_
   simp [encP, his]
   repeat refine sg ?_
   refine hK20 _ ?_
   clear hK20 K20
   refine AT_ret ?_
   simp [encP, Tryz.f52]
   all_goals first | (rw [hq, alB, if_neg (by simp), aloopR, hi]; simp [encP]; done) | (rw [hq, alB, if_pos rfl]; simp [encP]; done) | (simp [argsR, his, encP]; done)
  ·
   cases hb

theorem c_ref07x_Expr (L : List Tk) (hE : EndsT L) (hn : L.length ≤ 1000000) (hL : ∀ t ∈ L, t.2.1.length ≤ 1000000) : ∀ (n : Nat) (p : Pl), L.length - p.k < n → p.k < L.length → Valid Tryz.prog (G0 g false) 21 [.agg (encP L p)] (.tup [.agg (encP L (exprR L n p).2), .agg (encE (exprR L n p).1)]) := by
 intro n
 induction n with
 | zero => intro p hc; omega
 | succ q ih =>
 intro p hc hk
 have hT := fun p h hk => c_ref07x_Type g L hE hn hL q p h hk
 have hnl := Pl.name_lt hE hk
 have hnk : ∀ (p : Pl) (s : Str), (p.name L).is L s = true → (p.name L).k = p.k + 1 := fun p s h => by
   have h2 := Pl.is_bad h
   unfold Pl.name at h2 ⊢
   split
   · rfl
   · rename_i h3; rw [if_neg h3] at h2; cases h2.1
 have hgl := targsR_lt hE (typeR_lt hE q) _ hnl.2
 have hml := Pl.must_lt hE [123] hgl.2
 have hbl := baseR_lt hE (typeR_lt hE q) (exprR_lt hE q) p hk
 refine valid_of [(300052, 0)] Tryz.func21 rfl (by kernel_rfl) ?_
 refine AT_seq_region fun K1 hK1 => ?_
 simp [encP, Tryz.f21]
 repeat refine sg ?_
 refine hK1 _ ?_
 clear hK1 K1
 refine AT_seq_region fun K2 hK2 => ?_
 simp [encP]
 repeat refine sg ?_
 refine hK2 _ ?_
 clear hK2 K2
 refine AT_seq_region fun K3 hK3 => ?_
 simp [encP]
 repeat refine sg ?_
 refine RVn_call (c_ref07x_Name g L hn p hk hL) ?_
 simp [encP]
 repeat refine sg ?_
 refine hK3 _ ?_
 clear hK3 K3
 refine AT_seq_k fun K4 hK4 => ?_
 cases h91 : (p.name L).is L [91]
 ·
  cases h123 : (p.name L).is L [123]
  ·
   refine AT_seq_region fun K5 hK5 => ?_
   simp [encP, h91, h123]
   repeat refine sg ?_
   try (
    refine RVn_call ((by have h := c_ref07x_Is g L hn (p.name L) hnl.2 [91]; simp only [encP] at h; exact h)) ?_
    simp [encP, h91, h123]
    repeat refine sg ?_)
   try (
    refine RVn_call ((by have h := c_ref07x_Is g L hn (p.name L) hnl.2 [123]; simp only [encP] at h; exact h)) ?_
    simp [encP, h91, h123]
    repeat refine sg ?_)
   refine hK5 _ ?_
   clear hK5 K5
   refine AT_cond (b := false) (g := none) (by simp [h91, h123]) (fun hb => ?_) (fun hb => ?_)
   ·
    cases hb
   ·
    clear hb
    refine AT_skip ?_
    try simp only [nrm, reduceIte, Nat.reduceEqDiff]
    refine hK4 _ ?_
    refine AT_seq_k fun K6 hK6 => ?_
    refine AT_block ?_
    refine AT_loop_q [1,2,3,4] [1,2,3,4] (fun j s => ∃ e u m, dotsR L (restR L (typeR L q) (exprR L q)) (L.length - (baseR L (typeR L q) (exprR L q) p).2.k) (baseR L (typeR L q) (exprR L q) p).1 (baseR L (typeR L q) (exprR L q) p).2 = dotsR L (restR L (typeR L q) (exprR L q)) m e u ∧ (u.k < L.length ∧ L.length - u.k ≤ m ∧ L.length - u.k ≤ q) ∧ j = m ∧ s = { n := 115, tm := [(1, .lp 1 0), (2, .lp 2 0), (3, .lp 3 0), (4, .lp 4 0)], bx := [(1, encP L u), (2, [.slice [], .int .i64 0, .bool false]), (3, [.int .i64 0, .str [], .str [], .slice [], .int .i64 0, .slice [], .slice [], .int .i64 0]), (4, encE e)], tb := [], sh := [], hint := [(300052, 0)] }) (L.length - (baseR L (typeR L q) (exprR L q) p).2.k) (by first | rfl | simp) ?_ ?_
    ·
     refine ⟨(baseR L (typeR L q) (exprR L q) p).1, (baseR L (typeR L q) (exprR L q) p).2, L.length - (baseR L (typeR L q) (exprR L q) p).2.k, rfl, ⟨hbl.2, Nat.le_refl _, by omega⟩, rfl, ?_⟩
     first
     | (simp [baseR, h91, h123, encE_mk, ty0, encP]; done)
     | (simp [baseR, h91, encE_mk, encP]; done)
     | (simp [baseR, h123, encE_mk, encP]; done)
    ·
     rintro j s ⟨e, u, m, hq, ⟨hk1, hk2, hk3⟩, hjm, rfl⟩ K7 hK7
     subst hjm
     obtain ⟨m, rfl⟩ : ∃ i, j = i + 1 := ⟨j - 1, by omega⟩
     refine AT_seq_k fun K8 hK8 => ?_
     cases hdot : u.is L [46]
     ·
      refine AT_seq_region fun K9 hK9 => ?_
      simp [encP, h91, h123, hdot]
      repeat refine sg ?_
      refine RVn_call ((by have h := c_ref07x_Is g L hn u hk1 [46]; simp only [encP] at h; exact h)) ?_
      simp [encP, h91, h123, hdot]
      repeat refine sg ?_
      refine hK9 _ ?_
      clear hK9 K9
      refine AT_cond (b := false) (g := none) (by simp [h91, h123, hdot]) (fun hb => ?_) (fun hb => ?_)
      ·
       cases hb
      ·
       clear hb
       refine AT_exit ?_
       try simp only [nrm, reduceIte, Nat.reduceEqDiff]
       refine hK6 _ ?_
       refine AT_seq_draw_m false [(1, 1), (2, 2), (3, 3), (4, 4)] Pt.mixed (by kernel_rfl) ⟨by simp [Im, okP, AS.get, look, TV.strip], fun h => by cases h⟩ fun K10 hK10 => ?_
       simp [encP, h91, h123, hdot]
       repeat refine sg ?_
       refine hK10 _ ?_
       clear hK10 K10
       refine AT_ret ?_
       simp [encP, Tryz.f21]
       rw [exprR, hq, dotsR, if_neg (by simp [hdot])]; simp [encP]
     ·
      have hub := (Pl.is_bad hdot).1
      have hkv : u.k + 1 < L.length := Pl.adv_lt hE hk1 hdot
      have hvr : row (L.map encK) (u.k + 1) = encK (hdK L (⟨u.k + 1, false⟩ : Pl)) := row_hdK (p := (⟨u.k + 1, false⟩ : Pl)) hkv
      have hvn := Pl.name_lt hE (p := (⟨u.k + 1, false⟩ : Pl)) hkv
      have hvg := targsR_lt hE (typeR_lt hE q) _ hvn.2
      have hvm := Pl.must_lt hE [40] hvg.2
      have hvk : u.k + 1 ≤ (Pl.name L (⟨u.k + 1, false⟩ : Pl)).k := hvn.1
      have hvc := argsR_count (L := L) (exprR L q) [41] ((targsR L (typeR L q) (Pl.name L (⟨u.k + 1, false⟩ : Pl))).2.must L [40])
      refine AT_seq_region fun K11 hK11 => ?_
      simp [encP, h91, h123, hdot]
      repeat refine sg ?_
      refine RVn_call ((by have h := c_ref07x_Is g L hn u hk1 [46]; simp only [encP] at h; exact h)) ?_
      simp [encP, h91, h123, hdot]
      repeat refine sg ?_
      refine hK11 _ ?_
      clear hK11 K11
      refine AT_cond (b := true) (g := none) (by simp [h91, h123, hdot]) (fun hb => ?_) (fun hb => ?_)
      ·
       clear hb
       refine AT_skip ?_
       try simp only [nrm, reduceIte, Nat.reduceEqDiff]
       refine hK8 _ ?_
       refine AT_block ?_
       refine AT_seq_region fun K12 hK12 => ?_
       simp [encP, hub, h91, h123, hdot]
       repeat refine sg ?_
       refine hK12 _ ?_
       clear hK12 K12
       refine AT_seq_region fun K13 hK13 => ?_
       simp [encP, encE_mk, h91, h123, hdot]
       repeat refine sg ?_
       refine hK13 _ ?_
       clear hK13 K13
       refine AT_seq_k fun K14 hK14 => ?_
       cases h40 : (⟨u.k + 1, false⟩ : Pl).is L [40]
       ·
        refine AT_seq_region fun K15 hK15 => ?_
        simp [encP, h91, h123, hdot, h40]
        repeat refine sg ?_
        refine RVn_call ((by have h := c_ref07x_Is g L hn (⟨u.k + 1, false⟩ : Pl) hkv [40]; simpa [encP] using h)) ?_
        simp [encP, h91, h123, hdot, h40]
        repeat refine sg ?_
        refine hK15 _ ?_
        clear hK15 K15
        refine AT_cond (b := false) (g := none) (by simp [h91, h123, hdot, h40]) (fun hb => ?_) (fun hb => ?_)
        ·
         cases hb
        ·
         clear hb
         refine AT_skip ?_
         try simp only [nrm, reduceIte, Nat.reduceEqDiff]
         refine hK14 _ ?_
         refine AT_seq_region fun K16 hK16 => ?_
         simp [encP, h91, h123, hdot, h40]
         repeat refine sg ?_
         refine hK16 _ ?_
         clear hK16 K16
         refine AT_seq_region fun K17 hK17 => ?_
         simp [encP, h91, h123, hdot, h40]
         repeat refine sg ?_
         refine RVn_call ((by have h := c_ref07x_Name g L hn (⟨u.k + 1, false⟩ : Pl) hkv hL; simpa [encP] using h)) ?_
         simp [encP, h91, h123, hdot, h40]
         repeat refine sg ?_
         refine hK17 _ ?_
         clear hK17 K17
         refine AT_seq_k fun K18 hK18 => ?_
         cases g91 : (Pl.name L (⟨u.k + 1, false⟩ : Pl)).is L [91]
         ·
          cases g40 : (Pl.name L (⟨u.k + 1, false⟩ : Pl)).is L [40]
          ·
           refine AT_seq_region fun K19 hK19 => ?_
           simp [encP, h91, h123, hdot, h40, g91, g40]
           repeat refine sg ?_
           try (
            refine RVn_call ((by have h := c_ref07x_Is g L hn (Pl.name L (⟨u.k + 1, false⟩ : Pl)) hvn.2 [91]; simp only [encP] at h; exact h)) ?_
            simp [encP, h91, h123, hdot, h40, g91, g40]
            repeat refine sg ?_)
           try (
            refine RVn_call ((by have h := c_ref07x_Is g L hn (Pl.name L (⟨u.k + 1, false⟩ : Pl)) hvn.2 [40]; simp only [encP] at h; exact h)) ?_
            simp [encP, h91, h123, hdot, h40, g91, g40]
            repeat refine sg ?_)
           refine hK19 _ ?_
           clear hK19 K19
           refine AT_cond (b := false) (g := none) (by simp [h91, h123, hdot, h40, g91, g40]) (fun hb => ?_) (fun hb => ?_)
           ·
            cases hb
           ·
            clear hb
            refine AT_skip ?_
            try simp only [nrm, reduceIte, Nat.reduceEqDiff]
            refine hK18 _ ?_
            first | (refine AT_str (Gives.weakX 5 6 rfl rfl) ?_; simp only [List.set_cons_succ, List.set_cons_zero]) | skip
            refine AT_region_q fun K20 hK20 => ?_
            simp [encP, h91, h123, hdot, h40, g91, g40]
            repeat refine sg ?_
            refine hK20 _ ?_
            clear hK20 K20
            try simp only [nrm, reduceIte, Nat.reduceEqDiff]
            refine hK7 _ (by first | rfl | simp) (m) (by omega) ?_
            have hr := restR_lt hE (typeR_lt hE q) (exprR_lt hE q) e (⟨u.k + 1, false⟩ : Pl) hkv
            have hr1 : u.k + 1 ≤ ((restR L (typeR L q) (exprR L q)) e (⟨u.k + 1, false⟩ : Pl)).2.k := hr.1
            refine ⟨((restR L (typeR L q) (exprR L q)) e (⟨u.k + 1, false⟩ : Pl)).1, ((restR L (typeR L q) (exprR L q)) e (⟨u.k + 1, false⟩ : Pl)).2, m, ?_, ⟨hr.2, by omega, by omega⟩, rfl, ?_⟩
            · rw [hq, dotsR, if_pos hdot, show u.adv = (⟨u.k + 1, false⟩ : Pl) by simp [Pl.adv, hub]]
            · first
              | (simp [restR, h40, Pl.adv, encE_mk, encTy_def, encP]; done)
              | (simp [restR, h40, g91, g40, Pl.adv, encE_mk, encTy_def, encP, ty0]; done)
              | (simp [restR, h40, g91, Pl.adv, encE_mk, encTy_def, encP, ty0]; done)
              | (simp [restR, h40, g40, Pl.adv, encE_mk, encTy_def, encP, ty0]; done)
          ·
           refine AT_seq_region fun K21 hK21 => ?_
           simp [encP, h91, h123, hdot, h40, g91, g40]
           repeat refine sg ?_
           try (
            refine RVn_call ((by have h := c_ref07x_Is g L hn (Pl.name L (⟨u.k + 1, false⟩ : Pl)) hvn.2 [91]; simp only [encP] at h; exact h)) ?_
            simp [encP, h91, h123, hdot, h40, g91, g40]
            repeat refine sg ?_)
           try (
            refine RVn_call ((by have h := c_ref07x_Is g L hn (Pl.name L (⟨u.k + 1, false⟩ : Pl)) hvn.2 [40]; simp only [encP] at h; exact h)) ?_
            simp [encP, h91, h123, hdot, h40, g91, g40]
            repeat refine sg ?_)
           refine hK21 _ ?_
           clear hK21 K21
           refine AT_cond (b := true) (g := none) (by simp [h91, h123, hdot, h40, g91, g40]) (fun hb => ?_) (fun hb => ?_)
           ·
            clear hb
            refine AT_seq_region fun K22 hK22 => ?_
            simp [encP, h91, h123, hdot, h40, g91, g40]
            repeat refine sg ?_
            refine hK22 _ ?_
            clear hK22 K22
            refine AT_seq_region fun K23 hK23 => ?_
            simp [encP, h91, h123, hdot, h40, g91, g40]
            repeat refine sg ?_
            refine RVn_call ((by have h := c_ref07x_targs g L hE hn q q hT (Pl.name L (⟨u.k + 1, false⟩ : Pl)) hvn.2 (fun h => by have : (Pl.name L (⟨u.k + 1, false⟩ : Pl)).adv.k = (Pl.name L (⟨u.k + 1, false⟩ : Pl)).k + 1 := rfl; omega); simp only [encP] at h; exact h)) ?_
            simp [encP, h91, h123, hdot, h40, g91, g40]
            repeat refine sg ?_
            refine hK23 _ ?_
            clear hK23 K23
            refine AT_seq_region fun K24 hK24 => ?_
            simp [encP, h91, h123, hdot, h40, g91, g40]
            repeat refine sg ?_
            refine RVn_call ((by have h := c_ref07x_Must g L hn (targsR L (typeR L q) (Pl.name L (⟨u.k + 1, false⟩ : Pl))).2 hvg.2 [40]; simp only [encP] at h; exact h)) ?_
            simp [encP, h91, h123, hdot, h40, g91, g40]
            repeat refine sg ?_
            refine hK24 _ ?_
            clear hK24 K24
            refine AT_seq_region fun K25 hK25 => ?_
            simp [encP, h91, h123, hdot, h40, g91, g40]
            repeat refine sg ?_
            refine hK25 _ ?_
            clear hK25 K25
            refine AT_seq_region fun K26 hK26 => ?_
            simp [encP, h91, h123, hdot, h40, g91, g40]
            repeat refine sg ?_
            refine RVn_call ((by have h := c_ref07x_args g L hE hn q q ih [41] ((targsR L (typeR L q) (Pl.name L (⟨u.k + 1, false⟩ : Pl))).2.must L [40]) hvm.2 (fun _ => by omega); simp only [encP] at h; exact h)) ?_
            simp [encP, h91, h123, hdot, h40, g91, g40]
            repeat refine sg ?_
            refine hK26 _ ?_
            clear hK26 K26
            refine AT_region_q fun K27 hK27 => ?_
            simp [encP, h91, h123, hdot, h40, g91, g40]
            repeat refine sg ?_
            refine hK27 _ ?_
            clear hK27 K27
            try simp only [nrm, reduceIte, Nat.reduceEqDiff]
            refine hK18 _ ?_
            first | (refine AT_str (Gives.weakX 5 6 rfl rfl) ?_; simp only [List.set_cons_succ, List.set_cons_zero]) | skip
            refine AT_region_q fun K28 hK28 => ?_
            simp [encP, h91, h123, hdot, h40, g91, g40]
            repeat refine sg ?_
            refine hK28 _ ?_
            clear hK28 K28
            try simp only [nrm, reduceIte, Nat.reduceEqDiff]
            refine hK7 _ (by first | rfl | simp) (m) (by omega) ?_
            have hr := restR_lt hE (typeR_lt hE q) (exprR_lt hE q) e (⟨u.k + 1, false⟩ : Pl) hkv
            have hr1 : u.k + 1 ≤ ((restR L (typeR L q) (exprR L q)) e (⟨u.k + 1, false⟩ : Pl)).2.k := hr.1
            refine ⟨((restR L (typeR L q) (exprR L q)) e (⟨u.k + 1, false⟩ : Pl)).1, ((restR L (typeR L q) (exprR L q)) e (⟨u.k + 1, false⟩ : Pl)).2, m, ?_, ⟨hr.2, by omega, by omega⟩, rfl, ?_⟩
            · rw [hq, dotsR, if_pos hdot, show u.adv = (⟨u.k + 1, false⟩ : Pl) by simp [Pl.adv, hub]]
            · first
              | (simp [restR, h40, Pl.adv, encE_mk, encTy_def, encP]; done)
              | (simp [restR, h40, g91, g40, Pl.adv, encE_mk, encTy_def, encP, ty0]; done)
              | (simp [restR, h40, g91, Pl.adv, encE_mk, encTy_def, encP, ty0]; done)
              | (simp [restR, h40, g40, Pl.adv, encE_mk, encTy_def, encP, ty0]; done)
           ·
            cases hb
         ·
          refine AT_seq_region fun K29 hK29 => ?_
          simp [encP, h91, h123, hdot, h40, g91]
          repeat refine sg ?_
          try (
           refine RVn_call ((by have h := c_ref07x_Is g L hn (Pl.name L (⟨u.k + 1, false⟩ : Pl)) hvn.2 [91]; simp only [encP] at h; exact h)) ?_
           simp [encP, h91, h123, hdot, h40, g91]
           repeat refine sg ?_)
          try (
           refine RVn_call ((by have h := c_ref07x_Is g L hn (Pl.name L (⟨u.k + 1, false⟩ : Pl)) hvn.2 [40]; simp only [encP] at h; exact h)) ?_
           simp [encP, h91, h123, hdot, h40, g91]
           repeat refine sg ?_)
          refine hK29 _ ?_
          clear hK29 K29
          refine AT_cond (b := true) (g := none) (by simp [h91, h123, hdot, h40, g91]) (fun hb => ?_) (fun hb => ?_)
          ·
           clear hb
           refine AT_seq_region fun K30 hK30 => ?_
           simp [encP, h91, h123, hdot, h40, g91]
           repeat refine sg ?_
           refine hK30 _ ?_
           clear hK30 K30
           refine AT_seq_region fun K31 hK31 => ?_
           simp [encP, h91, h123, hdot, h40, g91]
           repeat refine sg ?_
           refine RVn_call ((by have h := c_ref07x_targs g L hE hn q q hT (Pl.name L (⟨u.k + 1, false⟩ : Pl)) hvn.2 (fun h => by have : (Pl.name L (⟨u.k + 1, false⟩ : Pl)).adv.k = (Pl.name L (⟨u.k + 1, false⟩ : Pl)).k + 1 := rfl; omega); simp only [encP] at h; exact h)) ?_
           simp [encP, h91, h123, hdot, h40, g91]
           repeat refine sg ?_
           refine hK31 _ ?_
           clear hK31 K31
           refine AT_seq_region fun K32 hK32 => ?_
           simp [encP, h91, h123, hdot, h40, g91]
           repeat refine sg ?_
           refine RVn_call ((by have h := c_ref07x_Must g L hn (targsR L (typeR L q) (Pl.name L (⟨u.k + 1, false⟩ : Pl))).2 hvg.2 [40]; simp only [encP] at h; exact h)) ?_
           simp [encP, h91, h123, hdot, h40, g91]
           repeat refine sg ?_
           refine hK32 _ ?_
           clear hK32 K32
           refine AT_seq_region fun K33 hK33 => ?_
           simp [encP, h91, h123, hdot, h40, g91]
           repeat refine sg ?_
           refine hK33 _ ?_
           clear hK33 K33
           refine AT_seq_region fun K34 hK34 => ?_
           simp [encP, h91, h123, hdot, h40, g91]
           repeat refine sg ?_
           refine RVn_call ((by have h := c_ref07x_args g L hE hn q q ih [41] ((targsR L (typeR L q) (Pl.name L (⟨u.k + 1, false⟩ : Pl))).2.must L [40]) hvm.2 (fun _ => by omega); simp only [encP] at h; exact h)) ?_
           simp [encP, h91, h123, hdot, h40, g91]
           repeat refine sg ?_
           refine hK34 _ ?_
           clear hK34 K34
           refine AT_region_q fun K35 hK35 => ?_
           simp [encP, h91, h123, hdot, h40, g91]
           repeat refine sg ?_
           refine hK35 _ ?_
           clear hK35 K35
           try simp only [nrm, reduceIte, Nat.reduceEqDiff]
           refine hK18 _ ?_
           first | (refine AT_str (Gives.weakX 5 6 rfl rfl) ?_; simp only [List.set_cons_succ, List.set_cons_zero]) | skip
           refine AT_region_q fun K36 hK36 => ?_
           simp [encP, h91, h123, hdot, h40, g91]
           repeat refine sg ?_
           refine hK36 _ ?_
           clear hK36 K36
           try simp only [nrm, reduceIte, Nat.reduceEqDiff]
           refine hK7 _ (by first | rfl | simp) (m) (by omega) ?_
           have hr := restR_lt hE (typeR_lt hE q) (exprR_lt hE q) e (⟨u.k + 1, false⟩ : Pl) hkv
           have hr1 : u.k + 1 ≤ ((restR L (typeR L q) (exprR L q)) e (⟨u.k + 1, false⟩ : Pl)).2.k := hr.1
           refine ⟨((restR L (typeR L q) (exprR L q)) e (⟨u.k + 1, false⟩ : Pl)).1, ((restR L (typeR L q) (exprR L q)) e (⟨u.k + 1, false⟩ : Pl)).2, m, ?_, ⟨hr.2, by omega, by omega⟩, rfl, ?_⟩
           · rw [hq, dotsR, if_pos hdot, show u.adv = (⟨u.k + 1, false⟩ : Pl) by simp [Pl.adv, hub]]
           · first
             | (simp [restR, h40, Pl.adv, encE_mk, encTy_def, encP]; done)
             | (simp [restR, h40, g91, g40, Pl.adv, encE_mk, encTy_def, encP, ty0]; done)
             | (simp [restR, h40, g91, Pl.adv, encE_mk, encTy_def, encP, ty0]; done)
             | (simp [restR, h40, g40, Pl.adv, encE_mk, encTy_def, encP, ty0]; done)
          ·
           cases hb
       ·
        have hk2v : u.k + 1 + 1 < L.length := Pl.adv_lt hE (p := (⟨u.k + 1, false⟩ : Pl)) hkv h40
        have htv := typeR_lt hE q (⟨u.k + 1 + 1, false⟩ : Pl) hk2v
        refine AT_seq_region fun K37 hK37 => ?_
        simp [encP, h91, h123, hdot, h40]
        repeat refine sg ?_
        refine RVn_call ((by have h := c_ref07x_Is g L hn (⟨u.k + 1, false⟩ : Pl) hkv [40]; simpa [encP] using h)) ?_
        simp [encP, h91, h123, hdot, h40]
        repeat refine sg ?_
        refine hK37 _ ?_
        clear hK37 K37
        refine AT_cond (b := true) (g := none) (by simp [h91, h123, hdot, h40]) (fun hb => ?_) (fun hb => ?_)
        ·
         clear hb
         refine AT_str (Gives.weakX 5 6 rfl rfl) ?_
         simp only [List.set_cons_succ, List.set_cons_zero]
         refine AT_seq_region fun K38 hK38 => ?_
         simp [encP, h91, h123, hdot, h40]
         repeat refine sg ?_
         refine hK38 _ ?_
         clear hK38 K38
         refine AT_seq_region fun K39 hK39 => ?_
         simp [encP, hvr, encK, h91, h123, hdot, h40]
         repeat refine sg ?_
         refine hK39 _ ?_
         clear hK39 K39
         refine AT_seq_region fun K40 hK40 => ?_
         simp [encP, h91, h123, hdot, h40]
         repeat refine sg ?_
         refine hK40 _ ?_
         clear hK40 K40
         refine AT_seq_region fun K41 hK41 => ?_
         simp [encP, encTy_def, h91, h123, hdot, h40]
         repeat refine sg ?_
         refine RVn_call ((by have h := c_ref07x_Type g L hE hn hL q (⟨u.k + 1 + 1, false⟩ : Pl) (by show L.length - (u.k + 1 + 1) < q; omega) hk2v; simpa [encP] using h)) ?_
         simp [encP, encTy_def, h91, h123, hdot, h40]
         repeat refine sg ?_
         refine hK41 _ ?_
         clear hK41 K41
         refine AT_seq_region fun K42 hK42 => ?_
         simp [encP, h91, h123, hdot, h40]
         repeat refine sg ?_
         refine RVn_call ((by have h := c_ref07x_Must g L hn (typeR L q (⟨u.k + 1 + 1, false⟩ : Pl)).2 htv.2 [41]; simp only [encP] at h; exact h)) ?_
         simp [encP, h91, h123, hdot, h40]
         repeat refine sg ?_
         refine hK42 _ ?_
         clear hK42 K42
         refine AT_seq_region fun K43 hK43 => ?_
         simp [encP, encE_mk, encTy_def, h91, h123, hdot, h40]
         repeat refine sg ?_
         refine hK43 _ ?_
         clear hK43 K43
         refine AT_exit ?_
         try simp only [nrm, reduceIte, Nat.reduceEqDiff]
         refine hK7 _ (by first | rfl | simp) (m) (by omega) ?_
         have hr := restR_lt hE (typeR_lt hE q) (exprR_lt hE q) e (⟨u.k + 1, false⟩ : Pl) hkv
         have hr1 : u.k + 1 ≤ ((restR L (typeR L q) (exprR L q)) e (⟨u.k + 1, false⟩ : Pl)).2.k := hr.1
         refine ⟨((restR L (typeR L q) (exprR L q)) e (⟨u.k + 1, false⟩ : Pl)).1, ((restR L (typeR L q) (exprR L q)) e (⟨u.k + 1, false⟩ : Pl)).2, m, ?_, ⟨hr.2, by omega, by omega⟩, rfl, ?_⟩
         · rw [hq, dotsR, if_pos hdot, show u.adv = (⟨u.k + 1, false⟩ : Pl) by simp [Pl.adv, hub]]
         · first
           | (simp [restR, h40, Pl.adv, encE_mk, encTy_def, encP]; done)
           | (simp [restR, h40, g91, g40, Pl.adv, encE_mk, encTy_def, encP, ty0]; done)
           | (simp [restR, h40, g91, Pl.adv, encE_mk, encTy_def, encP, ty0]; done)
           | (simp [restR, h40, g40, Pl.adv, encE_mk, encTy_def, encP, ty0]; done)
        ·
         cases hb
      ·
       cases hb
  ·
   have hnq := hnk p _ h123
   have hbd := (Pl.is_bad h123).1
   refine AT_seq_region fun K44 hK44 => ?_
   simp [encP, h91, h123]
   repeat refine sg ?_
   try (
    refine RVn_call ((by have h := c_ref07x_Is g L hn (p.name L) hnl.2 [91]; simp only [encP] at h; exact h)) ?_
    simp [encP, h91, h123]
    repeat refine sg ?_)
   try (
    refine RVn_call ((by have h := c_ref07x_Is g L hn (p.name L) hnl.2 [123]; simp only [encP] at h; exact h)) ?_
    simp [encP, h91, h123]
    repeat refine sg ?_)
   refine hK44 _ ?_
   clear hK44 K44
   refine AT_cond (b := true) (g := none) (by simp [h91, h123]) (fun hb => ?_) (fun hb => ?_)
   ·
    clear hb
    refine AT_seq_region fun K45 hK45 => ?_
    simp [encP, h91, h123]
    repeat refine sg ?_
    refine hK45 _ ?_
    clear hK45 K45
    refine AT_seq_region fun K46 hK46 => ?_
    simp [encP, h91, h123]
    repeat refine sg ?_
    refine RVn_call ((by have h := c_ref07x_targs g L hE hn q q hT (p.name L) hnl.2 (fun h => by have : (p.name L).adv.k = (p.name L).k + 1 := rfl; omega); simp only [encP] at h; exact h)) ?_
    simp [encP, h91, h123]
    repeat refine sg ?_
    refine hK46 _ ?_
    clear hK46 K46
    refine AT_seq_region fun K47 hK47 => ?_
    simp [encP, h91, h123]
    repeat refine sg ?_
    refine RVn_call ((by have h := c_ref07x_Must g L hn (targsR L (typeR L q) (p.name L)).2 hgl.2 [123]; simp only [encP] at h; exact h)) ?_
    simp [encP, h91, h123]
    repeat refine sg ?_
    refine hK47 _ ?_
    clear hK47 K47
    refine AT_region_q fun K48 hK48 => ?_
    simp [encP, h91, h123]
    repeat refine sg ?_
    refine RVn_call ((by have h := c_ref07x_args g L hE hn q q ih [125] ((targsR L (typeR L q) (p.name L)).2.must L [123]) hml.2 (fun _ => by omega); simp only [encP] at h; exact h)) ?_
    simp [encP, h91, h123]
    repeat refine sg ?_
    refine hK48 _ ?_
    clear hK48 K48
    try simp only [nrm, reduceIte, Nat.reduceEqDiff]
    refine hK4 _ ?_
    refine AT_seq_k fun K49 hK49 => ?_
    refine AT_block ?_
    refine AT_loop_q [1,2,3,4] [1,2,3,4] (fun j s => ∃ e u m, dotsR L (restR L (typeR L q) (exprR L q)) (L.length - (baseR L (typeR L q) (exprR L q) p).2.k) (baseR L (typeR L q) (exprR L q) p).1 (baseR L (typeR L q) (exprR L q) p).2 = dotsR L (restR L (typeR L q) (exprR L q)) m e u ∧ (u.k < L.length ∧ L.length - u.k ≤ m ∧ L.length - u.k ≤ q) ∧ j = m ∧ s = { n := 115, tm := [(1, .lp 1 0), (2, .lp 2 0), (3, .lp 3 0), (4, .lp 4 0)], bx := [(1, encP L u), (2, [.slice [], .int .i64 0, .bool false]), (3, [.int .i64 0, .str [], .str [], .slice [], .int .i64 0, .slice [], .slice [], .int .i64 0]), (4, encE e)], tb := [], sh := [], hint := [(300052, 0)] }) (L.length - (baseR L (typeR L q) (exprR L q) p).2.k) (by first | rfl | simp) ?_ ?_
    ·
     refine ⟨(baseR L (typeR L q) (exprR L q) p).1, (baseR L (typeR L q) (exprR L q) p).2, L.length - (baseR L (typeR L q) (exprR L q) p).2.k, rfl, ⟨hbl.2, Nat.le_refl _, by omega⟩, rfl, ?_⟩
     first
     | (simp [baseR, h91, h123, encE_mk, ty0, encP]; done)
     | (simp [baseR, h91, encE_mk, encP]; done)
     | (simp [baseR, h123, encE_mk, encP]; done)
    ·
     rintro j s ⟨e, u, m, hq, ⟨hk1, hk2, hk3⟩, hjm, rfl⟩ K50 hK50
     subst hjm
     obtain ⟨m, rfl⟩ : ∃ i, j = i + 1 := ⟨j - 1, by omega⟩
     refine AT_seq_k fun K51 hK51 => ?_
     cases hdot : u.is L [46]
     ·
      refine AT_seq_region fun K52 hK52 => ?_
      simp [encP, h91, h123, hdot]
      repeat refine sg ?_
      refine RVn_call ((by have h := c_ref07x_Is g L hn u hk1 [46]; simp only [encP] at h; exact h)) ?_
      simp [encP, h91, h123, hdot]
      repeat refine sg ?_
      refine hK52 _ ?_
      clear hK52 K52
      refine AT_cond (b := false) (g := none) (by simp [h91, h123, hdot]) (fun hb => ?_) (fun hb => ?_)
      ·
       cases hb
      ·
       clear hb
       refine AT_exit ?_
       try simp only [nrm, reduceIte, Nat.reduceEqDiff]
       refine hK49 _ ?_
       refine AT_seq_draw_m false [(1, 1), (2, 2), (3, 3), (4, 4)] Pt.mixed (by kernel_rfl) ⟨by simp [Im, okP, AS.get, look, TV.strip], fun h => by cases h⟩ fun K53 hK53 => ?_
       simp [encP, h91, h123, hdot]
       repeat refine sg ?_
       refine hK53 _ ?_
       clear hK53 K53
       refine AT_ret ?_
       simp [encP, Tryz.f21]
       rw [exprR, hq, dotsR, if_neg (by simp [hdot])]; simp [encP]
     ·
      have hub := (Pl.is_bad hdot).1
      have hkv : u.k + 1 < L.length := Pl.adv_lt hE hk1 hdot
      have hvr : row (L.map encK) (u.k + 1) = encK (hdK L (⟨u.k + 1, false⟩ : Pl)) := row_hdK (p := (⟨u.k + 1, false⟩ : Pl)) hkv
      have hvn := Pl.name_lt hE (p := (⟨u.k + 1, false⟩ : Pl)) hkv
      have hvg := targsR_lt hE (typeR_lt hE q) _ hvn.2
      have hvm := Pl.must_lt hE [40] hvg.2
      have hvk : u.k + 1 ≤ (Pl.name L (⟨u.k + 1, false⟩ : Pl)).k := hvn.1
      have hvc := argsR_count (L := L) (exprR L q) [41] ((targsR L (typeR L q) (Pl.name L (⟨u.k + 1, false⟩ : Pl))).2.must L [40])
      refine AT_seq_region fun K54 hK54 => ?_
      simp [encP, h91, h123, hdot]
      repeat refine sg ?_
      refine RVn_call ((by have h := c_ref07x_Is g L hn u hk1 [46]; simp only [encP] at h; exact h)) ?_
      simp [encP, h91, h123, hdot]
      repeat refine sg ?_
      refine hK54 _ ?_
      clear hK54 K54
      refine AT_cond (b := true) (g := none) (by simp [h91, h123, hdot]) (fun hb => ?_) (fun hb => ?_)
      ·
       clear hb
       refine AT_skip ?_
       try simp only [nrm, reduceIte, Nat.reduceEqDiff]
       refine hK51 _ ?_
       refine AT_block ?_
       refine AT_seq_region fun K55 hK55 => ?_
       simp [encP, hub, h91, h123, hdot]
       repeat refine sg ?_
       refine hK55 _ ?_
       clear hK55 K55
       refine AT_seq_region fun K56 hK56 => ?_
       simp [encP, encE_mk, h91, h123, hdot]
       repeat refine sg ?_
       refine hK56 _ ?_
       clear hK56 K56
       refine AT_seq_k fun K57 hK57 => ?_
       cases h40 : (⟨u.k + 1, false⟩ : Pl).is L [40]
       ·
        refine AT_seq_region fun K58 hK58 => ?_
        simp [encP, h91, h123, hdot, h40]
        repeat refine sg ?_
        refine RVn_call ((by have h := c_ref07x_Is g L hn (⟨u.k + 1, false⟩ : Pl) hkv [40]; simpa [encP] using h)) ?_
        simp [encP, h91, h123, hdot, h40]
        repeat refine sg ?_
        refine hK58 _ ?_
        clear hK58 K58
        refine AT_cond (b := false) (g := none) (by simp [h91, h123, hdot, h40]) (fun hb => ?_) (fun hb => ?_)
        ·
         cases hb
        ·
         clear hb
         refine AT_skip ?_
         try simp only [nrm, reduceIte, Nat.reduceEqDiff]
         refine hK57 _ ?_
         refine AT_seq_region fun K59 hK59 => ?_
         simp [encP, h91, h123, hdot, h40]
         repeat refine sg ?_
         refine hK59 _ ?_
         clear hK59 K59
         refine AT_seq_region fun K60 hK60 => ?_
         simp [encP, h91, h123, hdot, h40]
         repeat refine sg ?_
         refine RVn_call ((by have h := c_ref07x_Name g L hn (⟨u.k + 1, false⟩ : Pl) hkv hL; simpa [encP] using h)) ?_
         simp [encP, h91, h123, hdot, h40]
         repeat refine sg ?_
         refine hK60 _ ?_
         clear hK60 K60
         refine AT_seq_k fun K61 hK61 => ?_
         cases g91 : (Pl.name L (⟨u.k + 1, false⟩ : Pl)).is L [91]
         ·
          cases g40 : (Pl.name L (⟨u.k + 1, false⟩ : Pl)).is L [40]
          ·
           refine AT_seq_region fun K62 hK62 => ?_
           simp [encP, h91, h123, hdot, h40, g91, g40]
           repeat refine sg ?_
           try (
            refine RVn_call ((by have h := c_ref07x_Is g L hn (Pl.name L (⟨u.k + 1, false⟩ : Pl)) hvn.2 [91]; simp only [encP] at h; exact h)) ?_
            simp [encP, h91, h123, hdot, h40, g91, g40]
            repeat refine sg ?_)
           try (
            refine RVn_call ((by have h := c_ref07x_Is g L hn (Pl.name L (⟨u.k + 1, false⟩ : Pl)) hvn.2 [40]; simp only [encP] at h; exact h)) ?_
            simp [encP, h91, h123, hdot, h40, g91, g40]
            repeat refine sg ?_)
           refine hK62 _ ?_
           clear hK62 K62
           refine AT_cond (b := false) (g := none) (by simp [h91, h123, hdot, h40, g91, g40]) (fun hb => ?_) (fun hb => ?_)
           ·
            cases hb
           ·
            clear hb
            refine AT_skip ?_
            try simp only [nrm, reduceIte, Nat.reduceEqDiff]
            refine hK61 _ ?_
            first | (refine AT_str (Gives.weakX 5 6 rfl rfl) ?_; simp only [List.set_cons_succ, List.set_cons_zero]) | skip
            refine AT_region_q fun K63 hK63 => ?_
            simp [encP, h91, h123, hdot, h40, g91, g40]
            repeat refine sg ?_
            refine hK63 _ ?_
            clear hK63 K63
            try simp only [nrm, reduceIte, Nat.reduceEqDiff]
            refine hK50 _ (by first | rfl | simp) (m) (by omega) ?_
            have hr := restR_lt hE (typeR_lt hE q) (exprR_lt hE q) e (⟨u.k + 1, false⟩ : Pl) hkv
            have hr1 : u.k + 1 ≤ ((restR L (typeR L q) (exprR L q)) e (⟨u.k + 1, false⟩ : Pl)).2.k := hr.1
            refine ⟨((restR L (typeR L q) (exprR L q)) e (⟨u.k + 1, false⟩ : Pl)).1, ((restR L (typeR L q) (exprR L q)) e (⟨u.k + 1, false⟩ : Pl)).2, m, ?_, ⟨hr.2, by omega, by omega⟩, rfl, ?_⟩
            · rw [hq, dotsR, if_pos hdot, show u.adv = (⟨u.k + 1, false⟩ : Pl) by simp [Pl.adv, hub]]
            · first
              | (simp [restR, h40, Pl.adv, encE_mk, encTy_def, encP]; done)
              | (simp [restR, h40, g91, g40, Pl.adv, encE_mk, encTy_def, encP, ty0]; done)
              | (simp [restR, h40, g91, Pl.adv, encE_mk, encTy_def, encP, ty0]; done)
              | (simp [restR, h40, g40, Pl.adv, encE_mk, encTy_def, encP, ty0]; done)
          ·
           refine AT_seq_region fun K64 hK64 => ?_
           simp [encP, h91, h123, hdot, h40, g91, g40]
           repeat refine sg ?_
           try (
            refine RVn_call ((by have h := c_ref07x_Is g L hn (Pl.name L (⟨u.k + 1, false⟩ : Pl)) hvn.2 [91]; simp only [encP] at h; exact h)) ?_
            simp [encP, h91, h123, hdot, h40, g91, g40]
            repeat refine sg ?_)
           try (
            refine RVn_call ((by have h := c_ref07x_Is g L hn (Pl.name L (⟨u.k + 1, false⟩ : Pl)) hvn.2 [40]; simp only [encP] at h; exact h)) ?_
            simp [encP, h91, h123, hdot, h40, g91, g40]
            repeat refine sg ?_)
           refine hK64 _ ?_
           clear hK64 K64
           refine AT_cond (b := true) (g := none) (by simp [h91, h123, hdot, h40, g91, g40]) (fun hb => ?_) (fun hb => ?_)
           ·
            clear hb
            refine AT_seq_region fun K65 hK65 => ?_
            simp [encP, h91, h123, hdot, h40, g91, g40]
            repeat refine sg ?_
            refine hK65 _ ?_
            clear hK65 K65
            refine AT_seq_region fun K66 hK66 => ?_
            simp [encP, h91, h123, hdot, h40, g91, g40]
            repeat refine sg ?_
            refine RVn_call ((by have h := c_ref07x_targs g L hE hn q q hT (Pl.name L (⟨u.k + 1, false⟩ : Pl)) hvn.2 (fun h => by have : (Pl.name L (⟨u.k + 1, false⟩ : Pl)).adv.k = (Pl.name L (⟨u.k + 1, false⟩ : Pl)).k + 1 := rfl; omega); simp only [encP] at h; exact h)) ?_
            simp [encP, h91, h123, hdot, h40, g91, g40]
            repeat refine sg ?_
            refine hK66 _ ?_
            clear hK66 K66
            refine AT_seq_region fun K67 hK67 => ?_
            simp [encP, h91, h123, hdot, h40, g91, g40]
            repeat refine sg ?_
            refine RVn_call ((by have h := c_ref07x_Must g L hn (targsR L (typeR L q) (Pl.name L (⟨u.k + 1, false⟩ : Pl))).2 hvg.2 [40]; simp only [encP] at h; exact h)) ?_
            simp [encP, h91, h123, hdot, h40, g91, g40]
            repeat refine sg ?_
            refine hK67 _ ?_
            clear hK67 K67
            refine AT_seq_region fun K68 hK68 => ?_
            simp [encP, h91, h123, hdot, h40, g91, g40]
            repeat refine sg ?_
            refine hK68 _ ?_
            clear hK68 K68
            refine AT_seq_region fun K69 hK69 => ?_
            simp [encP, h91, h123, hdot, h40, g91, g40]
            repeat refine sg ?_
            refine RVn_call ((by have h := c_ref07x_args g L hE hn q q ih [41] ((targsR L (typeR L q) (Pl.name L (⟨u.k + 1, false⟩ : Pl))).2.must L [40]) hvm.2 (fun _ => by omega); simp only [encP] at h; exact h)) ?_
            simp [encP, h91, h123, hdot, h40, g91, g40]
            repeat refine sg ?_
            refine hK69 _ ?_
            clear hK69 K69
            refine AT_region_q fun K70 hK70 => ?_
            simp [encP, h91, h123, hdot, h40, g91, g40]
            repeat refine sg ?_
            refine hK70 _ ?_
            clear hK70 K70
            try simp only [nrm, reduceIte, Nat.reduceEqDiff]
            refine hK61 _ ?_
            first | (refine AT_str (Gives.weakX 5 6 rfl rfl) ?_; simp only [List.set_cons_succ, List.set_cons_zero]) | skip
            refine AT_region_q fun K71 hK71 => ?_
            simp [encP, h91, h123, hdot, h40, g91, g40]
            repeat refine sg ?_
            refine hK71 _ ?_
            clear hK71 K71
            try simp only [nrm, reduceIte, Nat.reduceEqDiff]
            refine hK50 _ (by first | rfl | simp) (m) (by omega) ?_
            have hr := restR_lt hE (typeR_lt hE q) (exprR_lt hE q) e (⟨u.k + 1, false⟩ : Pl) hkv
            have hr1 : u.k + 1 ≤ ((restR L (typeR L q) (exprR L q)) e (⟨u.k + 1, false⟩ : Pl)).2.k := hr.1
            refine ⟨((restR L (typeR L q) (exprR L q)) e (⟨u.k + 1, false⟩ : Pl)).1, ((restR L (typeR L q) (exprR L q)) e (⟨u.k + 1, false⟩ : Pl)).2, m, ?_, ⟨hr.2, by omega, by omega⟩, rfl, ?_⟩
            · rw [hq, dotsR, if_pos hdot, show u.adv = (⟨u.k + 1, false⟩ : Pl) by simp [Pl.adv, hub]]
            · first
              | (simp [restR, h40, Pl.adv, encE_mk, encTy_def, encP]; done)
              | (simp [restR, h40, g91, g40, Pl.adv, encE_mk, encTy_def, encP, ty0]; done)
              | (simp [restR, h40, g91, Pl.adv, encE_mk, encTy_def, encP, ty0]; done)
              | (simp [restR, h40, g40, Pl.adv, encE_mk, encTy_def, encP, ty0]; done)
           ·
            cases hb
         ·
          refine AT_seq_region fun K72 hK72 => ?_
          simp [encP, h91, h123, hdot, h40, g91]
          repeat refine sg ?_
          try (
           refine RVn_call ((by have h := c_ref07x_Is g L hn (Pl.name L (⟨u.k + 1, false⟩ : Pl)) hvn.2 [91]; simp only [encP] at h; exact h)) ?_
           simp [encP, h91, h123, hdot, h40, g91]
           repeat refine sg ?_)
          try (
           refine RVn_call ((by have h := c_ref07x_Is g L hn (Pl.name L (⟨u.k + 1, false⟩ : Pl)) hvn.2 [40]; simp only [encP] at h; exact h)) ?_
           simp [encP, h91, h123, hdot, h40, g91]
           repeat refine sg ?_)
          refine hK72 _ ?_
          clear hK72 K72
          refine AT_cond (b := true) (g := none) (by simp [h91, h123, hdot, h40, g91]) (fun hb => ?_) (fun hb => ?_)
          ·
           clear hb
           refine AT_seq_region fun K73 hK73 => ?_
           simp [encP, h91, h123, hdot, h40, g91]
           repeat refine sg ?_
           refine hK73 _ ?_
           clear hK73 K73
           refine AT_seq_region fun K74 hK74 => ?_
           simp [encP, h91, h123, hdot, h40, g91]
           repeat refine sg ?_
           refine RVn_call ((by have h := c_ref07x_targs g L hE hn q q hT (Pl.name L (⟨u.k + 1, false⟩ : Pl)) hvn.2 (fun h => by have : (Pl.name L (⟨u.k + 1, false⟩ : Pl)).adv.k = (Pl.name L (⟨u.k + 1, false⟩ : Pl)).k + 1 := rfl; omega); simp only [encP] at h; exact h)) ?_
           simp [encP, h91, h123, hdot, h40, g91]
           repeat refine sg ?_
           refine hK74 _ ?_
           clear hK74 K74
           refine AT_seq_region fun K75 hK75 => ?_
           simp [encP, h91, h123, hdot, h40, g91]
           repeat refine sg ?_
           refine RVn_call ((by have h := c_ref07x_Must g L hn (targsR L (typeR L q) (Pl.name L (⟨u.k + 1, false⟩ : Pl))).2 hvg.2 [40]; simp only [encP] at h; exact h)) ?_
           simp [encP, h91, h123, hdot, h40, g91]
           repeat refine sg ?_
           refine hK75 _ ?_
           clear hK75 K75
           refine AT_seq_region fun K76 hK76 => ?_
           simp [encP, h91, h123, hdot, h40, g91]
           repeat refine sg ?_
           refine hK76 _ ?_
           clear hK76 K76
           refine AT_seq_region fun K77 hK77 => ?_
           simp [encP, h91, h123, hdot, h40, g91]
           repeat refine sg ?_
           refine RVn_call ((by have h := c_ref07x_args g L hE hn q q ih [41] ((targsR L (typeR L q) (Pl.name L (⟨u.k + 1, false⟩ : Pl))).2.must L [40]) hvm.2 (fun _ => by omega); simp only [encP] at h; exact h)) ?_
           simp [encP, h91, h123, hdot, h40, g91]
           repeat refine sg ?_
           refine hK77 _ ?_
           clear hK77 K77
           refine AT_region_q fun K78 hK78 => ?_
           simp [encP, h91, h123, hdot, h40, g91]
           repeat refine sg ?_
           refine hK78 _ ?_
           clear hK78 K78
           try simp only [nrm, reduceIte, Nat.reduceEqDiff]
           refine hK61 _ ?_
           first | (refine AT_str (Gives.weakX 5 6 rfl rfl) ?_; simp only [List.set_cons_succ, List.set_cons_zero]) | skip
           refine AT_region_q fun K79 hK79 => ?_
           simp [encP, h91, h123, hdot, h40, g91]
           repeat refine sg ?_
           refine hK79 _ ?_
           clear hK79 K79
           try simp only [nrm, reduceIte, Nat.reduceEqDiff]
           refine hK50 _ (by first | rfl | simp) (m) (by omega) ?_
           have hr := restR_lt hE (typeR_lt hE q) (exprR_lt hE q) e (⟨u.k + 1, false⟩ : Pl) hkv
           have hr1 : u.k + 1 ≤ ((restR L (typeR L q) (exprR L q)) e (⟨u.k + 1, false⟩ : Pl)).2.k := hr.1
           refine ⟨((restR L (typeR L q) (exprR L q)) e (⟨u.k + 1, false⟩ : Pl)).1, ((restR L (typeR L q) (exprR L q)) e (⟨u.k + 1, false⟩ : Pl)).2, m, ?_, ⟨hr.2, by omega, by omega⟩, rfl, ?_⟩
           · rw [hq, dotsR, if_pos hdot, show u.adv = (⟨u.k + 1, false⟩ : Pl) by simp [Pl.adv, hub]]
           · first
             | (simp [restR, h40, Pl.adv, encE_mk, encTy_def, encP]; done)
             | (simp [restR, h40, g91, g40, Pl.adv, encE_mk, encTy_def, encP, ty0]; done)
             | (simp [restR, h40, g91, Pl.adv, encE_mk, encTy_def, encP, ty0]; done)
             | (simp [restR, h40, g40, Pl.adv, encE_mk, encTy_def, encP, ty0]; done)
          ·
           cases hb
       ·
        have hk2v : u.k + 1 + 1 < L.length := Pl.adv_lt hE (p := (⟨u.k + 1, false⟩ : Pl)) hkv h40
        have htv := typeR_lt hE q (⟨u.k + 1 + 1, false⟩ : Pl) hk2v
        refine AT_seq_region fun K80 hK80 => ?_
        simp [encP, h91, h123, hdot, h40]
        repeat refine sg ?_
        refine RVn_call ((by have h := c_ref07x_Is g L hn (⟨u.k + 1, false⟩ : Pl) hkv [40]; simpa [encP] using h)) ?_
        simp [encP, h91, h123, hdot, h40]
        repeat refine sg ?_
        refine hK80 _ ?_
        clear hK80 K80
        refine AT_cond (b := true) (g := none) (by simp [h91, h123, hdot, h40]) (fun hb => ?_) (fun hb => ?_)
        ·
         clear hb
         refine AT_str (Gives.weakX 5 6 rfl rfl) ?_
         simp only [List.set_cons_succ, List.set_cons_zero]
         refine AT_seq_region fun K81 hK81 => ?_
         simp [encP, h91, h123, hdot, h40]
         repeat refine sg ?_
         refine hK81 _ ?_
         clear hK81 K81
         refine AT_seq_region fun K82 hK82 => ?_
         simp [encP, hvr, encK, h91, h123, hdot, h40]
         repeat refine sg ?_
         refine hK82 _ ?_
         clear hK82 K82
         refine AT_seq_region fun K83 hK83 => ?_
         simp [encP, h91, h123, hdot, h40]
         repeat refine sg ?_
         refine hK83 _ ?_
         clear hK83 K83
         refine AT_seq_region fun K84 hK84 => ?_
         simp [encP, encTy_def, h91, h123, hdot, h40]
         repeat refine sg ?_
         refine RVn_call ((by have h := c_ref07x_Type g L hE hn hL q (⟨u.k + 1 + 1, false⟩ : Pl) (by show L.length - (u.k + 1 + 1) < q; omega) hk2v; simpa [encP] using h)) ?_
         simp [encP, encTy_def, h91, h123, hdot, h40]
         repeat refine sg ?_
         refine hK84 _ ?_
         clear hK84 K84
         refine AT_seq_region fun K85 hK85 => ?_
         simp [encP, h91, h123, hdot, h40]
         repeat refine sg ?_
         refine RVn_call ((by have h := c_ref07x_Must g L hn (typeR L q (⟨u.k + 1 + 1, false⟩ : Pl)).2 htv.2 [41]; simp only [encP] at h; exact h)) ?_
         simp [encP, h91, h123, hdot, h40]
         repeat refine sg ?_
         refine hK85 _ ?_
         clear hK85 K85
         refine AT_seq_region fun K86 hK86 => ?_
         simp [encP, encE_mk, encTy_def, h91, h123, hdot, h40]
         repeat refine sg ?_
         refine hK86 _ ?_
         clear hK86 K86
         refine AT_exit ?_
         try simp only [nrm, reduceIte, Nat.reduceEqDiff]
         refine hK50 _ (by first | rfl | simp) (m) (by omega) ?_
         have hr := restR_lt hE (typeR_lt hE q) (exprR_lt hE q) e (⟨u.k + 1, false⟩ : Pl) hkv
         have hr1 : u.k + 1 ≤ ((restR L (typeR L q) (exprR L q)) e (⟨u.k + 1, false⟩ : Pl)).2.k := hr.1
         refine ⟨((restR L (typeR L q) (exprR L q)) e (⟨u.k + 1, false⟩ : Pl)).1, ((restR L (typeR L q) (exprR L q)) e (⟨u.k + 1, false⟩ : Pl)).2, m, ?_, ⟨hr.2, by omega, by omega⟩, rfl, ?_⟩
         · rw [hq, dotsR, if_pos hdot, show u.adv = (⟨u.k + 1, false⟩ : Pl) by simp [Pl.adv, hub]]
         · first
           | (simp [restR, h40, Pl.adv, encE_mk, encTy_def, encP]; done)
           | (simp [restR, h40, g91, g40, Pl.adv, encE_mk, encTy_def, encP, ty0]; done)
           | (simp [restR, h40, g91, Pl.adv, encE_mk, encTy_def, encP, ty0]; done)
           | (simp [restR, h40, g40, Pl.adv, encE_mk, encTy_def, encP, ty0]; done)
        ·
         cases hb
      ·
       cases hb
   ·
    cases hb
 ·
  have hnq := hnk p _ h91
  have hbd := (Pl.is_bad h91).1
  refine AT_seq_region fun K87 hK87 => ?_
  simp [encP, h91]
  repeat refine sg ?_
  try (
   refine RVn_call ((by have h := c_ref07x_Is g L hn (p.name L) hnl.2 [91]; simp only [encP] at h; exact h)) ?_
   simp [encP, h91]
   repeat refine sg ?_)
  try (
   refine RVn_call ((by have h := c_ref07x_Is g L hn (p.name L) hnl.2 [123]; simp only [encP] at h; exact h)) ?_
   simp [encP, h91]
   repeat refine sg ?_)
  refine hK87 _ ?_
  clear hK87 K87
  refine AT_cond (b := true) (g := none) (by simp [h91]) (fun hb => ?_) (fun hb => ?_)
  ·
   clear hb
   refine AT_seq_region fun K88 hK88 => ?_
   simp [encP, h91]
   repeat refine sg ?_
   refine hK88 _ ?_
   clear hK88 K88
   refine AT_seq_region fun K89 hK89 => ?_
   simp [encP, h91]
   repeat refine sg ?_
   refine RVn_call ((by have h := c_ref07x_targs g L hE hn q q hT (p.name L) hnl.2 (fun h => by have : (p.name L).adv.k = (p.name L).k + 1 := rfl; omega); simp only [encP] at h; exact h)) ?_
   simp [encP, h91]
   repeat refine sg ?_
   refine hK89 _ ?_
   clear hK89 K89
   refine AT_seq_region fun K90 hK90 => ?_
   simp [encP, h91]
   repeat refine sg ?_
   refine RVn_call ((by have h := c_ref07x_Must g L hn (targsR L (typeR L q) (p.name L)).2 hgl.2 [123]; simp only [encP] at h; exact h)) ?_
   simp [encP, h91]
   repeat refine sg ?_
   refine hK90 _ ?_
   clear hK90 K90
   refine AT_region_q fun K91 hK91 => ?_
   simp [encP, h91]
   repeat refine sg ?_
   refine RVn_call ((by have h := c_ref07x_args g L hE hn q q ih [125] ((targsR L (typeR L q) (p.name L)).2.must L [123]) hml.2 (fun _ => by omega); simp only [encP] at h; exact h)) ?_
   simp [encP, h91]
   repeat refine sg ?_
   refine hK91 _ ?_
   clear hK91 K91
   try simp only [nrm, reduceIte, Nat.reduceEqDiff]
   refine hK4 _ ?_
   refine AT_seq_k fun K92 hK92 => ?_
   refine AT_block ?_
   refine AT_loop_q [1,2,3,4] [1,2,3,4] (fun j s => ∃ e u m, dotsR L (restR L (typeR L q) (exprR L q)) (L.length - (baseR L (typeR L q) (exprR L q) p).2.k) (baseR L (typeR L q) (exprR L q) p).1 (baseR L (typeR L q) (exprR L q) p).2 = dotsR L (restR L (typeR L q) (exprR L q)) m e u ∧ (u.k < L.length ∧ L.length - u.k ≤ m ∧ L.length - u.k ≤ q) ∧ j = m ∧ s = { n := 115, tm := [(1, .lp 1 0), (2, .lp 2 0), (3, .lp 3 0), (4, .lp 4 0)], bx := [(1, encP L u), (2, [.slice [], .int .i64 0, .bool false]), (3, [.int .i64 0, .str [], .str [], .slice [], .int .i64 0, .slice [], .slice [], .int .i64 0]), (4, encE e)], tb := [], sh := [], hint := [(300052, 0)] }) (L.length - (baseR L (typeR L q) (exprR L q) p).2.k) (by first | rfl | simp) ?_ ?_
   ·
    refine ⟨(baseR L (typeR L q) (exprR L q) p).1, (baseR L (typeR L q) (exprR L q) p).2, L.length - (baseR L (typeR L q) (exprR L q) p).2.k, rfl, ⟨hbl.2, Nat.le_refl _, by omega⟩, rfl, ?_⟩
    first
    | (simp [baseR, h91, h123, encE_mk, ty0, encP]; done)
    | (simp [baseR, h91, encE_mk, encP]; done)
    | (simp [baseR, h123, encE_mk, encP]; done)
   ·
    rintro j s ⟨e, u, m, hq, ⟨hk1, hk2, hk3⟩, hjm, rfl⟩ K93 hK93
    subst hjm
    obtain ⟨m, rfl⟩ : ∃ i, j = i + 1 := ⟨j - 1, by omega⟩
    refine AT_seq_k fun K94 hK94 => ?_
    cases hdot : u.is L [46]
    ·
     refine AT_seq_region fun K95 hK95 => ?_
     simp [encP, h91, hdot]
     repeat refine sg ?_
     refine RVn_call ((by have h := c_ref07x_Is g L hn u hk1 [46]; simp only [encP] at h; exact h)) ?_
     simp [encP, h91, hdot]
     repeat refine sg ?_
     refine hK95 _ ?_
     clear hK95 K95
     refine AT_cond (b := false) (g := none) (by simp [h91, hdot]) (fun hb => ?_) (fun hb => ?_)
     ·
      cases hb
     ·
      clear hb
      refine AT_exit ?_
      try simp only [nrm, reduceIte, Nat.reduceEqDiff]
      refine hK92 _ ?_
      refine AT_seq_draw_m false [(1, 1), (2, 2), (3, 3), (4, 4)] Pt.mixed (by kernel_rfl) ⟨by simp [Im, okP, AS.get, look, TV.strip], fun h => by cases h⟩ fun K96 hK96 => ?_
      simp [encP, h91, hdot]
      repeat refine sg ?_
      refine hK96 _ ?_
      clear hK96 K96
      refine AT_ret ?_
      simp [encP, Tryz.f21]
      rw [exprR, hq, dotsR, if_neg (by simp [hdot])]; simp [encP]
    ·
     have hub := (Pl.is_bad hdot).1
     have hkv : u.k + 1 < L.length := Pl.adv_lt hE hk1 hdot
     have hvr : row (L.map encK) (u.k + 1) = encK (hdK L (⟨u.k + 1, false⟩ : Pl)) := row_hdK (p := (⟨u.k + 1, false⟩ : Pl)) hkv
     have hvn := Pl.name_lt hE (p := (⟨u.k + 1, false⟩ : Pl)) hkv
     have hvg := targsR_lt hE (typeR_lt hE q) _ hvn.2
     have hvm := Pl.must_lt hE [40] hvg.2
     have hvk : u.k + 1 ≤ (Pl.name L (⟨u.k + 1, false⟩ : Pl)).k := hvn.1
     have hvc := argsR_count (L := L) (exprR L q) [41] ((targsR L (typeR L q) (Pl.name L (⟨u.k + 1, false⟩ : Pl))).2.must L [40])
     refine AT_seq_region fun K97 hK97 => ?_
     simp [encP, h91, hdot]
     repeat refine sg ?_
     refine RVn_call ((by have h := c_ref07x_Is g L hn u hk1 [46]; simp only [encP] at h; exact h)) ?_
     simp [encP, h91, hdot]
     repeat refine sg ?_
     refine hK97 _ ?_
     clear hK97 K97
     refine AT_cond (b := true) (g := none) (by simp [h91, hdot]) (fun hb => ?_) (fun hb => ?_)
     ·
      clear hb
      refine AT_skip ?_
      try simp only [nrm, reduceIte, Nat.reduceEqDiff]
      refine hK94 _ ?_
      refine AT_block ?_
      refine AT_seq_region fun K98 hK98 => ?_
      simp [encP, hub, h91, hdot]
      repeat refine sg ?_
      refine hK98 _ ?_
      clear hK98 K98
      refine AT_seq_region fun K99 hK99 => ?_
      simp [encP, encE_mk, h91, hdot]
      repeat refine sg ?_
      refine hK99 _ ?_
      clear hK99 K99
      refine AT_seq_k fun K100 hK100 => ?_
      cases h40 : (⟨u.k + 1, false⟩ : Pl).is L [40]
      ·
       refine AT_seq_region fun K101 hK101 => ?_
       simp [encP, h91, hdot, h40]
       repeat refine sg ?_
       refine RVn_call ((by have h := c_ref07x_Is g L hn (⟨u.k + 1, false⟩ : Pl) hkv [40]; simpa [encP] using h)) ?_
       simp [encP, h91, hdot, h40]
       repeat refine sg ?_
       refine hK101 _ ?_
       clear hK101 K101
       refine AT_cond (b := false) (g := none) (by simp [h91, hdot, h40]) (fun hb => ?_) (fun hb => ?_)
       ·
        cases hb
       ·
        clear hb
        refine AT_skip ?_
        try simp only [nrm, reduceIte, Nat.reduceEqDiff]
        refine hK100 _ ?_
        refine AT_seq_region fun K102 hK102 => ?_
        simp [encP, h91, hdot, h40]
        repeat refine sg ?_
        refine hK102 _ ?_
        clear hK102 K102
        refine AT_seq_region fun K103 hK103 => ?_
        simp [encP, h91, hdot, h40]
        repeat refine sg ?_
        refine RVn_call ((by have h := c_ref07x_Name g L hn (⟨u.k + 1, false⟩ : Pl) hkv hL; simpa [encP] using h)) ?_
        simp [encP, h91, hdot, h40]
        repeat refine sg ?_
        refine hK103 _ ?_
        clear hK103 K103
        refine AT_seq_k fun K104 hK104 => ?_
        cases g91 : (Pl.name L (⟨u.k + 1, false⟩ : Pl)).is L [91]
        ·
         cases g40 : (Pl.name L (⟨u.k + 1, false⟩ : Pl)).is L [40]
         ·
          refine AT_seq_region fun K105 hK105 => ?_
          simp [encP, h91, hdot, h40, g91, g40]
          repeat refine sg ?_
          try (
           refine RVn_call ((by have h := c_ref07x_Is g L hn (Pl.name L (⟨u.k + 1, false⟩ : Pl)) hvn.2 [91]; simp only [encP] at h; exact h)) ?_
           simp [encP, h91, hdot, h40, g91, g40]
           repeat refine sg ?_)
          try (
           refine RVn_call ((by have h := c_ref07x_Is g L hn (Pl.name L (⟨u.k + 1, false⟩ : Pl)) hvn.2 [40]; simp only [encP] at h; exact h)) ?_
           simp [encP, h91, hdot, h40, g91, g40]
           repeat refine sg ?_)
          refine hK105 _ ?_
          clear hK105 K105
          refine AT_cond (b := false) (g := none) (by simp [h91, hdot, h40, g91, g40]) (fun hb => ?_) (fun hb => ?_)
          ·
           cases hb
          ·
           clear hb
           refine AT_skip ?_
           try simp only [nrm, reduceIte, Nat.reduceEqDiff]
           refine hK104 _ ?_
           first | (refine AT_str (Gives.weakX 5 6 rfl rfl) ?_; simp only [List.set_cons_succ, List.set_cons_zero]) | skip
           refine AT_region_q fun K106 hK106 => ?_
           simp [encP, h91, hdot, h40, g91, g40]
           repeat refine sg ?_
           refine hK106 _ ?_
           clear hK106 K106
           try simp only [nrm, reduceIte, Nat.reduceEqDiff]
           refine hK93 _ (by first | rfl | simp) (m) (by omega) ?_
           have hr := restR_lt hE (typeR_lt hE q) (exprR_lt hE q) e (⟨u.k + 1, false⟩ : Pl) hkv
           have hr1 : u.k + 1 ≤ ((restR L (typeR L q) (exprR L q)) e (⟨u.k + 1, false⟩ : Pl)).2.k := hr.1
           refine ⟨((restR L (typeR L q) (exprR L q)) e (⟨u.k + 1, false⟩ : Pl)).1, ((restR L (typeR L q) (exprR L q)) e (⟨u.k + 1, false⟩ : Pl)).2, m, ?_, ⟨hr.2, by omega, by omega⟩, rfl, ?_⟩
           · rw [hq, dotsR, if_pos hdot, show u.adv = (⟨u.k + 1, false⟩ : Pl) by simp [Pl.adv, hub]]
           · first
             | (simp [restR, h40, Pl.adv, encE_mk, encTy_def, encP]; done)
             | (simp [restR, h40, g91, g40, Pl.adv, encE_mk, encTy_def, encP, ty0]; done)
             | (simp [restR, h40, g91, Pl.adv, encE_mk, encTy_def, encP, ty0]; done)
             | (simp [restR, h40, g40, Pl.adv, encE_mk, encTy_def, encP, ty0]; done)
         ·
          refine AT_seq_region fun K107 hK107 => ?_
          simp [encP, h91, hdot, h40, g91, g40]
          repeat refine sg ?_
          try (
           refine RVn_call ((by have h := c_ref07x_Is g L hn (Pl.name L (⟨u.k + 1, false⟩ : Pl)) hvn.2 [91]; simp only [encP] at h; exact h)) ?_
           simp [encP, h91, hdot, h40, g91, g40]
           repeat refine sg ?_)
          try (
           refine RVn_call ((by have h := c_ref07x_Is g L hn (Pl.name L (⟨u.k + 1, false⟩ : Pl)) hvn.2 [40]; simp only [encP] at h; exact h)) ?_
           simp [encP, h91, hdot, h40, g91, g40]
           repeat refine sg ?_)
          refine hK107 _ ?_
          clear hK107 K107
          refine AT_cond (b := true) (g := none) (by simp [h91, hdot, h40, g91, g40]) (fun hb => ?_) (fun hb => ?_)
          ·
           clear hb
           refine AT_seq_region fun K108 hK108 => ?_
           simp [encP, h91, hdot, h40, g91, g40]
           repeat refine sg ?_
           refine hK108 _ ?_
           clear hK108 K108
           refine AT_seq_region fun K109 hK109 => ?_
           simp [encP, h91, hdot, h40, g91, g40]
           repeat refine sg ?_
           refine RVn_call ((by have h := c_ref07x_targs g L hE hn q q hT (Pl.name L (⟨u.k + 1, false⟩ : Pl)) hvn.2 (fun h => by have : (Pl.name L (⟨u.k + 1, false⟩ : Pl)).adv.k = (Pl.name L (⟨u.k + 1, false⟩ : Pl)).k + 1 := rfl; omega); simp only [encP] at h; exact h)) ?_
           simp [encP, h91, hdot, h40, g91, g40]
           repeat refine sg ?_
           refine hK109 _ ?_
           clear hK109 K109
           refine AT_seq_region fun K110 hK110 => ?_
           simp [encP, h91, hdot, h40, g91, g40]
           repeat refine sg ?_
           refine RVn_call ((by have h := c_ref07x_Must g L hn (targsR L (typeR L q) (Pl.name L (⟨u.k + 1, false⟩ : Pl))).2 hvg.2 [40]; simp only [encP] at h; exact h)) ?_
           simp [encP, h91, hdot, h40, g91, g40]
           repeat refine sg ?_
           refine hK110 _ ?_
           clear hK110 K110
           refine AT_seq_region fun K111 hK111 => ?_
           simp [encP, h91, hdot, h40, g91, g40]
           repeat refine sg ?_
           refine hK111 _ ?_
           clear hK111 K111
           refine AT_seq_region fun K112 hK112 => ?_
           simp [encP, h91, hdot, h40, g91, g40]
           repeat refine sg ?_
           refine RVn_call ((by have h := c_ref07x_args g L hE hn q q ih [41] ((targsR L (typeR L q) (Pl.name L (⟨u.k + 1, false⟩ : Pl))).2.must L [40]) hvm.2 (fun _ => by omega); simp only [encP] at h; exact h)) ?_
           simp [encP, h91, hdot, h40, g91, g40]
           repeat refine sg ?_
           refine hK112 _ ?_
           clear hK112 K112
           refine AT_region_q fun K113 hK113 => ?_
           simp [encP, h91, hdot, h40, g91, g40]
           repeat refine sg ?_
           refine hK113 _ ?_
           clear hK113 K113
           try simp only [nrm, reduceIte, Nat.reduceEqDiff]
           refine hK104 _ ?_
           first | (refine AT_str (Gives.weakX 5 6 rfl rfl) ?_; simp only [List.set_cons_succ, List.set_cons_zero]) | skip
           refine AT_region_q fun K114 hK114 => ?_
           simp [encP, h91, hdot, h40, g91, g40]
           repeat refine sg ?_
           refine hK114 _ ?_
           clear hK114 K114
           try simp only [nrm, reduceIte, Nat.reduceEqDiff]
           refine hK93 _ (by first | rfl | simp) (m) (by omega) ?_
           have hr := restR_lt hE (typeR_lt hE q) (exprR_lt hE q) e (⟨u.k + 1, false⟩ : Pl) hkv
           have hr1 : u.k + 1 ≤ ((restR L (typeR L q) (exprR L q)) e (⟨u.k + 1, false⟩ : Pl)).2.k := hr.1
           refine ⟨((restR L (typeR L q) (exprR L q)) e (⟨u.k + 1, false⟩ : Pl)).1, ((restR L (typeR L q) (exprR L q)) e (⟨u.k + 1, false⟩ : Pl)).2, m, ?_, ⟨hr.2, by omega, by omega⟩, rfl, ?_⟩
           · rw [hq, dotsR, if_pos hdot, show u.adv = (⟨u.k + 1, false⟩ : Pl) by simp [Pl.adv, hub]]
           · first
             | (simp [restR, h40, Pl.adv, encE_mk, encTy_def, encP]; done)
             | (simp [restR, h40, g91, g40, Pl.adv, encE_mk, encTy_def, encP, ty0]; done)
             | (simp [restR, h40, g91, Pl.adv, encE_mk, encTy_def, encP, ty0]; done)
             | (simp [restR, h40, g40, Pl.adv, encE_mk, encTy_def, encP, ty0]; done)
          ·
           cases hb
        ·
         refine AT_seq_region fun K115 hK115 => ?_
         simp [encP, h91, hdot, h40, g91]
         repeat refine sg ?_
         try (
          refine RVn_call ((by have h := c_ref07x_Is g L hn (Pl.name L (⟨u.k + 1, false⟩ : Pl)) hvn.2 [91]; simp only [encP] at h; exact h)) ?_
          simp [encP, h91, hdot, h40, g91]
          repeat refine sg ?_)
         try (
          refine RVn_call ((by have h := c_ref07x_Is g L hn (Pl.name L (⟨u.k + 1, false⟩ : Pl)) hvn.2 [40]; simp only [encP] at h; exact h)) ?_
          simp [encP, h91, hdot, h40, g91]
          repeat refine sg ?_)
         refine hK115 _ ?_
         clear hK115 K115
         refine AT_cond (b := true) (g := none) (by simp [h91, hdot, h40, g91]) (fun hb => ?_) (fun hb => ?_)
         ·
          clear hb
          refine AT_seq_region fun K116 hK116 => ?_
          simp [encP, h91, hdot, h40, g91]
          repeat refine sg ?_
          refine hK116 _ ?_
          clear hK116 K116
          refine AT_seq_region fun K117 hK117 => ?_
          simp [encP, h91, hdot, h40, g91]
          repeat refine sg ?_
          refine RVn_call ((by have h := c_ref07x_targs g L hE hn q q hT (Pl.name L (⟨u.k + 1, false⟩ : Pl)) hvn.2 (fun h => by have : (Pl.name L (⟨u.k + 1, false⟩ : Pl)).adv.k = (Pl.name L (⟨u.k + 1, false⟩ : Pl)).k + 1 := rfl; omega); simp only [encP] at h; exact h)) ?_
          simp [encP, h91, hdot, h40, g91]
          repeat refine sg ?_
          refine hK117 _ ?_
          clear hK117 K117
          refine AT_seq_region fun K118 hK118 => ?_
          simp [encP, h91, hdot, h40, g91]
          repeat refine sg ?_
          refine RVn_call ((by have h := c_ref07x_Must g L hn (targsR L (typeR L q) (Pl.name L (⟨u.k + 1, false⟩ : Pl))).2 hvg.2 [40]; simp only [encP] at h; exact h)) ?_
          simp [encP, h91, hdot, h40, g91]
          repeat refine sg ?_
          refine hK118 _ ?_
          clear hK118 K118
          refine AT_seq_region fun K119 hK119 => ?_
          simp [encP, h91, hdot, h40, g91]
          repeat refine sg ?_
          refine hK119 _ ?_
          clear hK119 K119
          refine AT_seq_region fun K120 hK120 => ?_
          simp [encP, h91, hdot, h40, g91]
          repeat refine sg ?_
          refine RVn_call ((by have h := c_ref07x_args g L hE hn q q ih [41] ((targsR L (typeR L q) (Pl.name L (⟨u.k + 1, false⟩ : Pl))).2.must L [40]) hvm.2 (fun _ => by omega); simp only [encP] at h; exact h)) ?_
          simp [encP, h91, hdot, h40, g91]
          repeat refine sg ?_
          refine hK120 _ ?_
          clear hK120 K120
          refine AT_region_q fun K121 hK121 => ?_
          simp [encP, h91, hdot, h40, g91]
          repeat refine sg ?_
          refine hK121 _ ?_
          clear hK121 K121
          try simp only [nrm, reduceIte, Nat.reduceEqDiff]
          refine hK104 _ ?_
          first | (refine AT_str (Gives.weakX 5 6 rfl rfl) ?_; simp only [List.set_cons_succ, List.set_cons_zero]) | skip
          refine AT_region_q fun K122 hK122 => ?_
          simp [encP, h91, hdot, h40, g91]
          repeat refine sg ?_
          refine hK122 _ ?_
          clear hK122 K122
          try simp only [nrm, reduceIte, Nat.reduceEqDiff]
          refine hK93 _ (by first | rfl | simp) (m) (by omega) ?_
          have hr := restR_lt hE (typeR_lt hE q) (exprR_lt hE q) e (⟨u.k + 1, false⟩ : Pl) hkv
          have hr1 : u.k + 1 ≤ ((restR L (typeR L q) (exprR L q)) e (⟨u.k + 1, false⟩ : Pl)).2.k := hr.1
          refine ⟨((restR L (typeR L q) (exprR L q)) e (⟨u.k + 1, false⟩ : Pl)).1, ((restR L (typeR L q) (exprR L q)) e (⟨u.k + 1, false⟩ : Pl)).2, m, ?_, ⟨hr.2, by omega, by omega⟩, rfl, ?_⟩
          · rw [hq, dotsR, if_pos hdot, show u.adv = (⟨u.k + 1, false⟩ : Pl) by simp [Pl.adv, hub]]
          · first
            | (simp [restR, h40, Pl.adv, encE_mk, encTy_def, encP]; done)
            | (simp [restR, h40, g91, g40, Pl.adv, encE_mk, encTy_def, encP, ty0]; done)
            | (simp [restR, h40, g91, Pl.adv, encE_mk, encTy_def, encP, ty0]; done)
            | (simp [restR, h40, g40, Pl.adv, encE_mk, encTy_def, encP, ty0]; done)
         ·
          cases hb
      ·
       have hk2v : u.k + 1 + 1 < L.length := Pl.adv_lt hE (p := (⟨u.k + 1, false⟩ : Pl)) hkv h40
       have htv := typeR_lt hE q (⟨u.k + 1 + 1, false⟩ : Pl) hk2v
       refine AT_seq_region fun K123 hK123 => ?_
       simp [encP, h91, hdot, h40]
       repeat refine sg ?_
       refine RVn_call ((by have h := c_ref07x_Is g L hn (⟨u.k + 1, false⟩ : Pl) hkv [40]; simpa [encP] using h)) ?_
       simp [encP, h91, hdot, h40]
       repeat refine sg ?_
       refine hK123 _ ?_
       clear hK123 K123
       refine AT_cond (b := true) (g := none) (by simp [h91, hdot, h40]) (fun hb => ?_) (fun hb => ?_)
       ·
        clear hb
        refine AT_str (Gives.weakX 5 6 rfl rfl) ?_
        simp only [List.set_cons_succ, List.set_cons_zero]
        refine AT_seq_region fun K124 hK124 => ?_
        simp [encP, h91, hdot, h40]
        repeat refine sg ?_
        refine hK124 _ ?_
        clear hK124 K124
        refine AT_seq_region fun K125 hK125 => ?_
        simp [encP, hvr, encK, h91, hdot, h40]
        repeat refine sg ?_
        refine hK125 _ ?_
        clear hK125 K125
        refine AT_seq_region fun K126 hK126 => ?_
        simp [encP, h91, hdot, h40]
        repeat refine sg ?_
        refine hK126 _ ?_
        clear hK126 K126
        refine AT_seq_region fun K127 hK127 => ?_
        simp [encP, encTy_def, h91, hdot, h40]
        repeat refine sg ?_
        refine RVn_call ((by have h := c_ref07x_Type g L hE hn hL q (⟨u.k + 1 + 1, false⟩ : Pl) (by show L.length - (u.k + 1 + 1) < q; omega) hk2v; simpa [encP] using h)) ?_
        simp [encP, encTy_def, h91, hdot, h40]
        repeat refine sg ?_
        refine hK127 _ ?_
        clear hK127 K127
        refine AT_seq_region fun K128 hK128 => ?_
        simp [encP, h91, hdot, h40]
        repeat refine sg ?_
        refine RVn_call ((by have h := c_ref07x_Must g L hn (typeR L q (⟨u.k + 1 + 1, false⟩ : Pl)).2 htv.2 [41]; simp only [encP] at h; exact h)) ?_
        simp [encP, h91, hdot, h40]
        repeat refine sg ?_
        refine hK128 _ ?_
        clear hK128 K128
        refine AT_seq_region fun K129 hK129 => ?_
        simp [encP, encE_mk, encTy_def, h91, hdot, h40]
        repeat refine sg ?_
        refine hK129 _ ?_
        clear hK129 K129
        refine AT_exit ?_
        try simp only [nrm, reduceIte, Nat.reduceEqDiff]
        refine hK93 _ (by first | rfl | simp) (m) (by omega) ?_
        have hr := restR_lt hE (typeR_lt hE q) (exprR_lt hE q) e (⟨u.k + 1, false⟩ : Pl) hkv
        have hr1 : u.k + 1 ≤ ((restR L (typeR L q) (exprR L q)) e (⟨u.k + 1, false⟩ : Pl)).2.k := hr.1
        refine ⟨((restR L (typeR L q) (exprR L q)) e (⟨u.k + 1, false⟩ : Pl)).1, ((restR L (typeR L q) (exprR L q)) e (⟨u.k + 1, false⟩ : Pl)).2, m, ?_, ⟨hr.2, by omega, by omega⟩, rfl, ?_⟩
        · rw [hq, dotsR, if_pos hdot, show u.adv = (⟨u.k + 1, false⟩ : Pl) by simp [Pl.adv, hub]]
        · first
          | (simp [restR, h40, Pl.adv, encE_mk, encTy_def, encP]; done)
          | (simp [restR, h40, g91, g40, Pl.adv, encE_mk, encTy_def, encP, ty0]; done)
          | (simp [restR, h40, g91, Pl.adv, encE_mk, encTy_def, encP, ty0]; done)
          | (simp [restR, h40, g40, Pl.adv, encE_mk, encTy_def, encP, ty0]; done)
       ·
        cases hb
     ·
      cases hb
  ·
   cases hb

end Go.Proofs.YtpjkdaechknogaaGreatDoor
